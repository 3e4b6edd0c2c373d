/-
  What each function that the law 'FnExactWalksBefore' comes to does: the contracts.
-/
import Derived.Test.YtkphbhochacllaaWalksBeforeU
import Derived.Test.YtkphbhochacllaaM4
set_option linter.unusedVariables false
set_option linter.unusedSimpArgs false
namespace Go.Proofs.Ytkphbhochacllaa
open Go Go.Mx
@[reducible] def tI : TypeId := 3
@[reducible] def tIs : TypeId := 25
@[reducible] def tIss : TypeId := 22
theorem rIs : rowC Try.prog tIs = some (tI, 1, 8, [VI 0]) := by kernel_rfl
theorem rIss : rowC Try.prog tIss = some (tIs, 1, 24, [nilSl.v]) := by kernel_rfl
@[reducible] def OwI (h : Heap) (F : Nat → Prop) (s : Sl) (xs : List Int) : Prop := Ow h F tI 1 s (xs.map VI)
@[reducible] def OwX (h : Heap) (F : Nat → Prop) (s : Sl) (xss : List (List Int)) : Prop := OwR h F tIs tI s xss
theorem plainVI (xs : List Int) : (xs.map VI).all plainV = true := by simp [List.all_eq_true, plainV]

theorem k_bool {f : FuncId} {args : Array Value} {h : Heap} {v w : Value} (H : Ret Try.prog f args h v) (e : v = w) : Ret Try.prog f args h w := e ▸ H

theorem k_impl_in (n lo hi : Int) (h : Heap) (K : Value → Heap → Prop) (H : K (VB (decide (lo ≤ n) && decide (n ≤ hi))) h) : callM Try.prog 75 #[VI n, VI lo, VI hi] h K := by
  refine v75 n lo hi h K ⟨fun e => ?_, fun e => ?_⟩
  · rw [e, Bool.true_and] at H; exact H
  · rw [e, Bool.false_and] at H; exact H

theorem k_spec_l1In (n lo hi : Int) (h : Heap) (K : Value → Heap → Prop) (H : K (VB (decide (lo ≤ n) && decide (n ≤ hi))) h) : callM Try.prog 74 #[VI n, VI lo, VI hi] h K := by
  refine v74 n lo hi h K ⟨fun e => ?_, fun e => ?_⟩
  · rw [e, Bool.true_and] at H; exact H
  · rw [e, Bool.false_and] at H; exact H

def inR (lo hi x : Int) : Bool := decide (lo ≤ x) && decide (x ≤ hi)
def graphB (g : List (List Int)) : Bool := inR 1 8 g.length && g.all fun l => !decide (5 < (l.length : Int)) && l.all (inR 0 ((g.length : Int) - 1))
theorem not_t {b : Bool} (h : (!b) = true) : b = false := by simpa using h
theorem not_f {b : Bool} (h : (!b) = false) : b = true := by simpa using h

theorem k_spec_l1All {S : Nat → Prop} {h : Heap} {l : Sl} {xs : List Int} (H : RdI S h l xs) (lo hi_1 : Int) (K : Value → Heap → Prop) (HK : K (VB (xs.all (inR lo hi_1))) h) : callM Try.prog 108 #[l.v, VI lo, VI hi_1] h K := by
  refine v108 l lo hi_1 h K ?_
  refine ⟨fun n i h' => h' = h ∧ 0 ≤ i ∧ i + n = (xs.length : Int) ∧ xs.all (inR lo hi_1) = (xs.drop i.toNat).all (inR lo hi_1), ⟨xs.length, rfl, by omega, by omega, by simp⟩, ?_⟩
  rintro n i _ ⟨rfl, h0, h1, h2⟩ hL
  refine ⟨fun e => ?_, fun e => ?_⟩
  · have hi := H.lt e
    refine ⟨H.inb h0 hi, _, H.get h0 hi, ?_⟩
    rw [drop_cons xs h0 hi, List.all_cons] at h2
    refine k_spec_l1In _ _ _ _ _ ⟨_, rfl, hL, fun e2 => ?_, fun e2 => ?_⟩
    · have e3 : inR lo hi_1 (xs[i.toNat]'(by omega)) = false := not_t e2
      rw [h2, e3] at HK
      exact HK
    · have e3 : inR lo hi_1 (xs[i.toNat]'(by omega)) = true := not_f e2
      rw [e3, Bool.true_and] at h2
      rw [H.succ h0 hi]
      exact ⟨n - 1, by omega, rfl, by omega, by omega, h2⟩
  · have hi := H.ge e
    rw [List.drop_of_length_le (by omega)] at h2
    rw [h2] at HK
    exact HK

theorem k_spec_grGood {S : Nat → Prop} {h : Heap} {g : Sl} {xss : List (List Int)} (H : RdR S h g xss) : Ret Try.prog 97 #[.agg #[g.v]] h (VB (graphB xss)) := by
  intro K HK
  refine v97 g h K ?_
  intro b1 h1 hb1 hf1 hL1
  have f1 := hf1.in_nil
  have hlen := H.len
  refine k_spec_l1In _ _ _ _ _ ⟨_, rfl, hL1, fun e => ?_, fun e => ?_⟩
  · have e3 : inR 1 8 xss.length = false := by have := not_t e; rw [hlen] at this; exact this
    have : graphB xss = false := by unfold graphB; rw [e3]; rfl
    rw [← this]; exact HK _ f1
  · have e3 : inR 1 8 xss.length = true := by have := not_f e; rw [hlen] at this; exact this
    have hw : w64 ((g.n : Int) - 1) = (xss.length : Int) - 1 := by rw [hlen]; exact w64_eq _ (by omega) (by have := maxLen_lt H.big; omega)
    have hg : graphB xss = xss.all fun l => !decide (5 < (l.length : Int)) && l.all (inR 0 ((xss.length : Int) - 1)) := by unfold graphB; rw [e3]; rfl
    rw [hw]
    refine ⟨fun n i h' => Fr No h1 h' ∧ 0 ≤ i ∧ i + n = (xss.length : Int) ∧ graphB xss = (xss.drop i.toNat).all (fun l => !decide (5 < (l.length : Int)) && l.all (inR 0 ((xss.length : Int) - 1))), ⟨xss.length, Fr.refl _ _, by omega, by omega, by simp [hg]⟩, ?_⟩
    rintro n i h3 ⟨f3, h0, h2, h4⟩ hL
    have H3 := (H.no f1).no f3
    refine ⟨fun e => ?_, fun e => ?_⟩
    · have hi := H.lt e
      obtain ⟨si, hc, Hi⟩ := H3.get h0 hi
      refine ⟨H3.inb h0 hi, si, hc, fun e5 => ?_, fun e5 => ?_⟩
      · rw [drop_cons xss h0 hi, List.all_cons] at h4
        rw [Hi.len] at e5
        rw [e5] at h4
        have h5 : graphB xss = false := by rw [h4]; rfl
        rw [← h5]; exact HK _ (f1.trans f3)
      · rw [drop_cons xss h0 hi, List.all_cons] at h4
        rw [Hi.len] at e5
        rw [e5] at h4
        refine k_spec_l1All Hi _ _ _ ⟨_, rfl, hL, fun e6 => ?_, fun e6 => ?_⟩
        · rw [not_t e6] at h4
          have h5 : graphB xss = false := by rw [h4]; rfl
          rw [← h5]; exact HK _ (f1.trans f3)
        · rw [not_f e6] at h4
          rw [H.succ h0 hi]
          exact ⟨n - 1, by omega, f3, by omega, by omega, by rw [h4]; rfl⟩
    · have hi := H.ge e
      rw [List.drop_of_length_le (by omega)] at h4
      have h5 : graphB xss = true := by rw [h4]; rfl
      rw [← h5]; exact HK _ (f1.trans f3)

theorem k_IndexFunc {S : Nat → Prop} {h : Heap} {s : Sl} {xs : List Int} (H : RdI S h s xs) (f : Value) (p : Int → Bool) (hf : ∀ (x : Int) (K : Value → Heap → Prop), K (VB (p x)) h → callV Try.prog f [VI x] h K) (K : Value → Heap → Prop) (HK : ∀ r : Int, decide (0 ≤ r) = xs.any p → K (VI r) h) : callM Try.prog 110 #[s.v, f] h K := by
  refine v110 s f h K ⟨fun n i h' => h' = h ∧ 0 ≤ i ∧ i + n = (xs.length : Int) ∧ xs.any p = (xs.drop i.toNat).any p, ⟨xs.length, rfl, by omega, by omega, by simp⟩, ?_⟩
  rintro n i _ ⟨rfl, i0, i1, i2⟩ hL
  refine ⟨fun e => ?_, fun e => ?_⟩
  · have hi := H.lt e
    rw [drop_cons xs i0 hi, List.any_cons] at i2
    refine ⟨H.inb i0 hi, _, H.get i0 hi, hf _ _ ⟨_, rfl, .nil, fun e => ?_, fun e => ?_⟩⟩
    · rw [e, Bool.true_or] at i2
      exact HK _ (by rw [i2]; simpa using i0)
    · rw [e, Bool.false_or] at i2
      rw [H.succ i0 hi]
      exact ⟨n - 1, by omega, rfl, by omega, by omega, i2⟩
  · have hi := H.ge e
    rw [List.drop_of_length_le (by omega)] at i2
    exact HK _ (by rw [i2]; rfl)

theorem k_ContainsFunc {S : Nat → Prop} {h : Heap} {s : Sl} {xs : List Int} (H : RdI S h s xs) (f : Value) (p : Int → Bool) (hf : ∀ (x : Int) (K : Value → Heap → Prop), K (VB (p x)) h → callV Try.prog f [VI x] h K) (K : Value → Heap → Prop) (HK : K (VB (xs.any p)) h) : callM Try.prog 99 #[s.v, f] h K := by
  refine v99 s f h K (k_IndexFunc H f p hf _ fun r hr => ⟨r, rfl, .nil, ?_⟩)
  rw [hr]; exact HK

theorem k_isGraph1 {h : Heap} {b : Nat} {n : Int} (x : Int) {L : List (Nat × List Value)} (hL : Vars h ((b, [VI n]) :: L)) (K : Value → Heap → Prop) (HK : K (VB (!inR 0 (w64 (n - 1)) x)) h) : callV Try.prog (.func (.func 109) #[] #[VP b 0]) [VI x] h K := by
  refine v109 x b n h K (.cons hL.head (by simp) .nil) ?_
  refine k_impl_in _ _ _ _ _ ⟨_, rfl, .cons hL.head (by simp) .nil, ?_⟩
  exact HK

theorem k_has1 {h : Heap} {b : Nat} {g : Sl} (x : Int) {L : List (Nat × List Value)} (hL : Vars h ((b, [g.v]) :: L)) (K : Value → Heap → Prop) (HK : K (VB (!inR 0 (w64 (g.n - 1)) x)) h) : callV Try.prog (.func (.func 100) #[] #[VP b 0]) [VI x] h K := by
  refine v100 x b g h K (.cons hL.head (by simp) .nil) ?_
  refine k_impl_in _ _ _ _ _ ⟨_, rfl, .cons hL.head (by simp) .nil, ?_⟩
  exact HK

theorem graphB_eq {xss : List (List Int)} (e3 : inR 1 8 xss.length = true) : graphB xss = xss.all fun l => !decide (5 < (l.length : Int)) && l.all (inR 0 ((xss.length : Int) - 1)) := by unfold graphB; rw [e3]; rfl
theorem graphB_no {xss : List (List Int)} (e3 : inR 1 8 xss.length = false) : graphB xss = false := by unfold graphB; rw [e3]; rfl
theorem any_not {xs : List Int} {p : Int → Bool} : xs.any (fun x => !p x) = !xs.all p := by
  induction xs with
  | nil => rfl
  | cons x xs ih => simp only [List.any_cons, List.all_cons, ih, Bool.not_and]
theorem len_w64 {S : Nat → Prop} {h : Heap} {g : Sl} {xss : List (List Int)} (H : RdR S h g xss) : w64 ((g.n : Int) - 1) = (xss.length : Int) - 1 := by
  rw [H.len]
  have h1 := maxLen_lt H.big
  have h2 := H.len
  exact w64_eq _ (by omega) (by omega)

theorem k_isGraph {S : Nat → Prop} {h : Heap} {g : Sl} {xss : List (List Int)} (H : RdR S h g xss) : Ret Try.prog 98 #[.agg #[g.v]] h (VB (graphB xss)) := by
  intro K HK
  refine v98 g h K fun b1 b2 h1 hb1 hb2 hf1 hL1 => ?_
  have f1 := hf1.in_nil
  have hlen := H.len
  refine k_impl_in _ _ _ _ _ ⟨_, rfl, hL1, fun e => ?_, fun e => ?_⟩
  · have e3 : inR 1 8 xss.length = false := by have := not_t e; rw [hlen] at this; exact this
    rw [← graphB_no e3]; exact HK _ f1
  · have e3 : inR 1 8 xss.length = true := by have := not_f e; rw [hlen] at this; exact this
    have hg := graphB_eq e3
    refine ⟨fun n i x h' => h' = h1 ∧ x = (g.n : Int) ∧ 0 ≤ i ∧ i + n = (xss.length : Int) ∧ graphB xss = (xss.drop i.toNat).all (fun l => !decide (5 < (l.length : Int)) && l.all (inR 0 ((xss.length : Int) - 1))), ⟨xss.length, rfl, rfl, by omega, by omega, by simp [hg]⟩, ?_⟩
    rintro n i x _ ⟨rfl, rfl, h0, h2, h4⟩ hL
    have H3 := H.no f1
    refine ⟨fun e => ?_, fun e => ?_⟩
    · have hi := H.lt e
      obtain ⟨si, hc, Hi⟩ := H3.get h0 hi
      rw [drop_cons xss h0 hi, List.all_cons] at h4
      refine ⟨H3.inb h0 hi, si, hc, fun e5 => ?_, fun e5 => ?_⟩
      · rw [Hi.len] at e5
        rw [e5] at h4
        have h5 : graphB xss = false := by rw [h4]; rfl
        rw [← h5]; exact HK _ f1
      · rw [Hi.len] at e5
        rw [e5] at h4
        refine k_ContainsFunc Hi _ _ (fun x K HK => k_isGraph1 x hL K HK) _ ?_
        refine ⟨_, _, rfl, hL, fun e6 => ?_, fun e6 => ?_⟩
        · rw [any_not, len_w64 H] at e6
          rw [not_t e6] at h4
          have h5 : graphB xss = false := by rw [h4]; rfl
          rw [← h5]; exact HK _ f1
        · rw [any_not, len_w64 H] at e6
          rw [not_f e6] at h4
          rw [H.succ h0 hi]
          exact ⟨n - 1, by omega, rfl, rfl, by omega, by omega, by rw [h4]; rfl⟩
    · have hi := H.ge e
      rw [List.drop_of_length_le (by omega)] at h4
      have h5 : graphB xss = true := by rw [h4]; rfl
      rw [← h5]; exact HK _ f1

theorem k_has {S S' : Nat → Prop} {h : Heap} {g s : Sl} {xss : List (List Int)} {ps : List Int} (H : RdR S h g xss) (Hp : RdI S' h s ps) : Ret Try.prog 68 #[.agg #[g.v], s.v] h (VB (graphB xss && ps.all (inR 0 ((xss.length : Int) - 1)))) := by
  intro K HK
  refine v68 g s h K fun b1 h1 hb1 f1 hL1 => ?_
  have f1 := f1.in_nil
  refine k_isGraph (H.no f1) _ fun h2 f2 => ⟨_, rfl, hL1.of_no f2, fun e => ?_, fun e => ?_⟩
  · rw [e, Bool.true_and] at HK
    have hL2 := hL1.of_no f2
    refine k_ContainsFunc ((Hp.no f1).no f2) _ _ (fun x K HK => k_has1 x hL2 K HK) _ ?_
    refine ⟨_, _, rfl, hL2, ?_⟩
    rw [any_not, len_w64 H, Bool.not_not]
    exact HK _ (f1.trans f2)
  · rw [e, Bool.false_and] at HK
    exact HK _ (f1.trans f2)

theorem k_spec_grPlace {S : Nat → Prop} {h : Heap} {g : Sl} {xss : List (List Int)} (H : RdR S h g xss) (p : Int) : Ret Try.prog 64 #[.agg #[g.v], VI p] h (VB (graphB xss && inR 0 ((xss.length : Int) - 1) p)) := by
  intro K HK
  refine v64 g p h K fun b1 h1 hb1 f1 hL1 => ?_
  have f1 := f1.in_nil
  refine k_spec_grGood (H.no f1) _ fun h2 f2 => ⟨_, rfl, hL1.of_no f2, fun e => ?_, fun e => ?_⟩
  · rw [e, Bool.true_and] at HK
    refine k_spec_l1In _ _ _ _ _ ⟨_, rfl, hL1.of_no f2, ?_⟩
    rw [len_w64 H]
    exact HK _ (f1.trans f2)
  · rw [e, Bool.false_and] at HK
    exact HK _ (f1.trans f2)

theorem k_spec_l1Most (a b : Int) (h : Heap) (K : Value → Heap → Prop) (HK : K (VI (max a b)) h) : callM Try.prog 103 #[VI a, VI b] h K := by
  refine v103 a b h K ⟨fun e => ?_, fun e => ?_⟩
  · simp only [decide_eq_true_eq] at e
    rw [Int.max_eq_left (by omega)] at HK
    exact HK
  · simp only [decide_eq_false_iff_not] at e
    rw [Int.max_eq_right (by omega)] at HK
    exact HK

def rotB (l : List Int) (r : Int) : Bool := inR 0 (max ((l.length : Int) - 1) 0) r
def walkB (g : List (List Int)) (rs : List Int) (p : Int) : Bool := graphB g && inR 0 ((g.length : Int) - 1) p && decide (rs.length = g.length) && (g.zip rs).all fun q => rotB q.1 q.2
theorem walkB_no1 {g : List (List Int)} {rs : List Int} {p : Int} (e : (graphB g && inR 0 ((g.length : Int) - 1) p) = false) : walkB g rs p = false := by unfold walkB; rw [e]; rfl
theorem walkB_no2 {g : List (List Int)} {rs : List Int} {p : Int} (e : ¬ rs.length = g.length) : walkB g rs p = false := by unfold walkB; rw [decide_eq_false e]; simp
theorem walkB_eq {g : List (List Int)} {rs : List Int} {p : Int} (e : (graphB g && inR 0 ((g.length : Int) - 1) p) = true) (e2 : rs.length = g.length) : walkB g rs p = (g.zip rs).all fun q => rotB q.1 q.2 := by unfold walkB; rw [e, decide_eq_true e2]; rfl
theorem zip_drop (g : List (List Int)) (rs : List Int) {i : Int} (h0 : 0 ≤ i) (h1 : i < (g.length : Int)) (h2 : i < (rs.length : Int)) : (g.zip rs).drop i.toNat = (g[i.toNat]'(by omega), rs[i.toNat]'(by omega)) :: (g.zip rs).drop (i + 1).toNat := by
  have := drop_cons (g.zip rs) h0 (by simp; omega)
  simpa using this
theorem len_w64I {S : Nat → Prop} {h : Heap} {g : Sl} {xs : List Int} (H : RdI S h g xs) : w64 ((g.n : Int) - 1) = (xs.length : Int) - 1 := by
  rw [H.len]
  have h1 := maxLen_lt (RdV.big H)
  have h2 := H.len
  exact w64_eq _ (by omega) (by omega)

theorem k_isWalk {S S' : Nat → Prop} {h : Heap} {g s : Sl} {xss : List (List Int)} {rs : List Int} (G : RdR S h g xss) (H : RdI S' h s rs) (p : Int) : Ret Try.prog 81 #[.agg #[g.v], .agg #[s.v, VI p]] h (VB (walkB xss rs p)) := by
  intro K HK
  refine v81 g s p h K fun b1 b2 h1 hb1 hb2 f1 hL1 => ?_
  have f1 := f1.in_nil
  refine eop_lit rIs (fun k => h1.size ≤ k) (fun _ h => h) 1 (by omega) [VI p] rfl rfl fun t h2 n2 c2 o2 f2 l2 _ => ⟨t, rfl, hL1.of_no f2, ?_⟩
  have o2 : RdI (fun k => h1.size ≤ k) h2 t [p] := o2.rdF
  refine k_has ((G.no f1).no f2) o2 _ fun h3 f3 => ⟨_, rfl, (hL1.of_no f2).of_no f3, fun e => ?_, fun e => ?_⟩
  all_goals simp only [List.all_cons, List.all_nil, Bool.and_true] at e
  · rw [← walkB_no1 (rs := rs) (not_t e)]; exact HK _ ((f1.no_trans f2).no_trans f3)
  · have f13 := (f1.no_trans f2).no_trans f3
    rw [G.len, H.len]
    refine ⟨fun e2 => ?_, fun e2 => ?_⟩
    · have e3 := not_t e2
      simp only [decide_eq_false_iff_not] at e3
      rw [← walkB_no2 (g := xss) (rs := rs) (p := p) (by omega)]; exact HK _ f13
    · have e3 := not_f e2
      simp only [decide_eq_true_eq] at e3
      have e4 := walkB_eq (not_f e) (rs := rs) (by omega)
      have G3 := G.no f13
      have H3 := H.no f13
      refine ⟨fun n i h' => h' = h3 ∧ 0 ≤ i ∧ i + n = (xss.length : Int) ∧ walkB xss rs p = ((xss.zip rs).drop i.toNat).all fun q => rotB q.1 q.2, ⟨xss.length, rfl, by omega, by omega, by simpa using e4⟩, ?_⟩
      rintro n i _ ⟨rfl, i0, i1, i2⟩ hL
      refine ⟨fun e5 => ?_, fun e5 => ?_⟩
      · have hi : i < (rs.length : Int) := by simpa using e5
        have hi' : i < (xss.length : Int) := by omega
        obtain ⟨si, c1, c2⟩ := G3.get i0 hi'
        rw [zip_drop xss rs i0 hi' hi, List.all_cons] at i2
        refine ⟨H3.inb i0 hi, _, H3.get i0 hi, G3.inb i0 hi', si, c1, ?_⟩
        rw [len_w64I c2]
        refine pop_max _ _ _ _ ⟨_, rfl, k_impl_in _ _ _ _ _ ⟨_, rfl, hL, fun e6 => ?_, fun e6 => ?_⟩⟩
        · have e7 : rotB (xss[i.toNat]'(by omega)) (rs[i.toNat]'(by omega)) = false := not_t e6
          simp only at i2
          rw [e7] at i2
          have e8 : walkB xss rs p = false := by rw [i2]; rfl
          rw [← e8]; exact HK _ f13
        · have e7 : rotB (xss[i.toNat]'(by omega)) (rs[i.toNat]'(by omega)) = true := not_f e6
          simp only at i2
          rw [e7, Bool.true_and] at i2
          rw [H.succ i0 hi]
          exact ⟨n - 1, by omega, rfl, by omega, by omega, i2⟩
      · have hi : ¬ i < (rs.length : Int) := by simpa using e5
        rw [List.drop_of_length_le (by simp; omega)] at i2
        have e8 : walkB xss rs p = true := by rw [i2]; rfl
        rw [← e8]; exact HK _ f13

theorem k_spec_waGood {S S' : Nat → Prop} {h : Heap} {g s : Sl} {xss : List (List Int)} {rs : List Int} (G : RdR S h g xss) (H : RdI S' h s rs) (p : Int) : Ret Try.prog 78 #[.agg #[g.v], .agg #[s.v, VI p]] h (VB (walkB xss rs p)) := by
  intro K HK
  refine v78 g s p h K fun b1 b2 h1 hb1 hb2 f1 hL1 => ?_
  have f1 := f1.in_nil
  refine k_spec_grPlace (G.no f1) p _ fun h3 f3 => ⟨_, rfl, hL1.of_no f3, fun e => ?_, fun e => ?_⟩
  · rw [← walkB_no1 (rs := rs) (not_t e)]; exact HK _ (f1.no_trans f3)
  · have f13 := f1.no_trans f3
    rw [G.len, H.len]
    refine ⟨fun e2 => ?_, fun e2 => ?_⟩
    · have e3 := not_t e2
      simp only [decide_eq_false_iff_not] at e3
      rw [← walkB_no2 (g := xss) (rs := rs) (p := p) (by omega)]; exact HK _ f13
    · have e3 := not_f e2
      simp only [decide_eq_true_eq] at e3
      have e4 := walkB_eq (not_f e) (rs := rs) (by omega)
      have G3 := G.no f13
      have H3 := H.no f13
      refine ⟨fun n i h' => h' = h3 ∧ 0 ≤ i ∧ i + n = (xss.length : Int) ∧ walkB xss rs p = ((xss.zip rs).drop i.toNat).all fun q => rotB q.1 q.2, ⟨xss.length, rfl, by omega, by omega, by simpa using e4⟩, ?_⟩
      rintro n i _ ⟨rfl, i0, i1, i2⟩ hL
      refine ⟨fun e5 => ?_, fun e5 => ?_⟩
      · have hi' : i < (xss.length : Int) := by simpa using e5
        have hi : i < (rs.length : Int) := by omega
        obtain ⟨si, c1, c2⟩ := G3.get i0 hi'
        rw [zip_drop xss rs i0 hi' hi, List.all_cons] at i2
        refine ⟨G3.inb i0 hi', si, c1, H3.inb i0 hi, _, H3.get i0 hi, ?_⟩
        rw [len_w64I c2]
        refine k_spec_l1Most _ _ _ _ ⟨_, rfl, hL, H3.get i0 hi, ?_⟩
        rw [Int.max_comm]
        refine k_spec_l1In _ _ _ _ _ ⟨_, rfl, hL, fun e6 => ?_, fun e6 => ?_⟩
        · have e7 : rotB (xss[i.toNat]'(by omega)) (rs[i.toNat]'(by omega)) = false := not_t e6
          simp only at i2
          rw [e7] at i2
          have e8 : walkB xss rs p = false := by rw [i2]; rfl
          rw [← e8]; exact HK _ f13
        · have e7 : rotB (xss[i.toNat]'(by omega)) (rs[i.toNat]'(by omega)) = true := not_f e6
          simp only at i2
          rw [e7, Bool.true_and] at i2
          rw [G.succ i0 hi']
          exact ⟨n - 1, by omega, rfl, by omega, by omega, i2⟩
      · have hi : ¬ i < (xss.length : Int) := by simpa using e5
        rw [List.drop_of_length_le (by simp; omega)] at i2
        have e8 : walkB xss rs p = true := by rw [i2]; rfl
        rw [← e8]; exact HK _ f13

theorem loopI {S : Nat → Prop} {h : Heap} {s : Sl} {xs : List Int} (H : RdI S h s xs) : (xs.length : Int) ≤ maxLen := by have := H.len; have := H.big; omega

theorem k_eqIntS {S S' : Nat → Prop} {h : Heap} {a b : Sl} {xs ys : List Int} (H : RdI S h a xs) (H' : RdI S' h b ys) (K : Value → Heap → Prop) (HK : K (VB (decide (xs = ys))) h) : callM Try.prog 53 #[a.v, b.v] h K := by
  refine v53 a b h K ⟨fun e => ?_, fun e => ?_⟩
  · have e1 := not_t e
    rw [H.len, H'.len] at e1
    have : ¬ xs = ys := fun e2 => by subst e2; simp at e1
    rw [decide_eq_false this] at HK
    exact HK
  · have e1 := not_f e
    rw [H.len, H'.len] at e1
    have hl : xs.length = ys.length := by simp at e1; omega
    refine ⟨fun n i h' => h' = h ∧ 0 ≤ i ∧ i + n = (xs.length : Int) ∧ decide (xs = ys) = decide (xs.drop i.toNat = ys.drop i.toNat), ⟨xs.length, rfl, by omega, by omega, by simp⟩, ?_⟩
    rintro n i _ ⟨rfl, h0, h1, h2⟩ hL
    refine ⟨fun e => ?_, fun e => ?_⟩
    · have hi := H.lt e
      have hi' : i < (ys.length : Int) := by omega
      refine ⟨H.inb h0 hi, _, H.get h0 hi, H'.inb h0 hi', _, H'.get h0 hi', fun e => ?_, fun e => ?_⟩
      · rw [drop_cons xs h0 hi, drop_cons ys h0 hi'] at h2
        have e3 := not_t e
        simp only [decide_eq_false_iff_not] at e3
        rw [h2, decide_eq_false (fun e4 => e3 (List.cons.inj e4).1)] at HK
        exact HK
      · rw [drop_cons xs h0 hi, drop_cons ys h0 hi'] at h2
        have e3 := not_f e
        simp only [decide_eq_true_eq] at e3
        rw [H.succ h0 hi]
        refine ⟨n - 1, by omega, rfl, by omega, by omega, h2.trans ?_⟩
        rw [e3]
        simp
    · have hi := H.ge e
      rw [List.drop_of_length_le (by omega), List.drop_of_length_le (by omega)] at h2
      rw [h2] at HK
      exact HK

theorem k_eqIntSS {S S' : Nat → Prop} {h : Heap} {a b : Sl} {xs ys : List (List Int)} (H : RdR S h a xs) (H' : RdR S' h b ys) (K : Value → Heap → Prop) (HK : K (VB (decide (xs = ys))) h) : callM Try.prog 71 #[a.v, b.v] h K := by
  refine v71 a b h K ⟨fun e => ?_, fun e => ?_⟩
  · have e1 := not_t e
    rw [H.len, H'.len] at e1
    have : ¬ xs = ys := fun e2 => by subst e2; simp at e1
    rw [decide_eq_false this] at HK
    exact HK
  · have e1 := not_f e
    rw [H.len, H'.len] at e1
    have hl : xs.length = ys.length := by simp at e1; omega
    refine ⟨fun n i h' => h' = h ∧ 0 ≤ i ∧ i + n = (xs.length : Int) ∧ decide (xs = ys) = decide (xs.drop i.toNat = ys.drop i.toNat), ⟨xs.length, rfl, by omega, by omega, by simp⟩, ?_⟩
    rintro n i _ ⟨rfl, h0, h1, h2⟩ hL
    refine ⟨fun e => ?_, fun e => ?_⟩
    · have hi := H.lt e
      have hi' : i < (ys.length : Int) := by omega
      obtain ⟨x, cx, rx⟩ := H.get h0 hi
      obtain ⟨y, cy, ry⟩ := H'.get h0 hi'
      refine ⟨H.inb h0 hi, x, cx, H'.inb h0 hi', y, cy, k_eqIntS rx ry _ ⟨_, rfl, hL, fun e => ?_, fun e => ?_⟩⟩
      · rw [drop_cons xs h0 hi, drop_cons ys h0 hi'] at h2
        have e3 := not_t e
        simp only [decide_eq_false_iff_not] at e3
        rw [h2, decide_eq_false (fun e4 => e3 (List.cons.inj e4).1)] at HK
        exact HK
      · rw [drop_cons xs h0 hi, drop_cons ys h0 hi'] at h2
        have e3 := not_f e
        simp only [decide_eq_true_eq] at e3
        rw [H.succ h0 hi]
        refine ⟨n - 1, by omega, rfl, by omega, by omega, h2.trans ?_⟩
        rw [e3]
        simp
    · have hi := H.ge e
      rw [List.drop_of_length_le (by omega), List.drop_of_length_le (by omega)] at h2
      rw [h2] at HK
      exact HK

theorem k_eqGraph {S S' : Nat → Prop} {h : Heap} {a b : Sl} {xs ys : List (List Int)} (H : RdR S h a xs) (H' : RdR S' h b ys) : Ret Try.prog 28 #[.agg #[a.v], .agg #[b.v]] h (VB (decide (xs = ys))) := by
  intro K HK
  refine v28 a b h K fun b1 b2 h1 hb1 hb2 f1 hL1 => ?_
  refine k_eqIntSS (H.no f1.in_nil) (H'.no f1.in_nil) _ ⟨_, rfl, hL1, fun e => ?_, fun e => ?_⟩
  · rw [← not_t e]; exact HK _ f1.in_nil
  · rw [← not_f e]; exact HK _ f1.in_nil

theorem k_eqWalk {S S' : Nat → Prop} {h : Heap} {a b : Sl} {xs ys : List Int} (H : RdI S h a xs) (H' : RdI S' h b ys) (p q : Int) : Ret Try.prog 37 #[.agg #[a.v, VI p], .agg #[b.v, VI q]] h (VB (decide (xs = ys ∧ p = q))) := by
  intro K HK
  refine v37 a p b q h K fun b1 b2 h1 hb1 hb2 f1 hL1 => ?_
  refine k_eqIntS (H.no f1.in_nil) (H'.no f1.in_nil) _ ⟨_, rfl, hL1, fun e => ?_, fun e => ?_⟩
  · have e3 := not_t e
    simp only [decide_eq_false_iff_not] at e3
    rw [decide_eq_false fun e4 => e3 e4.1] at HK
    exact HK _ f1.in_nil
  · have e3 := not_f e
    simp only [decide_eq_true_eq] at e3
    refine ⟨fun e => ?_, fun e => ?_⟩
    · have e5 := not_t e
      simp only [decide_eq_false_iff_not] at e5
      rw [decide_eq_false fun e4 => e5 e4.2] at HK
      exact HK _ f1.in_nil
    · have e5 := not_f e
      simp only [decide_eq_true_eq] at e5
      rw [decide_eq_true ⟨e3, e5⟩] at HK
      exact HK _ f1.in_nil

def numI (k : Int) : List Int → List Int
  | [] => []
  | _ :: xs => k :: numI (k + 1) xs
theorem numI_length : ∀ (k : Int) (xs : List Int), (numI k xs).length = xs.length
  | _, [] => rfl
  | k, _ :: xs => by simp [numI, numI_length (k + 1) xs]
theorem numI_get : ∀ (xs : List Int) (k : Int) (i : Nat) (h : i < (numI k xs).length), (numI k xs)[i] = k + i
  | [], k, i, h => by simp [numI] at h
  | x :: xs, k, 0, h => by simp [numI]
  | x :: xs, k, i + 1, h => by
    simp only [numI, List.getElem_cons_succ]
    rw [numI_get xs (k + 1) i]
    omega
def totR (xss : List (List Int)) : Nat := (xss.map List.length).sum
def numR (k : Int) : List (List Int) → List (List Int)
  | [] => []
  | xs :: xss => numI k xs :: numR (k + xs.length) xss
theorem numR_length : ∀ (k : Int) (xss : List (List Int)), (numR k xss).length = xss.length
  | _, [] => rfl
  | k, xs :: xss => by simp [numR, numR_length (k + xs.length) xss]
theorem numR_get : ∀ (xss : List (List Int)) (k : Int) (i : Nat) (h : i < (numR k xss).length) (h' : i < xss.length), (numR k xss)[i] = numI (k + totR (xss.take i)) xss[i]
  | [], k, i, h, _ => by simp [numR] at h
  | x :: xs, k, 0, h, _ => by simp [numR, totR]
  | x :: xs, k, i + 1, h, h' => by
    simp only [numR, List.getElem_cons_succ]
    rw [numR_get xs _ i (by simpa [numR] using h) (by simpa using h')]
    congr 1
    simp [totR]
    omega
theorem totR_take_le : ∀ (xss : List (List Int)) (i : Nat), totR (xss.take i) ≤ totR xss
  | [], i => by simp [totR]
  | x :: xs, 0 => by simp [totR]
  | x :: xs, i + 1 => by
    have := totR_take_le xs i
    simp only [totR, List.take_succ_cons, List.map_cons, List.sum_cons] at *
    omega
theorem totR_snoc (xss : List (List Int)) (i : Nat) (h : i < xss.length) : totR (xss.take (i + 1)) = totR (xss.take i) + xss[i].length := by
  rw [List.take_succ_eq_append_getElem h]
  simp only [totR, List.map_append, List.sum_append, List.map_cons, List.map_nil, List.sum_cons, List.sum_nil]
  omega

theorem k_markIntS {F : Nat → Prop} {h : Heap} {s : Sl} {xs : List Int} (H : OwI h F s xs) (k : Int) (h0 : 0 ≤ k) (hk : k ≤ 1000000000000000) (hn : xs.length ≤ 1000000000000) (K : Value → Heap → Prop) (HK : ∀ h', OwI h' F s (numI k xs) → Fr s.own h h' → K (VI (k + xs.length)) h') : callM Try.prog 54 #[s.v, VI k] h K := by
  have hl : s.n = xs.length := by have := H.len; simp at this; omega
  refine v54 s k h K ⟨fun n k' i h' => 0 ≤ i ∧ i + n = (xs.length : Int) ∧ k' = k + i ∧ OwI h' F s ((numI k xs).take i.toNat ++ xs.drop i.toNat) ∧ Fr s.own h h', ⟨xs.length, by omega, by omega, by omega, by simpa using H, Fr.refl _ _⟩, ?_⟩
  rintro n k' i h' ⟨i0, i1, rfl, H', f⟩ hL
  refine ⟨fun e => ?_, fun e => ?_⟩
  · have hi : i < (s.n : Int) := by simpa using e
    have ws : w64 (i + 1) = i + 1 := w64_eq _ (by omega) (by omega)
    have wk : w64 (k + i + 1) = k + i + 1 := w64_eq _ (by omega) (by omega)
    obtain ⟨w1, w2, w3⟩ := H'.store1 i0 hi (VI (k + i))
    refine ⟨H'.inb i0 hi, w1, .nil, fun h2 e2 _ => ?_⟩
    rw [ws, wk]
    refine ⟨n - 1, by omega, by omega, by omega, by omega, ?_, ?_⟩
    · subst e2
      have e3 : VI (k + i) = VI ((numI k xs)[i.toNat]'(by rw [numI_length]; omega)) := by rw [numI_get]; congr 1; omega
      rw [e3] at w2 ⊢
      rw [← List.map_set, set_mid _ _ _ _ (by omega)] at w2
      rw [toNat_succ i0]
      exact w2
    · subst e2; exact f.trans w3
  · have hi : ¬ i < (s.n : Int) := by simpa using e
    have e4 : i = xs.length := by omega
    subst e4
    have := HK h' (by simpa [List.take_of_length_le, numI_length] using H') f
    exact this

theorem k_markIntSS {F : Nat → Prop} {h : Heap} {s : Sl} {xss : List (List Int)} (H : OwX h F s xss) (k : Int) (h0 : 0 ≤ k) (hk : k ≤ 100000000000) (hn : totR xss ≤ 100000000000) (K : Value → Heap → Prop) (HK : ∀ h', OwX h' F s (numR k xss) → Fr F h h' → K (VI (k + totR xss)) h') : callM Try.prog 72 #[s.v, VI k] h K := by
  have hl : s.n = xss.length := H.len
  have hbig := H.rd.big
  refine v72 s k h K ⟨fun n k' i h' => 0 ≤ i ∧ i + n = (xss.length : Int) ∧ k' = k + totR (xss.take i.toNat) ∧ OwX h' F s ((numR k xss).take i.toNat ++ xss.drop i.toNat) ∧ Fr F h h', ⟨xss.length, by omega, by omega, by simp [totR], by simpa using H, Fr.refl _ _⟩, ?_⟩
  rintro n k' i h' ⟨i0, i1, rfl, H', f⟩ hL
  refine ⟨fun e => ?_, fun e => ?_⟩
  · have hi : i < (s.n : Int) := by simpa using e
    have hlen : ((numR k xss).take i.toNat ++ xss.drop i.toNat).length = xss.length := by simp [numR_length]; omega
    have hlen2 : ((numR k xss).take i.toNat).length = i.toNat := by simp [numR_length]; omega
    obtain ⟨si, c1, c2, c3⟩ := H'.inner i0 (by omega)
    have e1 : ((numR k xss).take i.toNat ++ xss.drop i.toNat)[i.toNat]'(by omega) = xss[i.toNat]'(by omega) := by
      rw [List.getElem_append_right (by omega)]
      simp [hlen2]
    rw [e1] at c2
    have hle := totR_take_le xss i.toNat
    have hle2 := totR_take_le xss (i.toNat + 1)
    have hsn := totR_snoc xss i.toNat (by omega)
    refine ⟨H'.rd.inb i0 (by omega), si, c1, k_markIntS c2 _ (by omega) (by omega) (by omega) _ fun h2 o2 f2 => ⟨_, rfl, .nil, n - 1, by omega, ?_, ?_, ?_, ?_, ?_⟩⟩
    · rw [w64_succ i0 hi hbig]; omega
    · rw [w64_succ i0 hi hbig]; omega
    · rw [w64_succ i0 hi hbig, toNat_succ i0, hsn]; omega
    · rw [w64_succ i0 hi hbig]
      have := c3 h2 _ f2 o2
      rw [← numR_get xss k i.toNat (by rw [numR_length]; omega) (by omega), set_mid _ _ _ _ (by omega)] at this
      rw [toNat_succ i0]
      exact this
    · exact f.trans (f2.mono fun k _ hk => (c2.foot hk).1)
  · have hi : ¬ i < (s.n : Int) := by simpa using e
    have e4 : i = xss.length := by omega
    subst e4
    have := HK h' (by simpa [List.take_of_length_le, numR_length] using H') f
    simpa using this

theorem k_heldIntS {S : Nat → Prop} {h : Heap} {s : Sl} {xs : List Int} (k : Int) (H : RdI S h s (numI k xs)) (h0 : 0 ≤ k) (hk : k ≤ 1000000000000000) (hn : xs.length ≤ 1000000000000) (K : Value → Heap → Prop) (HK : K (VI (k + xs.length)) h) : callM Try.prog 55 #[s.v, VI k] h K := by
  have hl : s.n = xs.length := by have := H.len; rw [numI_length] at this; exact this
  refine v55 s k h K ⟨fun n k' i h' => h' = h ∧ 0 ≤ i ∧ i + n = (xs.length : Int) ∧ k' = k + i, ⟨xs.length, rfl, by omega, by omega, by omega⟩, ?_⟩
  rintro n k' i _ ⟨rfl, i0, i1, rfl⟩ hL
  refine ⟨fun e => ?_, fun e => ?_⟩
  · have hi := H.lt e
    refine ⟨H.inb i0 hi, _, H.get i0 hi, fun e => ?_, fun e => ?_⟩
    · have e5 := not_t e
      simp only [decide_eq_false_iff_not] at e5
      rw [numI_get] at e5
      omega
    · rw [H.succ i0 hi, w64_eq _ (by omega) (by rw [numI_length] at hi; omega)]
      rw [numI_length] at hi
      exact ⟨n - 1, by omega, rfl, by omega, by omega, by omega⟩
  · have hi := H.ge e
    rw [numI_length] at hi
    have e4 : i = xs.length := by omega
    rw [e4]
    exact HK

theorem k_markGraph {F : Nat → Prop} {h : Heap} {s : Sl} {xss : List (List Int)} (H : OwX h F s xss) (k : Int) (h0 : 0 ≤ k) (hk : k ≤ 100000000000) (hn : totR xss ≤ 100000000000) (K : Value → Heap → Prop) (HK : ∀ h', OwX h' F s (numR k xss) → Fr F h h' → K (VI (k + totR xss)) h') : callM Try.prog 29 #[.agg #[s.v], VI k] h K := by
  refine v29 s k h K fun b1 h1 hb1 f1 hL1 => ?_
  have H1 : OwX h1 (fun k => F k ∧ k < h.size) s xss := (H.mono fun k hk hF => ⟨hF, hk⟩ : OwX h _ s xss).no f1.in_nil
  refine k_markIntSS H1 k h0 hk hn _ fun h2 o2 f2 => ?_
  refine ⟨_, rfl, hL1.fr f2 (fun p hp hk => ?_), ?_⟩
  · obtain rfl : p = (b1, [s.v]) := by simpa using hp
    have := hk.2
    simp only at this
    omega
  · exact HK _ (o2.mono fun k _ hk => hk.1) (f1.in_nil.of_no.trans (f2.mono fun k _ hk => hk.1))

theorem k_markWalk {F : Nat → Prop} {h : Heap} {s : Sl} {xs : List Int} (H : OwI h F s xs) (p k : Int) (h0 : 0 ≤ k) (hk : k ≤ 1000000000000000) (hn : xs.length ≤ 1000000000000) (K : Value → Heap → Prop) (HK : ∀ h', OwI h' F s (numI k xs) → Fr s.own h h' → K (VI (k + xs.length)) h') : callM Try.prog 45 #[.agg #[s.v, VI p], VI k] h K := by
  refine v45 s p k h K fun b1 h1 hb1 f1 hL1 => ?_
  refine k_markIntS (Ow.no H f1.in_nil) k h0 hk hn _ fun h2 o2 f2 => ?_
  refine ⟨_, rfl, hL1.fr f2 (fun p hp hk => ?_), ?_⟩
  · obtain rfl : p = (b1, [s.v, _]) := by simpa using hp
    have := (H.foot hk).2
    simp only at this
    omega
  · exact HK _ o2 (f1.in_nil.of_no.trans f2)

def firstXs : List (List Int) := [[1, 2], [0, 2], [0]]
def DeskIs (h h' : Heap) (v : Value) : Prop := ∃ (g w : Sl) (m : Nat), v = .agg #[g.v, w.v, VI 0] ∧ OwX h' (fun k => h.size ≤ k ∧ k < m) g firstXs ∧ OwI h' (fun k => h.size ≤ k ∧ m ≤ k) w [0, 0, 0] ∧ Fr No h h'
theorem own_lt {h : Heap} {F : Nat → Prop} {e : TypeId} {sz : Nat} {s : Sl} {vs : List Value} (H : Ow h F e sz s vs) {n : Nat} (hn : h.size ≤ n) : ∀ k, s.own k → k < n := fun k hk => Nat.lt_of_lt_of_le (H.foot hk).2 hn
theorem lit_first {h1 : Heap} {K : Value → Heap → Prop} (HK : ∀ (g : Sl) (h' : Heap), OwX h' (fun k => h1.size ≤ k) g firstXs → Fr No h1 h' → K g.v h') :
    eop Try.prog (Instr.buildSlice tIs 2 #[(0, VI 1), (1, VI 2)]) h1 fun rv_1 h_2 => ∃ t1_1 : Sl, rv_1 = t1_1.v ∧ Fr No h1 h_2 ∧
    eop Try.prog (Instr.buildSlice tIs 2 #[(0, VI 0), (1, VI 2)]) h_2 fun rv_2 h_3 => ∃ t2_1 : Sl, rv_2 = t2_1.v ∧ Fr No h_2 h_3 ∧
    eop Try.prog (Instr.buildSlice tIs 1 #[(0, VI 0)]) h_3 fun rv_3 h_4 => ∃ t3_1 : Sl, rv_3 = t3_1.v ∧ Fr No h_3 h_4 ∧
    eop Try.prog (Instr.buildSlice tIss 3 #[(0, t1_1.v), (1, t2_1.v), (2, t3_1.v)]) h_4 K := by
  refine eop_lit rIs (fun k => h1.size ≤ k) (fun _ h => h) 2 (by omega) [VI 1, VI 2] rfl rfl fun t1 h2 n1 c1 o1 f1 l1 _ => ⟨t1, rfl, f1, ?_⟩
  refine eop_lit rIs (fun k => h1.size ≤ k) (fun _ h => Nat.le_trans f1.size h) 2 (by omega) [VI 0, VI 2] rfl rfl fun t2 h3 n2 c2 o2 f2 l2 _ => ⟨t2, rfl, f2, ?_⟩
  have f13 := f1.no_trans f2
  refine eop_lit rIs (fun k => h1.size ≤ k) (fun _ h => Nat.le_trans f13.size h) 1 (by omega) [VI 0] rfl rfl fun t3 h4 n3 c3 o3 f3 l3 _ => ⟨t3, rfl, f3, ?_⟩
  have f14 := f13.no_trans f3
  refine eop_lit rIss (fun k => h1.size ≤ k) (fun _ h => Nat.le_trans f14.size h) 3 (by omega) [t1.v, t2.v, t3.v] rfl rfl fun t4 h5 n4 c4 o4 f4 l4 _ => ?_
  have g1 := own_lt o1 (Nat.le_refl _)
  have g2 := own_lt o2 (Nat.le_refl _)
  have g3 := own_lt o3 (Nat.le_refl _)
  have s3 := f2.size
  have s4 := f3.size
  refine HK t4 h5 (OwR.of [t1, t2, t3] rfl o4 ?_ ?_ ?_) (f14.trans f4)
  · intro p hp
    simp only [firstXs, List.zip_cons_cons, List.zip_nil_right, List.mem_cons, List.not_mem_nil, or_false] at hp
    rcases hp with rfl | rfl | rfl
    · exact ((o1.no f2).no f3).no f4
    · exact (o2.no f3).no f4
    · exact o3.no f4
  · simp only [List.pairwise_cons, List.mem_cons, List.not_mem_nil, or_false, forall_eq_or_imp, forall_eq, List.Pairwise.nil, and_true]
    refine ⟨⟨fun k a b => ?_, fun k a b => ?_⟩, fun k a b => ?_, by simp⟩
    · have := g1 k a; have := l2 k b; omega
    · have := g1 k a; have := l3 k b; omega
    · have := g2 k a; have := l3 k b; omega
  · intro a ha k hk hk2
    have := l4 k hk
    simp only [List.mem_cons, List.not_mem_nil, or_false] at ha
    rcases ha with rfl | rfl | rfl
    · have := g1 k hk2; omega
    · have := g2 k hk2; omega
    · have := g3 k hk2; omega

theorem k_szIntS {S : Nat → Prop} {h : Heap} {s : Sl} {xs : List Int} (H : RdI S h s xs) (left : Int) (h0 : 0 ≤ left) (h1 : left ≤ 1048576) (K : Value → Heap → Prop) (HK : ∀ r : Int, r = -1 ∨ (0 ≤ r ∧ r = left - xs.length) → K (VI r) h) : callM Try.prog 77 #[s.v, VI left] h K := by
  have hb := maxLen_lt (RdV.big H)
  have e := H.len
  have hw : w64 (left - s.n) = left - s.n := w64_eq _ (by omega) (by omega)
  refine v77 s left h K ⟨fun _ => HK _ (.inl rfl), fun e2 => HK _ (.inr ?_)⟩
  rw [hw] at e2 ⊢
  simp only [decide_eq_false_iff_not] at e2
  omega

theorem k_szIntSS {S : Nat → Prop} {h : Heap} {s : Sl} {xss : List (List Int)} (H : RdR S h s xss) (left : Int) (h0 : 0 ≤ left) (h1 : left ≤ 1048576) (K : Value → Heap → Prop) (HK : ∀ r : Int, r = -1 ∨ (0 ≤ r ∧ r = left - xss.length - totR xss) → K (VI r) h) : callM Try.prog 63 #[s.v, VI left] h K := by
  have hb := maxLen_lt H.big
  have e := H.len
  have hw : w64 (left - s.n) = left - s.n := w64_eq _ (by omega) (by omega)
  refine v63 s left h K ⟨fun _ => HK _ (.inl rfl), fun e2 => ?_⟩
  rw [hw] at e2 ⊢
  simp only [decide_eq_false_iff_not] at e2
  refine ⟨fun n l i h' => h' = h ∧ 0 ≤ i ∧ i + n = (xss.length : Int) ∧ l = left - xss.length - totR (xss.take i.toNat) ∧ 0 ≤ l, ⟨xss.length, rfl, by omega, by omega, by simp [totR]; omega, by omega⟩, ?_⟩
  rintro n l i _ ⟨rfl, i0, i1, rfl, l0⟩ hL
  refine ⟨fun e => ?_, fun e => ?_⟩
  · have hi := H.lt e
    obtain ⟨si, c1, c2⟩ := H.get i0 hi
    have hsn := totR_snoc xss i.toNat (by omega)
    refine ⟨H.inb i0 hi, si, c1, k_szIntS c2 _ l0 (by omega) _ fun r hr => ⟨r, rfl, .nil, fun _ => HK _ (.inl rfl), fun e3 => ?_⟩⟩
    simp only [decide_eq_false_iff_not] at e3
    rw [H.succ i0 hi]
    exact ⟨n - 1, by omega, rfl, by omega, by omega, by rw [toNat_succ i0, hsn]; omega, by omega⟩
  · have hi := H.ge e
    have e4 : i = xss.length := by omega
    refine HK _ (.inr ⟨l0, ?_⟩)
    rw [e4]
    simp

theorem k_szGraph {S : Nat → Prop} {h : Heap} {s : Sl} {xss : List (List Int)} (H : RdR S h s xss) (left : Int) (h0 : 0 ≤ left) (h1 : left ≤ 1048576) (K : Value → Heap → Prop) (HK : ∀ (h' : Heap) (r : Int), Fr No h h' → r = -1 ∨ (0 ≤ r ∧ r = left - xss.length - totR xss) → K (VI r) h') : callM Try.prog 24 #[.agg #[s.v], VI left] h K := by
  refine v24 s left h K fun b1 h1' hb1 f1 hL1 => ?_
  refine k_szIntSS (H.no f1.in_nil) left h0 h1 _ fun r hr => ⟨r, rfl, hL1, fun e => HK _ _ f1.in_nil (.inl rfl), fun e => HK _ _ f1.in_nil hr⟩

theorem k_szWalk {S : Nat → Prop} {h : Heap} {s : Sl} {xs : List Int} (H : RdI S h s xs) (p left : Int) (h0 : 0 ≤ left) (h1 : left ≤ 1048576) (K : Value → Heap → Prop) (HK : ∀ (h' : Heap) (r : Int), Fr No h h' → r = -1 ∨ (0 ≤ r ∧ r = left - xs.length) → K (VI r) h') : callM Try.prog 33 #[.agg #[s.v, VI p], VI left] h K := by
  refine v33 s p left h K fun b1 h1' hb1 f1 hL1 => ?_
  refine k_szIntS (H.no f1.in_nil) left h0 h1 _ fun r hr => ⟨r, rfl, hL1, fun e => HK _ _ f1.in_nil (.inl rfl), fun e => HK _ _ f1.in_nil hr⟩

theorem k_toIntS {S : Nat → Prop} {h : Heap} {s : Sl} {xs : List Int} (H : RdI S h s xs) (hn : xs.length ≤ 1000000000000) (K : Value → Heap → Prop) (HK : ∀ t h', OwI h' (fun k => h.size ≤ k) t xs → Fr No h h' → K t.v h') : callM Try.prog 80 #[s.v] h K := by
  have hl := H.len
  refine v80 s h K ?_
  refine eop_make rIs (fun k => h.size ≤ k) (fun _ h => h) .i64 .i64 s.n s.n (Nat.le_refl _) (by omega) fun t h1 n1 c1 o1 f1 l1 _ => ⟨t, rfl, .nil, ?_⟩
  have o1 : OwI h1 (fun k => h.size ≤ k) t (List.replicate xs.length 0) := by
    have e : (List.replicate s.n [VI 0]).flatten = (List.replicate xs.length (0 : Int)).map VI := by rw [H.len]; simp [List.flatten_replicate_singleton]
    rw [e] at o1; exact o1
  refine ⟨fun n i h' => 0 ≤ i ∧ i + n = (xs.length : Int) ∧ OwI h' (fun k => h.size ≤ k) t (xs.take i.toNat ++ (List.replicate xs.length (0 : Int)).drop i.toNat) ∧ Fr t.own h1 h', ⟨xs.length, by omega, by omega, by simpa using o1, Fr.refl _ _⟩, ?_⟩
  rintro n i h2 ⟨i0, i1, o2, f2⟩ hL
  have H2 := H.on f1 f2 l1
  refine ⟨fun e => ?_, fun e => ?_⟩
  · have hi := H.lt e
    obtain ⟨w1, w2, w3⟩ := o2.store1 i0 (by omega) (VI (xs[i.toNat]'(by omega)))
    refine ⟨H2.inb i0 hi, _, H2.get i0 hi, o2.inb i0 (by omega), w1, .nil, fun h3 e3 _ => ?_⟩
    subst e3
    rw [← List.map_set, set_mid _ _ _ _ (by simp; omega)] at w2
    rw [H.succ i0 hi]
    exact ⟨n - 1, by omega, by omega, by omega, by rw [toNat_succ i0]; exact w2, f2.trans w3⟩
  · have hi := H.ge e
    have e4 : i = xs.length := by omega
    subst e4
    exact HK t h2 (by simpa using o2) (f1.fresh f2 l1)

theorem k_toIntSS {S : Nat → Prop} {h : Heap} {s : Sl} {xss : List (List Int)} (H : RdR S h s xss) (hn : xss.length ≤ 1000000000000) (hm : totR xss ≤ 1000000000000) (K : Value → Heap → Prop) (HK : ∀ t h', OwX h' (fun k => h.size ≤ k) t xss → Fr No h h' → K t.v h') : callM Try.prog 67 #[s.v] h K := by
  have hl := H.len
  refine v67 s h K ?_
  refine eop_make rIss (fun k => h.size ≤ k) (fun _ h => h) .i64 .i64 s.n s.n (Nat.le_refl _) (by omega) fun t h1 n1 c1 o1 f1 l1 _ => ⟨t, rfl, .nil, ?_⟩
  have o1 : OwX h1 (fun k => h.size ≤ k) t (List.replicate xss.length []) := OwR.zeros _ (by rw [hl] at o1; exact o1)
  refine ⟨fun n i h' => 0 ≤ i ∧ i + n = (xss.length : Int) ∧ OwX h' (fun k => h.size ≤ k) t (xss.take i.toNat ++ (List.replicate xss.length []).drop i.toNat) ∧ Fr No h h', ⟨xss.length, by omega, by omega, by simpa using o1, f1⟩, ?_⟩
  rintro n i h2 ⟨i0, i1, o2, f2⟩ hL
  have H2 := H.no f2
  refine ⟨fun e => ?_, fun e => ?_⟩
  · have hi := H.lt e
    obtain ⟨si, c1, c2⟩ := H2.get i0 hi
    have hlen : (xss.take i.toNat ++ (List.replicate xss.length ([] : List Int)).drop i.toNat).length = xss.length := by simp; omega
    have hsz : (xss[i.toNat]'(by omega)).length ≤ totR xss := by
      have h1 := totR_snoc xss i.toNat (by omega)
      have h2 := totR_take_le xss (i.toNat + 1)
      omega
    refine ⟨H2.inb i0 hi, si, c1, k_toIntS c2 (by omega) _ fun x h3 o3 f3 => ⟨x, rfl, .nil, ?_⟩⟩
    have o2' := (o2.mono (F' := fun k => h.size ≤ k ∧ k < h2.size) fun k hk hF => ⟨hF, hk⟩).no f3
    obtain ⟨sj, d1, d2, _⟩ := o2'.inner i0 (by omega)
    have s2 := f2.size
    obtain ⟨w1, w2, w3⟩ := o2'.outer i0 (by omega) d1 (F' := fun k => h.size ≤ k) (o3.mono fun k _ hk => by omega) (fun k _ hk => hk.1) (fun k hk => .inr fun hk2 => by have := (o3.foot hk).1; omega)
    refine ⟨o2'.rd.inb i0 (by omega), w1, .nil, fun h4 e4 _ => ?_⟩
    subst e4
    rw [set_mid _ _ _ _ (by simp; omega)] at w2
    rw [H.succ i0 hi]
    exact ⟨n - 1, by omega, by omega, by omega, by rw [toNat_succ i0]; exact w2, (f2.no_trans f3).fresh w3 fun k hk => by
      obtain ⟨ss, _, h5, _⟩ := o2'.out
      exact (h5.foot hk).1.1⟩
  · have hi := H.ge e
    have e4 : i = xss.length := by omega
    subst e4
    exact HK t h2 (by simpa using o2) f2

theorem k_toGraph {S : Nat → Prop} {h : Heap} {s : Sl} {xss : List (List Int)} (H : RdR S h s xss) (hn : xss.length ≤ 1000000000000) (hm : totR xss ≤ 1000000000000) (K : Value → Heap → Prop) (HK : ∀ t h', OwX h' (fun k => h.size ≤ k) t xss → Fr No h h' → K (.agg #[t.v]) h') : callM Try.prog 26 #[.agg #[s.v]] h K := by
  refine v26 s h K fun b1 b2 b3 h1 hb1 hb2 hb3 f1 hL1 => ?_
  have f1 := f1.in_nil
  refine k_toIntSS (H.no f1) hn hm _ fun t h2 o2 f2 => ⟨t, rfl, hL1.of_no f2, fun h3 f3 hL3 => ?_⟩
  have l3 : b3 < h1.size := hL1.head.lt
  have l2 : b2 < h1.size := hL1.tail.head.lt
  have s1 := f1.size
  refine HK t h3 ((o2.fr f3 fun k _ hk => In.off (n := h1.size) (by simp; omega) hk).mono fun k _ hk => by omega) ((f1.no_trans f2).fresh f3 (in_ge (by simp; omega)))

theorem k_toWalk {S : Nat → Prop} {h : Heap} {s : Sl} {xs : List Int} (H : RdI S h s xs) (p : Int) (hn : xs.length ≤ 1000000000000) (K : Value → Heap → Prop) (HK : ∀ t h', OwI h' (fun k => h.size ≤ k) t xs → Fr No h h' → K (.agg #[t.v, VI p]) h') : callM Try.prog 35 #[.agg #[s.v, VI p]] h K := by
  refine v35 s p h K fun b1 b2 b3 h1 hb1 hb2 hb3 f1 hL1 => ?_
  have f1 := f1.in_nil
  refine k_toIntS (H.no f1) hn _ fun t h2 o2 f2 => ⟨t, rfl, hL1.of_no f2, fun h3 f3 hL3 => ?_⟩
  have l3 : b3 < h1.size := hL1.head.lt
  have l2 : b2 < h1.size := hL1.tail.head.lt
  have s1 := f1.size
  refine HK t h3 ((Ow.fr o2 f3 fun k hk => In.off (n := h1.size) (by simp; omega) (o2.foot hk).1).mono fun k _ hk => by omega) ((f1.no_trans f2).fresh f3 (in_ge (by simp; omega)))

theorem frOwn {h h' : Heap} {F : Nat → Prop} {e : TypeId} {sz : Nat} {s : Sl} {vs : List Value} {b : Heap} (H : Ow h F e sz s vs) (f : Fr s.own h h') : Fr F h h' := f.mono fun _ _ hk => (H.foot hk).1

theorem g_szIntS {S : Nat → Prop} {h : Heap} {s : Sl} {xs : List Int} (H : RdI S h s xs) (left : Int) (h0 : 0 ≤ left) (h1 : left ≤ 1048576) (K : Value → Heap → Prop) (HK : ∀ (h' : Heap) (r : Int), Fr No h h' → r = -1 ∨ (0 ≤ r ∧ r = left - xs.length) → K (VI r) h') : callM Try.prog 77 #[s.v, VI left] h K := k_szIntS H left h0 h1 K fun r hr => HK h r (Fr.refl _ _) hr

theorem g_szGraph {S : Nat → Prop} {h : Heap} {s : Sl} {xss : List (List Int)} (H : RdR S h s xss) (left : Int) (h0 : 0 ≤ left) (h1 : left ≤ 1048576) (K : Value → Heap → Prop) (HK : ∀ (h' : Heap) (r : Int), Fr No h h' → r = -1 ∨ (0 ≤ r ∧ r = left - xss.length - totR xss) → K (VI r) h') : callM Try.prog 24 #[.agg #[s.v], VI left] h K := k_szGraph H left h0 h1 K HK

theorem g_szWalk {S : Nat → Prop} {h : Heap} {s : Sl} {xs : List Int} (H : RdI S h s xs) (p left : Int) (h0 : 0 ≤ left) (h1 : left ≤ 1048576) (K : Value → Heap → Prop) (HK : ∀ (h' : Heap) (r : Int), Fr No h h' → r = -1 ∨ (0 ≤ r ∧ r = left - xs.length) → K (VI r) h') : callM Try.prog 33 #[.agg #[s.v, VI p], VI left] h K := k_szWalk H p left h0 h1 K HK

theorem g_toIntS {S : Nat → Prop} {h : Heap} {s : Sl} {xs : List Int} (H : RdI S h s xs) (hn : xs.length ≤ 1048576) (K : Value → Heap → Prop) (HK : ∀ t h', OwI h' (Iv h.size h'.size) t xs → Fr No h h' → K t.v h') : callM Try.prog 80 #[s.v] h K := k_toIntS H (by omega) K fun t h' o f => HK t h' o.toIv f

theorem g_toGraph {S : Nat → Prop} {h : Heap} {s : Sl} {xss : List (List Int)} (H : RdR S h s xss) (hn : xss.length + totR xss ≤ 1048576) (K : Value → Heap → Prop) (HK : ∀ t h', OwX h' (Iv h.size h'.size) t xss → Fr No h h' → K (.agg #[t.v]) h') : callM Try.prog 26 #[.agg #[s.v]] h K := k_toGraph H (by omega) (by omega) K fun t h' o f => HK t h' o.toIv f

theorem g_toWalk {S : Nat → Prop} {h : Heap} {s : Sl} {xs : List Int} (H : RdI S h s xs) (p : Int) (hn : xs.length ≤ 1048576) (K : Value → Heap → Prop) (HK : ∀ t h', OwI h' (Iv h.size h'.size) t xs → Fr No h h' → K (.agg #[t.v, VI p]) h') : callM Try.prog 35 #[.agg #[s.v, VI p]] h K := k_toWalk H p (by omega) K fun t h' o f => HK t h' o.toIv f

theorem g_eqIntS {S S' : Nat → Prop} {h : Heap} {a b : Sl} {xs : List Int} (H : RdI S h a xs) (H' : RdI S' h b xs) : Ret Try.prog 53 #[a.v, b.v] h (VB true) := fun K HK => k_eqIntS H H' K (by rw [decide_eq_true rfl]; exact HK h (Fr.refl _ _))

theorem g_eqIntSS {S S' : Nat → Prop} {h : Heap} {a b : Sl} {xs : List (List Int)} (H : RdR S h a xs) (H' : RdR S' h b xs) : Ret Try.prog 71 #[a.v, b.v] h (VB true) := fun K HK => k_eqIntSS H H' K (by rw [decide_eq_true rfl]; exact HK h (Fr.refl _ _))

theorem g_eqGraph {S S' : Nat → Prop} {h : Heap} {a b : Sl} {xs : List (List Int)} (H : RdR S h a xs) (H' : RdR S' h b xs) : Ret Try.prog 28 #[.agg #[a.v], .agg #[b.v]] h (VB true) := by have := k_eqGraph H H'; rwa [decide_eq_true rfl] at this

theorem g_eqWalk {S S' : Nat → Prop} {h : Heap} {a b : Sl} {xs : List Int} {p : Int} (H : RdI S h a xs) (H' : RdI S' h b xs) : Ret Try.prog 37 #[.agg #[a.v, VI p], .agg #[b.v, VI p]] h (VB true) := by have := k_eqWalk H H' p p; rwa [decide_eq_true ⟨rfl, rfl⟩] at this

theorem g_markIntS {a b : Nat} {h : Heap} {s : Sl} {xs : List Int} (H : OwI h (Iv a b) s xs) (hn : xs.length ≤ 1048576) (k : Int) (h0 : 1 ≤ k) (hk : k ≤ 10000000000) (K : Value → Heap → Prop) (HK : ∀ h', OwI h' (Iv a b) s (numI k xs) → Fr (Iv a b) h h' → K (VI (k + xs.length)) h') : callM Try.prog 54 #[s.v, VI k] h K := k_markIntS H k (by omega) (by omega) (by omega) K fun h' o f => HK h' o (f.mono fun _ _ hk => (H.foot hk).1)

theorem g_markIntSS {a b : Nat} {h : Heap} {s : Sl} {xss : List (List Int)} (H : OwX h (Iv a b) s xss) (hn : totR xss ≤ 1048576) (k : Int) (h0 : 1 ≤ k) (hk : k ≤ 10000000000) (K : Value → Heap → Prop) (HK : ∀ h', OwX h' (Iv a b) s (numR k xss) → Fr (Iv a b) h h' → K (VI (k + totR xss)) h') : callM Try.prog 72 #[s.v, VI k] h K := k_markIntSS H k (by omega) (by omega) (by omega) K HK

theorem g_markGraph {a b : Nat} {h : Heap} {s : Sl} {xss : List (List Int)} (H : OwX h (Iv a b) s xss) (hn : totR xss ≤ 1048576) (k : Int) (h0 : 1 ≤ k) (hk : k ≤ 10000000000) (K : Value → Heap → Prop) (HK : ∀ h', OwX h' (Iv a b) s (numR k xss) → Fr (Iv a b) h h' → K (VI (k + totR xss)) h') : callM Try.prog 29 #[.agg #[s.v], VI k] h K := k_markGraph H k (by omega) (by omega) (by omega) K HK

theorem g_markWalk {a b : Nat} {h : Heap} {s : Sl} {xs : List Int} (H : OwI h (Iv a b) s xs) (hn : xs.length ≤ 1048576) (p k : Int) (h0 : 1 ≤ k) (hk : k ≤ 10000000000) (K : Value → Heap → Prop) (HK : ∀ h', OwI h' (Iv a b) s (numI k xs) → Fr (Iv a b) h h' → K (VI (k + xs.length)) h') : callM Try.prog 45 #[.agg #[s.v, VI p], VI k] h K := k_markWalk H p k (by omega) (by omega) (by omega) K fun h' o f => HK h' o (f.mono fun _ _ hk => (H.foot hk).1)

theorem g_heldIntS {S : Nat → Prop} {h : Heap} {s : Sl} {k : Int} {xs : List Int} (H : RdI S h s (numI k xs)) (hn : xs.length ≤ 1048576) (h0 : 1 ≤ k) (hk : k ≤ 10000000000) : Ret Try.prog 55 #[s.v, VI k] h (VI (k + xs.length)) := fun K HK => k_heldIntS k H (by omega) (by omega) (by omega) K (HK h (Fr.refl _ _))

theorem nil_of_none {S : Nat → Prop} {h : Heap} {s : Sl} {xs : List Int} (H : RdI S h s xs) (hn : s.a = none) : xs = [] := by
  cases xs with
  | nil => rfl
  | cons x xs =>
    obtain ⟨a, ha, _⟩ := RdV.cell H 0 (by simp)
    rw [hn] at ha
    cases ha

theorem k_Clone {S : Nat → Prop} {h : Heap} {s : Sl} {xs : List Int} (H : RdI S h s xs) (hn : xs.length ≤ 1000000000) (K : Value → Heap → Prop) (HK : ∀ t h', OwI h' (Iv h.size h'.size) t xs → Fr No h h' → K t.v h') : callM Try.prog 101 #[s.v] h K := by
  refine v101 s h K (pop_isnil rIs _ _ ⟨_, rfl, fun e => ?_, fun e => ?_⟩)
  · have : xs = [] := nil_of_none H (by simpa using e)
    subst this
    exact HK nilSl h (Ow.nil _ _ _ _) (Fr.refl _ _)
  · refine eop_lit rIs (fun k => h.size ≤ k) (fun _ h => h) 0 (by omega) [] rfl rfl fun t h1 n1 c1 o1 f1 l1 _ => ⟨t, rfl, .nil, ?_⟩
    refine eop_append rIs o1 (fun k hk => Nat.le_trans f1.size hk) (H.no f1) (plainVI _) (by have := H.len; omega) fun t' h2 n2 o2 f2 l2 => ⟨t', rfl, .nil, ?_⟩
    exact HK t' h2 (Ow.toIv (by simpa using o2)) (f1.fresh f2 l1)

theorem k_l1Own {S : Nat → Prop} {h : Heap} {s : Sl} {xs : List Int} (H : RdI S h s xs) (hn : xs.length ≤ 1000000000) (K : Value → Heap → Prop) (HK : ∀ t h', OwI h' (Iv h.size h'.size) t xs → Fr No h h' → K t.v h') : callM Try.prog 88 #[s.v] h K := by
  refine v88 s h K ?_
  refine eop_lit rIs (fun k => h.size ≤ k) (fun _ h => h) 0 (by omega) [] rfl rfl fun t h1 n1 c1 o1 f1 l1 _ => ⟨t, rfl, .nil, ?_⟩
  refine eop_append rIs o1 (fun k hk => Nat.le_trans f1.size hk) (H.no f1) (plainVI _) (by have := H.len; omega) fun t' h2 n2 o2 f2 l2 => ⟨t', rfl, .nil, ?_⟩
  exact HK t' h2 (Ow.toIv (by simpa using o2)) (f1.fresh f2 l1)

/-- Every list of these is short. -/
def shortR (n : Nat) (xss : List (List Int)) : Prop := xss.length ≤ n ∧ ∀ l, l ∈ xss → l.length ≤ n
theorem tot_short {n : Nat} : ∀ {xss : List (List Int)} {m : Nat}, xss.length ≤ m → (∀ l, l ∈ xss → l.length ≤ n) → totR xss ≤ m * n
  | [], m, _, _ => by simp [totR]
  | x :: xs, 0, h, _ => by simp at h
  | x :: xs, m + 1, h, h2 => by
    have h3 := tot_short (n := n) (xss := xs) (m := m) (by simpa using h) fun l hl => h2 l (List.mem_cons_of_mem _ hl)
    have h4 := h2 x (by simp)
    have h5 : totR (x :: xs) = x.length + totR xs := by simp [totR]
    rw [h5, Nat.add_mul]
    omega
theorem short_of_tot {xss : List (List Int)} : ∀ l, l ∈ xss → l.length ≤ totR xss := by
  induction xss with
  | nil => intro l h; simp at h
  | cons x xs ih =>
    intro l hl
    have h5 : totR (x :: xs) = x.length + totR xs := by simp [totR]
    rcases List.mem_cons.1 hl with rfl | hl
    · omega
    · have := ih l hl; omega

def toldP (xss : List (List Int)) : List (List Int) := if graphB xss then xss else []
def addP (g : List (List Int)) (p q : Int) : List (List Int) × Bool :=
  if graphB g && inR 0 ((g.length : Int) - 1) p && inR 0 ((g.length : Int) - 1) q then (toldP (g.set p.toNat (g.getD p.toNat [] ++ [q])), graphB (g.set p.toNat (g.getD p.toNat [] ++ [q]))) else ([], false)
theorem inR_iff {lo hi x : Int} : inR lo hi x = true ↔ lo ≤ x ∧ x ≤ hi := by simp [inR]
theorem graph_len {g : List (List Int)} (h : graphB g = true) : 1 ≤ g.length ∧ g.length ≤ 8 := by
  unfold graphB at h
  rw [Bool.and_eq_true, inR_iff] at h
  omega
theorem graph_mem {g : List (List Int)} (h : graphB g = true) {l : List Int} (hl : l ∈ g) : l.length ≤ 5 ∧ ∀ x, x ∈ l → 0 ≤ x ∧ x < (g.length : Int) := by
  unfold graphB at h
  rw [Bool.and_eq_true] at h
  have := List.all_eq_true.1 h.2 l hl
  rw [Bool.and_eq_true] at this
  obtain ⟨h1, h2⟩ := this
  simp only [Bool.not_eq_true', decide_eq_false_iff_not] at h1
  refine ⟨by omega, fun x hx => ?_⟩
  have := List.all_eq_true.1 h2 x hx
  rw [inR_iff] at this
  omega
theorem graph_tot {g : List (List Int)} (h : graphB g = true) : totR g ≤ 40 := by
  have := tot_short (n := 5) (xss := g) (m := 8) (graph_len h).2 fun l hl => (graph_mem h hl).1
  omega
theorem toldP_tot (g : List (List Int)) : (toldP g).length + totR (toldP g) ≤ 48 := by
  unfold toldP
  split
  · rename_i h
    have := graph_tot h
    have := graph_len h
    omega
  · simp [totR]
theorem addP_tot (g : List (List Int)) (p q : Int) : (addP g p q).1.length + totR (addP g p q).1 ≤ 48 := by
  unfold addP
  split
  · exact toldP_tot _
  · simp [totR]
theorem getD_get {g : List (List Int)} {i : Nat} (h : i < g.length) : g.getD i [] = g[i] := by simp [List.getD, List.getElem?_eq_getElem h]

theorem totR_flat (xss : List (List Int)) : xss.flatten.length = totR xss := by simp [totR, List.length_flatten]

def rotL (l : List Int) (k : Nat) : List Int := l.drop (k % l.length) ++ l.take (k % l.length)
def turnP (g : List (List Int)) (p k : Int) : List (List Int) × Bool :=
  if graphB g && inR 0 ((g.length : Int) - 1) p && inR 0 1000 k then (g.set p.toNat (rotL (g.getD p.toNat []) k.toNat), true) else ([], false)
theorem rotL_length (l : List Int) (k : Nat) : (rotL l k).length = l.length := by
  unfold rotL
  simp
  rcases Nat.eq_zero_or_pos l.length with h | h
  · simp [h]
  · have := Nat.mod_lt k h
    omega
theorem rot_get (l : List Int) (j i : Nat) (h : i < l.length) (hj : j < l.length) : (l.drop j ++ l.take j)[i]? = l[(i + j) % l.length]? := by
  by_cases h1 : i < (l.drop j).length
  · rw [List.getElem?_append_left h1]
    simp only [List.length_drop] at h1
    rw [Nat.mod_eq_of_lt (by omega), List.getElem?_drop]
    congr 1
    omega
  · rw [List.getElem?_append_right (by omega)]
    simp only [List.length_drop] at h1 ⊢
    rw [Nat.mod_eq_sub_mod (by omega), Nat.mod_eq_of_lt (by omega), List.getElem?_take, if_pos (by omega)]
    congr 1
    omega
theorem rotL_get (l : List Int) (k i : Nat) (h : i < l.length) : (rotL l k)[i]'(by rw [rotL_length]; exact h) = l[(i + k) % l.length]'(Nat.mod_lt _ (by omega)) := by
  have hm := Nat.mod_lt k (show 0 < l.length by omega)
  have := rot_get l (k % l.length) i h hm
  rw [Nat.add_mod_mod, List.getElem?_eq_getElem (by simp; omega), List.getElem?_eq_getElem (Nat.mod_lt _ (by omega))] at this
  exact Option.some.inj this
theorem totR_set (xss : List (List Int)) (i : Nat) (ys : List Int) : totR (xss.set i ys) ≤ totR xss + ys.length := by
  induction xss generalizing i with
  | nil => simp [totR]
  | cons x xs ih =>
    cases i with
    | zero => simp [totR]; omega
    | succ i =>
      have := ih i
      simp only [totR, List.set_cons_succ, List.map_cons, List.sum_cons] at *
      omega
theorem turnP_tot (g : List (List Int)) (p k : Int) : (turnP g p k).1.length + totR (turnP g p k).1 ≤ 100 := by
  unfold turnP
  split
  · rename_i h
    rw [Bool.and_eq_true, Bool.and_eq_true, inR_iff, inR_iff] at h
    obtain ⟨⟨h1, h2, h3⟩, _⟩ := h
    have a := graph_tot h1
    have b := graph_len h1
    have c := totR_set g p.toNat (rotL (g.getD p.toNat []) k.toNat)
    rw [rotL_length, getD_get (by omega)] at c
    have d := (graph_mem h1 (List.getElem_mem (show p.toNat < g.length by omega))).1
    simp only [List.length_set]
    rw [getD_get (by omega)]
    omega
  · simp [totR]
theorem tmod_nat {k n : Int} (h0 : 0 ≤ k) (hn : 0 ≤ n) : Int.tmod k n = ((k.toNat % n.toNat : Nat) : Int) := by
  obtain ⟨a, rfl⟩ := Int.eq_ofNat_of_zero_le h0
  obtain ⟨b, rfl⟩ := Int.eq_ofNat_of_zero_le hn
  rfl

/-- A walk's state: its rotors and its place. -/
abbrev St := List Int × Int
def stepP (g : List (List Int)) (w : St) : Option St :=
  if (g.getD w.2.toNat []).length = 0 then none
  else some (w.1.set w.2.toNat ((((w.1.getD w.2.toNat 0).toNat + 1) % (g.getD w.2.toNat []).length : Nat) : Int), (g.getD w.2.toNat []).getD (((w.1.getD w.2.toNat 0).toNat + 1) % (g.getD w.2.toNat []).length) 0)
structure WOK (g : List (List Int)) (w : St) : Prop where
  graph : graphB g = true
  len : w.1.length = g.length
  lo : 0 ≤ w.2
  hi : w.2 < (g.length : Int)
  rot : ∀ i (h : i < w.1.length) (h' : i < g.length), 0 ≤ w.1[i] ∧ w.1[i] ≤ max ((g[i].length : Int) - 1) 0
theorem wok_of {g : List (List Int)} {rs : List Int} {p : Int} (h : walkB g rs p = true) : WOK g (rs, p) := by
  unfold walkB at h
  simp only [Bool.and_eq_true, decide_eq_true_eq] at h
  obtain ⟨⟨⟨h1, h2⟩, h3⟩, h4⟩ := h
  rw [inR_iff] at h2
  refine ⟨h1, h3, h2.1, by simp only; omega, fun i a b => ?_⟩
  have := List.all_eq_true.1 h4 (g[i], rs[i]) (by
    rw [show (g[i], rs[i]) = (g.zip rs)[i]'(by simp only [List.length_zip]; simp only at a; omega) by simp]
    exact List.getElem_mem _)
  unfold rotB at this
  rw [inR_iff] at this
  exact this
theorem stepP_none {g : List (List Int)} {w : St} (W : WOK g w) (hp : w.2.toNat < g.length) : (g[w.2.toNat]).length = 0 → stepP g w = none := fun h => by
  unfold stepP
  rw [getD_get hp, if_pos h]
theorem getD_getI {xs : List Int} {i : Nat} (h : i < xs.length) : xs.getD i 0 = xs[i] := by simp [List.getD, List.getElem?_eq_getElem h]
theorem stepP_some {g : List (List Int)} {w : St} (W : WOK g w) (hp : w.2.toNat < g.length) (hr : w.2.toNat < w.1.length) (h : (g[w.2.toNat]).length ≠ 0) :
    stepP g w = some (w.1.set w.2.toNat ((((w.1[w.2.toNat]).toNat + 1) % (g[w.2.toNat]).length : Nat) : Int), (g[w.2.toNat])[((w.1[w.2.toNat]).toNat + 1) % (g[w.2.toNat]).length]'(Nat.mod_lt _ (by omega))) := by
  unfold stepP
  rw [getD_get hp, if_neg h, getD_getI hr, getD_getI (Nat.mod_lt _ (by omega))]
theorem WOK.step {g : List (List Int)} {w w' : St} (W : WOK g w) (h : stepP g w = some w') : WOK g w' := by
  have hp : w.2.toNat < g.length := by have := W.hi; have := W.lo; omega
  have hr : w.2.toNat < w.1.length := by rw [W.len]; exact hp
  by_cases h0 : (g[w.2.toNat]).length = 0
  · rw [stepP_none W hp h0] at h; cases h
  · rw [stepP_some W hp hr h0] at h
    have hm := Nat.mod_lt ((w.1[w.2.toNat]).toNat + 1) (show 0 < (g[w.2.toNat]).length by omega)
    simp only [Option.some.injEq] at h
    subst h
    have hmem := (graph_mem W.graph (List.getElem_mem hp)).2 _ (List.getElem_mem hm)
    refine ⟨W.graph, by simpa using W.len, hmem.1, hmem.2, fun i a b => ?_⟩
    simp only [List.length_set] at a
    simp only [List.getElem_set]
    split
    · rename_i e
      subst e
      omega
    · exact W.rot i a b

theorem k_copiedW {S : Nat → Prop} {h : Heap} {s : Sl} {xs : List Int} (H : RdI S h s xs) (p : Int) (hn : xs.length ≤ 1000000000) (K : Value → Heap → Prop) (HK : ∀ t h', OwI h' (Iv h.size h'.size) t xs → Fr No h h' → K (.agg #[t.v, VI p]) h') : callM Try.prog 89 #[.agg #[s.v, VI p]] h K := by
  refine v89 s p h K fun b1 b2 h2 hb1 hb2 f2 hL2 => ?_
  have f2 := f2.in_nil
  have l2 : b2 < h2.size := hL2.head.lt
  have s2 := f2.size
  refine k_Clone (H.no f2) hn _ fun t h3 o3 f3 => ⟨t, rfl, hL2.of_no f3, fun h4 f4 hL4 => ?_⟩
  have f4 := f4.inIv (lo := h.size) (hi := h2.size) ⟨⟨hb2, l2⟩, trivial⟩
  exact HK t h4 ((Ow.iv o3 f4 (.inr (Nat.le_refl _))).mono fun k hk hF => ⟨Nat.le_trans s2 hF.1, Nat.lt_of_lt_of_le hF.2 f4.size⟩) ((f2.no_trans f3).ivFresh f4 (Nat.le_refl _))

def firstGo {τ : Type} (g : List (List Int)) (test : τ → St → Bool × τ) (frm : Int) : Nat → Int → τ → St → Int × Bool
  | 0, _, _, _ => (0, false)
  | f + 1, n, t, s =>
    if frm ≤ n then
      if (test t s).1 then (n, true)
      else match stepP g s with
        | none => (0, false)
        | some s' => firstGo g test frm f (n + 1) (test t s).2 s'
    else match stepP g s with
      | none => (0, false)
      | some s' => firstGo g test frm f (n + 1) t s'

def hitP (g : List (List Int)) (rs : List Int) (p q : Int) : Int × Bool :=
  if walkB g rs p && (graphB g && inR 0 ((g.length : Int) - 1) q) then firstGo g (fun (_ : Unit) s => (decide (s.2 = q), ())) 0 2001 0 () (rs, p) else (0, false)
theorem rdI_not {S : Nat → Prop} {h : Heap} {s : Sl} {xs : List Int} (H : RdI S h s xs) {b : Nat} (hb : h.size ≤ b) : RdI (fun k => k ≠ b) h s xs := H.low.mono fun k hk => by omega

def metT (met : List Bool) (s : St) : Bool × List Bool := (!((met.set s.2.toNat true).any (false == ·)), met.set s.2.toNat true)
def coverP (g : List (List Int)) (rs : List Int) (p : Int) : Int × Bool :=
  if walkB g rs p then firstGo g metT 0 2001 0 (List.replicate g.length false) (rs, p) else (0, false)

def sameT (rs : List Int) (p : Int) (_ : Unit) (s : St) : Bool × Unit := (decide (p = s.2 ∧ rs = s.1), ())
def recP (g : List (List Int)) (rs : List Int) (p : Int) : Bool × Bool :=
  if walkB g rs p then ((firstGo g (sameT rs p) 1 2001 0 () (rs, p)).2, true) else (false, false)
theorem first_pos (g : List (List Int)) (test : Unit → St → Bool × Unit) : ∀ (f : Nat) (n : Int) (s : St), 0 ≤ n → (firstGo g test 1 f n () s).2 = decide (0 < (firstGo g test 1 f n () s).1)
  | 0, n, s, _ => by simp [firstGo]
  | f + 1, n, s, h => by
    rw [firstGo]
    split
    · split
      · have : 0 < n := by omega
        simp [this]
      · split
        · simp
        · exact first_pos g test f (n + 1) _ (by omega)
    · split
      · simp
      · exact first_pos g test f (n + 1) _ (by omega)

def runT {τ : Type} (g : List (List Int)) (upd : τ → St → St → τ) : Nat → τ → St → Option (τ × St)
  | 0, t, s => some (t, s)
  | n + 1, t, s => match stepP g s with
    | none => none
    | some s' => runT g upd n (upd t s s') s'

theorem runT_snoc {τ : Type} {g : List (List Int)} {upd : τ → St → St → τ} {s'' : St} : ∀ (n : Nat) (t : τ) (s : St) (t' : τ) (s' : St), runT g upd n t s = some (t', s') → stepP g s' = some s'' → runT g upd (n + 1) t s = some (upd t' s' s'', s'')
  | 0, t, s, t', s', h, hs => by
    simp only [runT, Option.some.injEq, Prod.mk.injEq] at h
    obtain ⟨rfl, rfl⟩ := h
    rw [runT, hs]
    rfl
  | n + 1, t, s, t', s', h, hs => by
    rw [runT] at h
    rw [runT]
    split at h
    · cases h
    · rename_i s2 h2
      exact runT_snoc n _ _ _ _ h hs

def runOfP (g : List (List Int)) (rs : List Int) (p n : Int) : St × Bool :=
  if walkB g rs p && inR 0 2000 n then match runT g (fun (_ : Unit) _ _ => ()) n.toNat () (rs, p) with
    | none => (([], 0), false)
    | some (_, s) => (s, true)
  else (([], 0), false)
theorem run_len {τ : Type} {g : List (List Int)} {upd : τ → St → St → τ} : ∀ (n : Nat) (t : τ) (s : St), WOK g s → ∀ t' s', runT g upd n t s = some (t', s') → WOK g s'
  | 0, t, s, W, t', s', h => by
    simp only [runT, Option.some.injEq, Prod.mk.injEq] at h
    rw [← h.2]; exact W
  | n + 1, t, s, W, t', s', h => by
    rw [runT] at h
    split at h
    · cases h
    · rename_i s2 hs
      exact run_len n _ s2 (W.step hs) t' s' h
theorem runOfP_len (g : List (List Int)) (rs : List Int) (p n : Int) : (runOfP g rs p n).1.1.length ≤ 8 := by
  unfold runOfP
  split
  · rename_i h
    rw [Bool.and_eq_true] at h
    have W := wok_of h.1
    split
    · simp
    · rename_i s hs
      have W2 := run_len _ _ _ W _ _ hs
      have := graph_len W2.graph
      have := W2.len
      simp only
      omega
  · simp

/-- A run: its end, what was passed, visits, uses. -/
structure Rn where
  s : St
  ps : List Int
  vs : List Int
  us : List (List Int)
def bump (l : List Int) (i : Nat) : List Int := l.set i (l.getD i 0 + 1)
def goP (g : List (List Int)) : Nat → Rn → Option Rn
  | 0, r => some r
  | n + 1, r => match stepP g r.s with
    | none => none
    | some s' => goP g n ⟨s', r.ps ++ [s'.2], bump r.vs s'.2.toNat, r.us.set r.s.2.toNat (bump (r.us.getD r.s.2.toNat []) (s'.1.getD r.s.2.toNat 0).toNat)⟩
def zerosR (g : List (List Int)) : List (List Int) := g.map fun l => List.replicate l.length 0
def go0 (g : List (List Int)) (s : St) : Rn := ⟨s, [s.2], List.replicate g.length 0, zerosR g⟩
/-- What holds of a run on its way. -/
structure RnOK (g : List (List Int)) (m : Nat) (r : Rn) : Prop where
  w : WOK g r.s
  ps : r.ps.length = m + 1
  vs : r.vs.length = g.length
  us : r.us.length = g.length
  row : ∀ i (h : i < r.us.length) (h' : i < g.length), r.us[i].length = g[i].length
  vb : ∀ x, x ∈ r.vs → 0 ≤ x ∧ x ≤ m
  ub : ∀ l, l ∈ r.us → ∀ x, x ∈ l → 0 ≤ x ∧ x ≤ m
theorem bump_length (l : List Int) (i : Nat) : (bump l i).length = l.length := by simp [bump]
theorem bump_mem {l : List Int} {i m : Nat} (h : ∀ x, x ∈ l → 0 ≤ x ∧ x ≤ (m : Int)) : ∀ x, x ∈ bump l i → 0 ≤ x ∧ x ≤ ((m + 1 : Nat) : Int) := by
  intro x hx
  unfold bump at hx
  rcases List.mem_or_eq_of_mem_set hx with hx | rfl
  · have := h x hx; omega
  · by_cases hi : i < l.length
    · rw [getD_getI hi]
      have := h _ (List.getElem_mem hi)
      omega
    · rw [show l.getD i 0 = 0 by simp [List.getD, List.getElem?_eq_none (by omega : l.length ≤ i)]]
      omega
theorem RnOK.step {g : List (List Int)} {m : Nat} {r : Rn} (R : RnOK g m r) {s' : St} (hs : stepP g r.s = some s') : RnOK g (m + 1) ⟨s', r.ps ++ [s'.2], bump r.vs s'.2.toNat, r.us.set r.s.2.toNat (bump (r.us.getD r.s.2.toNat []) (s'.1.getD r.s.2.toNat 0).toNat)⟩ := by
  have hp : r.s.2.toNat < r.us.length := by rw [R.us]; have := R.w.hi; have := R.w.lo; omega
  refine ⟨R.w.step hs, by simp [R.ps], by simp [bump_length, R.vs], by simp [R.us], fun i a b => ?_, bump_mem R.vb, fun l hl => ?_⟩
  · simp only [List.length_set] at a
    simp only [List.getElem_set]
    split
    · rename_i e
      subst e
      rw [bump_length, getD_get hp]
      exact R.row _ a b
    · exact R.row i a b
  · rcases List.mem_or_eq_of_mem_set hl with hl | rfl
    · exact fun x hx => by have := R.ub l hl x hx; omega
    · rw [getD_get hp]
      exact bump_mem (R.ub _ (List.getElem_mem hp))
theorem go0_ok {g : List (List Int)} {s : St} (W : WOK g s) : RnOK g 0 (go0 g s) := by
  refine ⟨W, rfl, by simp [go0], by simp [go0, zerosR], fun i a b => by simp [go0, zerosR], fun x hx => ?_, fun l hl x hx => ?_⟩
  · simp only [go0, List.mem_replicate] at hx
    omega
  · simp only [go0, zerosR, List.mem_map] at hl
    obtain ⟨l', _, rfl⟩ := hl
    simp only [List.mem_replicate] at hx
    omega

def nextR (r : Rn) (s' : St) : Rn := ⟨s', r.ps ++ [s'.2], bump r.vs s'.2.toNat, r.us.set r.s.2.toNat (bump (r.us.getD r.s.2.toNat []) (s'.1.getD r.s.2.toNat 0).toNat)⟩
/-- A run that keeps one thing is the run that keeps all of them, seen from there. -/
theorem go_run {τ : Type} (g : List (List Int)) (f : Rn → τ) (upd : τ → St → St → τ) (hf : ∀ r s', f (nextR r s') = upd (f r) r.s s') : ∀ (n : Nat) (r : Rn), runT g upd n (f r) r.s = (goP g n r).map fun r => (f r, r.s)
  | 0, r => by simp [runT, goP]
  | n + 1, r => by
    rw [runT, goP]
    cases stepP g r.s with
    | none => rfl
    | some s' =>
      show runT g upd n (upd (f r) r.s s') s' = (goP g n (nextR r s')).map _
      rw [← go_run g f upd hf n (nextR r s'), hf]
      rfl

def passU (t : List Int) (_ s' : St) : List Int := t ++ [s'.2]
def passP (g : List (List Int)) (rs : List Int) (p n : Int) : List Int × Bool :=
  if walkB g rs p && inR 0 200 n then match runT g passU n.toNat [p] (rs, p) with
    | none => ([], false)
    | some (t, _) => (t, true)
  else ([], false)
def visU (t : List Int) (_ s' : St) : List Int := bump t s'.2.toNat
def visP (g : List (List Int)) (rs : List Int) (p n : Int) : List Int × Bool :=
  if walkB g rs p && inR 0 2000 n then match runT g visU n.toNat (List.replicate g.length 0) (rs, p) with
    | none => ([], false)
    | some (t, _) => (t, true)
  else ([], false)
def useU (t : List (List Int)) (s s' : St) : List (List Int) := t.set s.2.toNat (bump (t.getD s.2.toNat []) (s'.1.getD s.2.toNat 0).toNat)
def useP (g : List (List Int)) (rs : List Int) (p n : Int) : List (List Int) × Bool :=
  if walkB g rs p && inR 0 2000 n then match runT g useU n.toNat (zerosR g) (rs, p) with
    | none => ([], false)
    | some (t, _) => (t, true)
  else ([], false)

theorem passP_len (g : List (List Int)) (rs : List Int) (p n : Int) : (passP g rs p n).1.length ≤ 201 := by
  unfold passP
  split
  · rename_i h
    rw [Bool.and_eq_true, inR_iff] at h
    have key : ∀ (m : Nat) (t : List Int) (s : St) (t' : List Int) (s' : St), runT g passU m t s = some (t', s') → t'.length = t.length + m := by
      intro m
      induction m with
      | zero =>
        intro t s t' s' h
        simp only [runT, Option.some.injEq, Prod.mk.injEq] at h
        rw [h.1]
        rfl
      | succ m ih =>
        intro t s t' s' h
        rw [runT] at h
        split at h
        · cases h
        · have := ih _ _ _ _ h
          simp [passU] at this
          omega
    split
    · simp
    · rename_i t s hs
      have := key _ _ _ _ _ hs
      simp at this
      simp only
      omega
  · simp

@[reducible] def tW : TypeId := 27
@[reducible] def tWs : TypeId := 59
theorem rWs : rowC Try.prog tWs = some (tW, 2, 32, [nilSl.v, VI 0]) := by kernel_rfl
@[reducible] def OwWS (h : Heap) (F : Nat → Prop) (s : Sl) (ws : List (List Int × Int)) : Prop := OwW h F tW tI s ws
theorem OwW_ownF {h : Heap} {F : Nat → Prop} {eo ei : TypeId} {s : Sl} {ws : List (List Int × Int)} (H : OwW h F eo ei s ws) {h1 h2 : Heap} (f : Fr s.own h1 h2) : Fr F h1 h2 := f.mono fun k _ hk => by
  obtain ⟨ss, e1, h2, _⟩ := H.out
  exact (h2.foot hk).1
def totW (ws : List (List Int × Int)) : Nat := (ws.map fun w => w.1.length + 1).sum
def numW : Int → List (List Int × Int) → List (List Int × Int)
  | _, [] => []
  | k, w :: ws => (numI k w.1, k + w.1.length) :: numW (k + w.1.length + 1) ws
theorem numW_length : ∀ (ws : List (List Int × Int)) (k : Int), (numW k ws).length = ws.length
  | [], _ => rfl
  | w :: ws, k => by simp [numW, numW_length ws]
theorem numW_get : ∀ (ws : List (List Int × Int)) (k : Int) (i : Nat) (h : i < (numW k ws).length) (h' : i < ws.length), (numW k ws)[i] = (numI (k + totW (ws.take i)) ws[i].1, k + totW (ws.take i) + ws[i].1.length)
  | w :: ws, k, 0, _, _ => by simp [numW, totW]
  | w :: ws, k, i + 1, h, h' => by
    simp only [numW, List.getElem_cons_succ]
    rw [numW_get ws _ i (by simpa [numW] using h) (by simpa using h')]
    have e : k + (w.1.length : Int) + 1 + (totW (ws.take i) : Int) = k + (totW ((w :: ws).take (i + 1)) : Int) := by simp only [totW, List.take_succ_cons, List.map_cons, List.sum_cons]; omega
    rw [e]
theorem totW_take_le : ∀ (ws : List (List Int × Int)) (i : Nat), totW (ws.take i) ≤ totW ws
  | [], i => by simp [totW]
  | x :: xs, 0 => by simp [totW]
  | x :: xs, i + 1 => by
    have := totW_take_le xs i
    simp only [totW, List.take_succ_cons, List.map_cons, List.sum_cons] at *
    omega
theorem totW_snoc (ws : List (List Int × Int)) (i : Nat) (h : i < ws.length) : totW (ws.take (i + 1)) = totW (ws.take i) + ws[i].1.length + 1 := by
  rw [List.take_succ_eq_append_getElem h]
  simp only [totW, List.map_append, List.sum_append, List.map_cons, List.map_nil, List.sum_cons, List.sum_nil]
  omega
theorem totW_append (a b : List (List Int × Int)) : totW (a ++ b) = totW a + totW b := by simp [totW]

theorem g_eqWalkS {S S' : Nat → Prop} {h : Heap} {a b : Sl} {ws : List (List Int × Int)} (H : RdW S h a ws) (H' : RdW S' h b ws) : Ret Try.prog 44 #[a.v, b.v] h (VB true) := by
  intro K HK
  have hl := H.len
  have hbig := H.big
  refine v44 a b h K ⟨fun e => ?_, fun _ => ?_⟩
  · have := not_t e
    rw [H.len, H'.len] at this
    simp at this
  · refine ⟨fun n i h' => Fr No h h' ∧ 0 ≤ i ∧ i + n = (ws.length : Int), ⟨ws.length, Fr.refl _ _, by omega, by omega⟩, ?_⟩
    rintro n i h1 ⟨f, i0, i1⟩ hL
    refine ⟨fun e => ?_, fun e => HK _ f⟩
    have hi : i < (ws.length : Int) := by simp at e; omega
    obtain ⟨b1, x, c1, r1⟩ := (H.no f).get i0 hi
    obtain ⟨b2, y, c2, r2⟩ := (H'.no f).get i0 hi
    refine ⟨b1, x, _, c1, b2, y, _, c2, k_eqWalk r1 r2 _ _ _ fun h2 f2 => ⟨_, rfl, .nil, fun e => ?_, fun e => ?_⟩⟩
    · rw [decide_eq_true ⟨rfl, rfl⟩] at e
      simp at e
    · rw [w64_succ (n := ws.length) i0 hi (by omega)]
      exact ⟨n - 1, by omega, f.no_trans f2, by omega, by omega⟩

theorem g_markWalkS {a b : Nat} {h : Heap} {s : Sl} {ws : List (List Int × Int)} (H : OwWS h (Iv a b) s ws) (hn : totW ws ≤ 1048576) (k : Int) (h0 : 1 ≤ k) (hk : k ≤ 10000000000) (K : Value → Heap → Prop) (HK : ∀ h', OwWS h' (Iv a b) s (numW k ws) → Fr (Iv a b) h h' → K (VI (k + totW ws)) h') : callM Try.prog 46 #[s.v, VI k] h K := by
  have hl : s.n = ws.length := H.len
  have hbig := H.rd.big
  refine v46 s k h K ⟨fun n k' i h' => 0 ≤ i ∧ i + n = (ws.length : Int) ∧ k' = k + totW (ws.take i.toNat) ∧ OwWS h' (Iv a b) s ((numW k ws).take i.toNat ++ ws.drop i.toNat) ∧ Fr (Iv a b) h h', ⟨ws.length, by omega, by omega, by simp [totW], by simpa using H, Fr.refl _ _⟩, ?_⟩
  rintro n k' i h' ⟨i0, i1, rfl, H', f⟩ hL
  refine ⟨fun e => ?_, fun e => ?_⟩
  · have hi : i < (s.n : Int) := by simpa using e
    have hlen : ((numW k ws).take i.toNat ++ ws.drop i.toNat).length = ws.length := by simp [numW_length]; omega
    have hlen2 : ((numW k ws).take i.toNat).length = i.toNat := by simp [numW_length]; omega
    obtain ⟨b1, si, c1, c2, c3⟩ := H'.inner i0 (by omega)
    have e1 : ((numW k ws).take i.toNat ++ ws.drop i.toNat)[i.toNat]'(by omega) = ws[i.toNat]'(by omega) := by
      rw [List.getElem_append_right (by omega)]
      simp [hlen2]
    rw [e1] at c2
    have hle := totW_take_le ws i.toNat
    have hle2 := totW_take_le ws (i.toNat + 1)
    have hsn := totW_snoc ws i.toNat (by omega)
    refine ⟨b1, si, c1, k_markIntS c2 _ (by omega) (by omega) (by omega) _ fun h2 o2 f2 => ⟨_, rfl, .nil, b1, ?_⟩⟩
    obtain ⟨w1, w2, w3⟩ := c3 h2 _ (k + totW (ws.take i.toNat) + (ws[i.toNat]'(by omega)).1.length) f2 o2
    refine ⟨w1, .nil, fun h3 e3 _ => ?_⟩
    subst e3
    rw [w64_succ (n := ws.length) i0 (by omega) (by omega), w64_eq _ (by omega) (by omega)]
    refine ⟨n - 1, by omega, by omega, by omega, ?_, ?_, ?_⟩
    · rw [toNat_succ i0, hsn]; omega
    · rw [← numW_get ws k i.toNat (by rw [numW_length]; omega) (by omega), set_mid _ _ _ _ (by omega)] at w2
      rw [toNat_succ i0]
      exact w2
    · exact (f.trans (f2.mono fun k _ hk => (c2.foot hk).1)).trans (OwW_ownF H' w3)
  · have hi : ¬ i < (s.n : Int) := by simpa using e
    have e4 : i = ws.length := by omega
    subst e4
    have := HK h' (by simpa [List.take_of_length_le, numW_length] using H') f
    simpa using this

theorem g_heldWalkS {S : Nat → Prop} {h : Heap} {s : Sl} {k : Int} {ws : List (List Int × Int)} (H : RdW S h s (numW k ws)) (hn : totW ws ≤ 1048576) (h0 : 1 ≤ k) (hk : k ≤ 10000000000) : Ret Try.prog 47 #[s.v, VI k] h (VI (k + totW ws)) := by
  intro K HK
  have hl : s.n = ws.length := by have := H.len; rw [numW_length] at this; exact this
  have hbig := H.big
  refine v47 s k h K ⟨fun n k' i h' => Fr No h h' ∧ 0 ≤ i ∧ i + n = (ws.length : Int) ∧ k' = k + totW (ws.take i.toNat), ⟨ws.length, Fr.refl _ _, by omega, by omega, by simp [totW]⟩, ?_⟩
  rintro n k' i h1 ⟨f, i0, i1, rfl⟩ hL
  refine ⟨fun e => ?_, fun e => ?_⟩
  · have hi : i < (s.n : Int) := by simpa using e
    obtain ⟨b1, x, c1, r1⟩ := (H.no f).get i0 (by rw [numW_length]; omega)
    rw [numW_get ws k i.toNat _ (by omega)] at c1 r1
    have hle := totW_take_le ws i.toNat
    have hle2 := totW_take_le ws (i.toNat + 1)
    have hsn := totW_snoc ws i.toNat (by omega)
    refine ⟨b1, x, c1 0 (by simp), k_heldIntS _ r1 (by omega) (by omega) (by omega) _ ⟨_, rfl, .nil, fun e => ?_, fun e => ⟨b1, _, c1 1 (by simp), fun e => ?_, fun e => ?_⟩⟩⟩
    · simp only [decide_eq_true_eq] at e
      omega
    · have := not_t e
      simp at this
    · rw [w64_succ (n := ws.length) i0 (by omega) (by omega), w64_eq _ (by omega) (by omega)]
      exact ⟨n - 1, by omega, f, by omega, by omega, by rw [toNat_succ i0, hsn]; omega⟩
  · have hi : ¬ i < (s.n : Int) := by simpa using e
    have e4 : i = ws.length := by omega
    subst e4
    have := HK _ f
    simpa using this

def wbAt (g : List (List Int)) (rs : List Int) (p : Int) (i : Nat) : List (List Int × Int) :=
  if (g.getD i []).length = 0 then [] else if (g.getD i []).getD (rs.getD i 0).toNat 0 = p then [(rs.set i ((rs.getD i 0 + (g.getD i []).length - 1).tmod (g.getD i []).length), (i : Int))] else []
def wbL (g : List (List Int)) (rs : List Int) (p : Int) : Nat → List (List Int × Int)
  | 0 => []
  | n + 1 => wbL g rs p n ++ wbAt g rs p n
def wbP (g : List (List Int)) (rs : List Int) (p : Int) : List (List Int × Int) × Bool := if walkB g rs p then (wbL g rs p g.length, true) else ([], false)
theorem wbAt_len (g : List (List Int)) (rs : List Int) (p : Int) (i : Nat) : (wbAt g rs p i).length ≤ 1 ∧ totW (wbAt g rs p i) ≤ rs.length + 1 := by
  unfold wbAt
  split
  · simp [totW]
  · split <;> simp [totW]
theorem wbL_len (g : List (List Int)) (rs : List Int) (p : Int) : ∀ n, (wbL g rs p n).length ≤ n ∧ totW (wbL g rs p n) ≤ n * (rs.length + 1)
  | 0 => by simp [wbL, totW]
  | n + 1 => by
    have h1 := wbL_len g rs p n
    have h2 := wbAt_len g rs p n
    rw [wbL, totW_append, List.length_append, Nat.add_mul]
    omega
theorem wbP_len (g : List (List Int)) (rs : List Int) (p : Int) : totW (wbP g rs p).1 ≤ 72 := by
  unfold wbP
  split
  · rename_i h
    have W := wok_of h
    have h1 := graph_len W.graph
    have h2 := W.len
    have h3 := (wbL_len g rs p g.length).2
    simp only at h2 ⊢
    rw [h2] at h3
    have h4 : g.length * (g.length + 1) ≤ 8 * 9 := Nat.mul_le_mul (by omega) (by omega)
    omega
  · simp [totW]

theorem k_spec_WalksBefore {S S' : Nat → Prop} {h : Heap} {g w : Sl} {xss : List (List Int)} {rs : List Int} (G : RdR S h g xss) (H : RdI S' h w rs) (p : Int) (K : Value → Heap → Prop) (HK : ∀ t h', OwWS h' (Iv h.size h'.size) t (wbP xss rs p).1 → Fr No h h' → K (.tuple #[t.v, VB (wbP xss rs p).2]) h') : callM Try.prog 42 #[.agg #[g.v], .agg #[w.v, VI p]] h K := by
  refine v42 g w p h K fun b1 b2 h2 hb1 hb2 f2 hL2 => ?_
  have f2 := f2.in_nil
  refine k_spec_waGood (G.no f2) (H.no f2) p _ fun h3 f3 => ⟨_, rfl, hL2.of_no f3, fun e => ?_, fun e => ?_⟩
  · have e2 : wbP xss rs p = ([], false) := by unfold wbP; rw [if_neg (by rw [not_t e]; simp)]
    have := HK nilSl h3 (by rw [e2]; exact OwW.nil _ _ _ _) (f2.no_trans f3)
    rw [e2] at this
    exact this
  have e := not_f e
  have e2 : wbP xss rs p = (wbL xss rs p xss.length, true) := by unfold wbP; exact if_pos e
  have W := wok_of e
  have hgl := graph_len W.graph
  have hrl : rs.length = xss.length := W.len
  have f03 := f2.no_trans f3
  have z03 := f03.size
  have l2 : b2 < h3.size := (hL2.of_no f3).head.lt
  have l1 : b1 < h3.size := (hL2.of_no f3).tail.head.lt
  refine ⟨fun n out i h' => 0 ≤ i ∧ i + n = (xss.length : Int) ∧ OwWS h' (fun k => h3.size ≤ k) out (wbL xss rs p i.toNat) ∧ Fr No h h' ∧ h3.size ≤ h'.size, ⟨xss.length, by omega, by omega, by simpa [wbL] using OwW.nil _ _ _ _, f03, Nat.le_refl _⟩, ?_⟩
  rintro n out i h4 ⟨i0, i1, o4, f4, z4⟩ hL4
  have G4 := G.no f4
  have H4 := H.no f4
  refine ⟨fun e => ?_, fun e => ?_⟩
  · have hi := G4.lt e
    have hir : i < (rs.length : Int) := by omega
    have hb := wbL_len xss rs p i.toNat
    obtain ⟨si, c1, r1⟩ := G4.get i0 hi
    have hm := graph_mem W.graph (List.getElem_mem (show i.toNat < xss.length by omega))
    have hrot := W.rot i.toNat (by show i.toNat < rs.length; omega) (by omega)
    have hsn : si.n = (xss[i.toNat]'(by omega)).length := r1.len
    have eg : xss.getD i.toNat [] = xss[i.toNat]'(by omega) := getD_get (by omega)
    have er : rs.getD i.toNat 0 = rs[i.toNat]'(by omega) := getD_getI (by omega)
    refine ⟨G4.inb i0 hi, si, c1, fun e => ?_, fun e => ?_⟩
    · simp only [decide_eq_true_eq] at e
      rw [G4.succ i0 hi]
      refine ⟨n - 1, by omega, by omega, by omega, ?_, f4, z4⟩
      rw [toNat_succ i0, wbL, wbAt, eg, if_pos (by omega), List.append_nil]
      exact o4
    simp only [decide_eq_false_iff_not] at e
    have hr0 : 0 ≤ rs[i.toNat]'(by omega) := hrot.1
    have hr1 : rs[i.toNat]'(by omega) < ((xss[i.toNat]'(by omega)).length : Int) := by have : rs[i.toNat]'(by omega) ≤ max (((xss[i.toNat]'(by omega)).length : Int) - 1) 0 := hrot.2; omega
    refine ⟨H4.inb i0 hir, _, H4.get i0 hir, r1.inb hr0 hr1, _, r1.get hr0 hr1, fun e5 => ?_, fun e5 => ?_⟩
    · have e5 := not_t e5
      simp only [decide_eq_false_iff_not] at e5
      rw [G4.succ i0 hi]
      refine ⟨n - 1, by omega, by omega, by omega, ?_, f4, z4⟩
      rw [toNat_succ i0, wbL, wbAt, eg, er, if_neg (by omega), if_neg (by rw [getD_getI (by omega)]; exact e5), List.append_nil]
      exact o4
    have e5 := not_f e5
    simp only [decide_eq_true_eq] at e5
    refine k_l1Own H4 (by omega) _ fun t h5 o5 f5 => ⟨t, rfl, hL4.of_no f5, H4.inb i0 hir, fun b3 h7 hb3 f7 hL7 => ?_⟩
    have f7 := f7.in_nil
    have f57 := f5.no_trans f7
    have z5 := f5.size
    have z7 := f7.size
    have l3 : b3 < h7.size := hL7.head.lt
    have o7 := Ow.no o5 f7
    have htn : t.n = rs.length := RdI.len o7.rdF
    have hw1 : w64 (w64 (rs[i.toNat]'(by omega) + (si.n : Int)) - 1) = rs[i.toNat]'(by omega) + (xss[i.toNat]'(by omega)).length - 1 := by
      rw [w64_eq (rs[i.toNat]'(by omega) + (si.n : Int)) (by omega) (by omega), w64_eq _ (by omega) (by omega), hsn]
    obtain ⟨w1, w2, w3⟩ := o7.store1 i0 (by omega) (VI ((rs[i.toNat]'(by omega) + (xss[i.toNat]'(by omega)).length - 1).tmod (xss[i.toNat]'(by omega)).length))
    refine ⟨_, (H4.no f57).get i0 hir, by omega, o7.inb i0 (by omega), ?_⟩
    rw [hw1, hsn]
    have w3' : Fr (Iv h4.size h5.size) h7 _ := w3.mono fun _ _ hk => (o7.foot hk).1
    have hL8 := hL7.iv w3' ⟨.inr hb3, .inl (by omega), .inl (by omega), trivial⟩
    refine ⟨w1, hL8, fun h8 e8 _ => ?_⟩
    subst e8
    have z8 := w3'.size
    rw [← List.map_set] at w2
    refine eop_lit rWs (fun k => _ ≤ k) (fun _ h => h) 1 (by omega) [t.v, VI i] rfl rfl fun u h9 n9 c9 o9 f9 m9 _ => ⟨u, rfl, hL8.of_no f9, ?_⟩
    have z9 := f9.size
    have hL9 := hL8.of_no f9
    have o49 := ((o4.toIv.no f57).iv w3' (by omega)).no f9
    refine OwW.snoc rWs o49 (F' := fun k => h3.size ≤ k) (p := i) (fun k _ hk => hk.1) (fun k hk => by omega) ((Ow.no w2 f9).mono fun k _ hk => Nat.le_trans z4 hk.1) (fun k hk hk2 => by have := (w2.foot hk).1.1; have := hk2.2; omega) o9.rd (by omega) fun y h10 o10 f10 => ⟨y, rfl, hL9.iv f10 ⟨.inr (by omega), .inl (by omega), .inl (by omega), trivial⟩, ?_⟩
    have z10 := f10.size
    rw [G4.succ i0 hi]
    refine ⟨n - 1, by omega, by omega, by omega, ?_, ?_, by omega⟩
    · rw [toNat_succ i0, wbL, wbAt, eg, er, if_neg (by omega), if_pos (by rw [getD_getI (by omega)]; exact e5), show ((i.toNat : Nat) : Int) = i by omega]
      exact o10
    · exact (((f4.no_trans f57).ivFresh w3' (by omega)).no_trans f9).ivFresh f10 (by omega)
  · have hi := G4.ge e
    have ei : i = xss.length := by omega
    subst ei
    have := HK out h4 (by rw [e2]; exact o4.toIv.ivs z03 (Nat.le_refl _)) f4
    rw [e2] at this
    exact this

theorem k_WalksBefore {S S' : Nat → Prop} {h : Heap} {g w : Sl} {xss : List (List Int)} {rs : List Int} (G : RdR S h g xss) (H : RdI S' h w rs) (p : Int) (K : Value → Heap → Prop) (HK : ∀ t h', OwWS h' (Iv h.size h'.size) t (wbP xss rs p).1 → Fr No h h' → K (.tuple #[t.v, VB (wbP xss rs p).2]) h') : callM Try.prog 43 #[.agg #[g.v], .agg #[w.v, VI p]] h K := by
  refine v43 g w p h K fun b1 b2 h2 hb1 hb2 f2 hL2 => ?_
  have f2 := f2.in_nil
  refine k_isWalk (G.no f2) (H.no f2) p _ fun h3 f3 => ⟨_, rfl, hL2.of_no f3, fun e => ?_, fun e => ?_⟩
  · have e2 : wbP xss rs p = ([], false) := by unfold wbP; rw [if_neg (by rw [not_t e]; simp)]
    have := HK nilSl h3 (by rw [e2]; exact OwW.nil _ _ _ _) (f2.no_trans f3)
    rw [e2] at this
    exact this
  have e := not_f e
  have e2 : wbP xss rs p = (wbL xss rs p xss.length, true) := by unfold wbP; exact if_pos e
  have W := wok_of e
  have hgl := graph_len W.graph
  have hrl : rs.length = xss.length := W.len
  have f03 := f2.no_trans f3
  have z03 := f03.size
  have l2 : b2 < h3.size := (hL2.of_no f3).head.lt
  have l1 : b1 < h3.size := (hL2.of_no f3).tail.head.lt
  refine eop_lit rWs (fun k => h3.size ≤ k) (fun _ h => h) 0 (by omega) [] rfl rfl fun t0 h3' n3 c3 o3 f3' m3 _ => ⟨t0, rfl, (hL2.of_no f3).of_no f3', ?_⟩
  have o3 : OwWS h3' (fun k => h3.size ≤ k) t0 [] := ⟨[], rfl, o3, fun i a => by simp at a, fun i j a => by simp at a, fun i a => by simp at a⟩
  refine ⟨fun n out i h' => 0 ≤ i ∧ i + n = (xss.length : Int) ∧ OwWS h' (fun k => h3.size ≤ k) out (wbL xss rs p i.toNat) ∧ Fr No h h' ∧ h3.size ≤ h'.size, ⟨xss.length, by omega, by omega, by simpa [wbL] using o3, f03.no_trans f3', f3'.size⟩, ?_⟩
  rintro n out i h4 ⟨i0, i1, o4, f4, z4⟩ hL4
  have G4 := G.no f4
  have H4 := H.no f4
  refine ⟨fun e => ?_, fun e => ?_⟩
  · have hi := G4.lt e
    have hir : i < (rs.length : Int) := by omega
    have hb := wbL_len xss rs p i.toNat
    obtain ⟨si, c1, r1⟩ := G4.get i0 hi
    have hm := graph_mem W.graph (List.getElem_mem (show i.toNat < xss.length by omega))
    have hrot := W.rot i.toNat (by show i.toNat < rs.length; omega) (by omega)
    have hsn : si.n = (xss[i.toNat]'(by omega)).length := r1.len
    have eg : xss.getD i.toNat [] = xss[i.toNat]'(by omega) := getD_get (by omega)
    have er : rs.getD i.toNat 0 = rs[i.toNat]'(by omega) := getD_getI (by omega)
    refine ⟨G4.inb i0 hi, si, c1, fun e => ?_, fun e => ?_⟩
    rotate_left
    · simp only [decide_eq_false_iff_not] at e
      rw [G4.succ i0 hi]
      refine ⟨n - 1, by omega, by omega, by omega, ?_, f4, z4⟩
      rw [toNat_succ i0, wbL, wbAt, eg, if_pos (by omega), List.append_nil]
      exact o4
    simp only [decide_eq_true_eq] at e
    have hr0 : 0 ≤ rs[i.toNat]'(by omega) := hrot.1
    have hr1 : rs[i.toNat]'(by omega) < ((xss[i.toNat]'(by omega)).length : Int) := by have : rs[i.toNat]'(by omega) ≤ max (((xss[i.toNat]'(by omega)).length : Int) - 1) 0 := hrot.2; omega
    refine ⟨H4.inb i0 hir, _, H4.get i0 hir, r1.inb hr0 hr1, _, r1.get hr0 hr1, fun e5 => ?_, fun e5 => ?_⟩
    rotate_left
    · simp only [decide_eq_false_iff_not] at e5
      rw [G4.succ i0 hi]
      refine ⟨n - 1, by omega, by omega, by omega, ?_, f4, z4⟩
      rw [toNat_succ i0, wbL, wbAt, eg, er, if_neg (by omega), if_neg (by rw [getD_getI (by omega)]; exact e5), List.append_nil]
      exact o4
    simp only [decide_eq_true_eq] at e5
    refine k_copiedW H4 p (by omega) _ fun t h5 o5 f5 => ⟨t, _, rfl, hL4.of_no f5, H4.inb i0 hir, fun b3 h7 hb3 f7 hL7 => ?_⟩
    have f7 := f7.in_nil
    have f57 := f5.no_trans f7
    have z5 := f5.size
    have z7 := f7.size
    have l3 : b3 < h7.size := hL7.head.lt
    have o7 := Ow.no o5 f7
    have htn : t.n = rs.length := RdI.len o7.rdF
    have hw1 : w64 (w64 (rs[i.toNat]'(by omega) + (si.n : Int)) - 1) = rs[i.toNat]'(by omega) + (xss[i.toNat]'(by omega)).length - 1 := by
      rw [w64_eq (rs[i.toNat]'(by omega) + (si.n : Int)) (by omega) (by omega), w64_eq _ (by omega) (by omega), hsn]
    refine ⟨_, (H4.no f57).get i0 hir, by omega, fun h8 f8 hL8 => ?_⟩
    have f8 := f8.inIv (lo := h5.size) (hi := h7.size) ⟨⟨hb3, l3⟩, trivial⟩
    have z8 := f8.size
    have o8 := Ow.iv o7 f8 (by omega)
    have f48 : Fr No h h8 := (f4.no_trans f57).ivFresh f8 (by omega)
    obtain ⟨w1, w2, w3⟩ := o8.store1 i0 (by omega) (VI ((rs[i.toNat]'(by omega) + (xss[i.toNat]'(by omega)).length - 1).tmod (xss[i.toNat]'(by omega)).length))
    refine ⟨(H.no f48).get i0 hir, o8.inb i0 (by omega), ?_⟩
    rw [hw1, hsn]
    have w3' : Fr (Iv h4.size h5.size) h8 _ := w3.mono fun _ _ hk => (o8.foot hk).1
    have hL9 := hL8.iv w3' ⟨.inr hb3, .inl (by omega), .inl (by omega), trivial⟩
    refine ⟨w1, hL9, fun h9 e9 _ => ?_⟩
    subst e9
    have z9 := w3'.size
    rw [← List.map_set] at w2
    refine eop_lit rWs (fun k => _ ≤ k) (fun _ h => h) 1 (by omega) [t.v, VI i] rfl rfl fun u h10 n10 c10 o10 f10 m10 _ => ⟨u, rfl, hL9.of_no f10, ?_⟩
    have z10 := f10.size
    have hL10 := hL9.of_no f10
    have o49 := (((o4.toIv.no f57).iv f8 (by omega)).iv w3' (by omega)).no f10
    refine OwW.snoc rWs o49 (F' := fun k => h3.size ≤ k) (p := i) (fun k _ hk => hk.1) (fun k hk => by omega) ((Ow.no w2 f10).mono fun k _ hk => Nat.le_trans z4 hk.1) (fun k hk hk2 => by have := (w2.foot hk).1.1; have := hk2.2; omega) o10.rd (by omega) fun y h11 o11 f11 => ⟨y, rfl, hL10.iv f11 ⟨.inr (by omega), .inl (by omega), .inl (by omega), trivial⟩, ?_⟩
    have z11 := f11.size
    rw [G4.succ i0 hi]
    refine ⟨n - 1, by omega, by omega, by omega, ?_, ?_, by omega⟩
    · rw [toNat_succ i0, wbL, wbAt, eg, er, if_neg (by omega), if_pos (by rw [getD_getI (by omega)]; exact e5), show ((i.toNat : Nat) : Int) = i by omega]
      exact o11
    · exact ((f48.ivFresh w3' (by omega)).no_trans f10).ivFresh f11 (by omega)
  · have hi := G4.ge e
    have ei : i = xss.length := by omega
    subst ei
    have := HK out h4 (by rw [e2]; exact o4.toIv.ivs z03 (Nat.le_refl _)) f4
    rw [e2] at this
    exact this

theorem k_lawWalksBefore {h : Heap} {S0 : Nat → Prop} {s0 : Sl} {x0 : List (List Int)} (G0 : RdR S0 h s0 x0) {S1 : Nat → Prop} {s1 : Sl} {x1 : List Int} (G1 : RdI S1 h s1 x1) (n2 : Int) : Ret Try.prog 10 #[.agg #[s0.v], .agg #[s1.v, VI n2]] h (VB true) := by
  intro K HK
  replace G0 := RdR.toIv G0
  replace G1 := RdI.toIv G1
  have fz : Fr No h h := Fr.refl _ _
  have := wbP_len x0 x1 n2
  refine v10 s0 s1 n2 h K ?_
  have hL : Vars h [] := .nil
  intro b_1 b_2 h_2 hb_b_1 hb_b_2 f1 hL
  have lt_b_1 : b_1 < h_2.size := (hL.tail).head.lt
  have lt_b_2 : b_2 < h_2.size := (hL).head.lt
  replace f1 := f1.in_nil
  have z_f1 := f1.size
  replace G0 := RdR.no G0 f1
  replace G1 := RdI.no G1 f1
  replace fz := fz.no_trans f1
  refine g_szGraph G0 _ (by omega) (by omega) _ fun h_3 r2 f2 hr2 => ⟨r2, rfl, hL.of_no f2, ?_⟩
  replace hL := hL.of_no f2
  have z_f2 := f2.size
  replace G0 := RdR.no G0 f2
  replace G1 := RdI.no G1 f2
  replace fz := fz.no_trans f2
  refine ⟨fun e => ?_, fun e => ?_⟩
  · exact HK _ fz
  (try simp only [decide_eq_false_iff_not] at e)
  refine g_szWalk G1 _ _ (by omega) (by omega) _ fun h_4 r3 f3 hr3 => ⟨r3, rfl, hL.of_no f3, ?_⟩
  replace hL := hL.of_no f3
  have z_f3 := f3.size
  replace G0 := RdR.no G0 f3
  replace G1 := RdI.no G1 f3
  replace fz := fz.no_trans f3
  refine ⟨fun e => ?_, fun e => ?_⟩
  · exact HK _ fz
  (try simp only [decide_eq_false_iff_not] at e)
  refine g_toGraph G0 (by omega) _ fun u4_0 h_5 O4_0 f4 => ⟨u4_0, rfl, hL.of_no f4, ?_⟩
  replace hL := hL.of_no f4
  have z_f4 := f4.size
  replace G0 := RdR.no G0 f4
  replace G1 := RdI.no G1 f4
  replace fz := fz.no_trans f4
  refine g_toWalk G1 _ (by omega) _ fun u5_0 h_6 O5_0 f5 => ⟨u5_0, _, rfl, hL.of_no f5, ?_⟩
  replace hL := hL.of_no f5
  have z_f5 := f5.size
  replace G0 := RdR.no G0 f5
  replace G1 := RdI.no G1 f5
  replace O4_0 := OwR.no O4_0 f5
  replace fz := fz.no_trans f5
  refine k_spec_WalksBefore (OwR.rdI O4_0) (Ow.rdI O5_0) _ _ fun u6_0 h_7 O6_0 f6 => ⟨u6_0, _, rfl, hL.of_no f6, ?_⟩
  replace hL := hL.of_no f6
  have z_f6 := f6.size
  replace G0 := RdR.no G0 f6
  replace G1 := RdI.no G1 f6
  replace O4_0 := OwR.no O4_0 f6
  replace O5_0 := Ow.no O5_0 f6
  replace fz := fz.no_trans f6
  refine g_toGraph G0 (by omega) _ fun u7_0 h_8 O7_0 f7 => ⟨u7_0, rfl, hL.of_no f7, ?_⟩
  replace hL := hL.of_no f7
  have z_f7 := f7.size
  replace G0 := RdR.no G0 f7
  replace G1 := RdI.no G1 f7
  replace O4_0 := OwR.no O4_0 f7
  replace O5_0 := Ow.no O5_0 f7
  replace O6_0 := OwW.no O6_0 f7
  replace fz := fz.no_trans f7
  intro b_3 h_10 hb_b_3 f8 hL
  have lt_b_3 : b_3 < h_10.size := (hL).head.lt
  replace f8 := f8.in_nil
  have z_f8 := f8.size
  replace G0 := RdR.no G0 f8
  replace G1 := RdI.no G1 f8
  replace O4_0 := OwR.no O4_0 f8
  replace O5_0 := Ow.no O5_0 f8
  replace O6_0 := OwW.no O6_0 f8
  replace O7_0 := OwR.no O7_0 f8
  replace fz := fz.no_trans f8
  refine g_toWalk G1 _ (by omega) _ fun u9_0 h_11 O9_0 f9 => ⟨u9_0, _, rfl, hL.of_no f9, ?_⟩
  replace hL := hL.of_no f9
  have z_f9 := f9.size
  replace G0 := RdR.no G0 f9
  replace G1 := RdI.no G1 f9
  replace O4_0 := OwR.no O4_0 f9
  replace O5_0 := Ow.no O5_0 f9
  replace O6_0 := OwW.no O6_0 f9
  replace O7_0 := OwR.no O7_0 f9
  replace fz := fz.no_trans f9
  intro b_4 h_13 hb_b_4 f10 hL
  have lt_b_4 : b_4 < h_13.size := (hL).head.lt
  replace f10 := f10.in_nil
  have z_f10 := f10.size
  replace G0 := RdR.no G0 f10
  replace G1 := RdI.no G1 f10
  replace O4_0 := OwR.no O4_0 f10
  replace O5_0 := Ow.no O5_0 f10
  replace O6_0 := OwW.no O6_0 f10
  replace O7_0 := OwR.no O7_0 f10
  replace O9_0 := Ow.no O9_0 f10
  replace fz := fz.no_trans f10
  refine k_WalksBefore (OwR.rdI O7_0) (Ow.rdI O9_0) _ _ fun u11_0 h_14 O11_0 f11 => ⟨u11_0, _, rfl, hL.of_no f11, ?_⟩
  replace hL := hL.of_no f11
  have z_f11 := f11.size
  replace G0 := RdR.no G0 f11
  replace G1 := RdI.no G1 f11
  replace O4_0 := OwR.no O4_0 f11
  replace O5_0 := Ow.no O5_0 f11
  replace O6_0 := OwW.no O6_0 f11
  replace O7_0 := OwR.no O7_0 f11
  replace O9_0 := Ow.no O9_0 f11
  replace fz := fz.no_trans f11
  refine g_eqWalkS (OwW.rdI O11_0) (OwW.rdI O6_0) _ fun h_15 f12 => ⟨_, rfl, hL.of_no f12, ?_⟩
  replace hL := hL.of_no f12
  have z_f12 := f12.size
  replace G0 := RdR.no G0 f12
  replace G1 := RdI.no G1 f12
  replace O4_0 := OwR.no O4_0 f12
  replace O5_0 := Ow.no O5_0 f12
  replace O6_0 := OwW.no O6_0 f12
  replace O7_0 := OwR.no O7_0 f12
  replace O9_0 := Ow.no O9_0 f12
  replace O11_0 := OwW.no O11_0 f12
  replace fz := fz.no_trans f12
  refine ⟨fun e => ?_, fun e => ?_⟩
  · first | (simp at e; done) | (simp only [decide_eq_true_eq] at e; omega)
  (try simp only [decide_eq_false_iff_not] at e)
  refine ⟨fun e => ?_, fun e => ?_⟩
  · first | (simp at e; done) | (simp only [decide_eq_true_eq] at e; omega)
  (try simp only [decide_eq_false_iff_not] at e)
  refine g_toGraph G0 (by omega) _ fun u13_0 h_16 O13_0 f13 => ⟨u13_0, rfl, hL.of_no f13, ?_⟩
  replace hL := hL.of_no f13
  have z_f13 := f13.size
  replace G0 := RdR.no G0 f13
  replace G1 := RdI.no G1 f13
  replace O4_0 := OwR.no O4_0 f13
  replace O5_0 := Ow.no O5_0 f13
  replace O6_0 := OwW.no O6_0 f13
  replace O7_0 := OwR.no O7_0 f13
  replace O9_0 := Ow.no O9_0 f13
  replace O11_0 := OwW.no O11_0 f13
  replace fz := fz.no_trans f13
  refine g_eqGraph (OwR.rdI O7_0) (OwR.rdI O13_0) _ fun h_17 f14 => ⟨_, rfl, hL.of_no f14, ?_⟩
  replace hL := hL.of_no f14
  have z_f14 := f14.size
  replace G0 := RdR.no G0 f14
  replace G1 := RdI.no G1 f14
  replace O4_0 := OwR.no O4_0 f14
  replace O5_0 := Ow.no O5_0 f14
  replace O6_0 := OwW.no O6_0 f14
  replace O7_0 := OwR.no O7_0 f14
  replace O9_0 := Ow.no O9_0 f14
  replace O11_0 := OwW.no O11_0 f14
  replace O13_0 := OwR.no O13_0 f14
  replace fz := fz.no_trans f14
  refine ⟨fun e => ?_, fun e => ?_⟩
  · first | (simp at e; done) | (simp only [decide_eq_true_eq] at e; omega)
  (try simp only [decide_eq_false_iff_not] at e)
  refine g_toWalk G1 _ (by omega) _ fun u15_0 h_18 O15_0 f15 => ⟨u15_0, _, rfl, hL.of_no f15, ?_⟩
  replace hL := hL.of_no f15
  have z_f15 := f15.size
  replace G0 := RdR.no G0 f15
  replace G1 := RdI.no G1 f15
  replace O4_0 := OwR.no O4_0 f15
  replace O5_0 := Ow.no O5_0 f15
  replace O6_0 := OwW.no O6_0 f15
  replace O7_0 := OwR.no O7_0 f15
  replace O9_0 := Ow.no O9_0 f15
  replace O11_0 := OwW.no O11_0 f15
  replace O13_0 := OwR.no O13_0 f15
  replace fz := fz.no_trans f15
  refine g_eqWalk (Ow.rdI O9_0) (Ow.rdI O15_0) _ fun h_19 f16 => ⟨_, rfl, hL.of_no f16, ?_⟩
  replace hL := hL.of_no f16
  have z_f16 := f16.size
  replace G0 := RdR.no G0 f16
  replace G1 := RdI.no G1 f16
  replace O4_0 := OwR.no O4_0 f16
  replace O5_0 := Ow.no O5_0 f16
  replace O6_0 := OwW.no O6_0 f16
  replace O7_0 := OwR.no O7_0 f16
  replace O9_0 := Ow.no O9_0 f16
  replace O11_0 := OwW.no O11_0 f16
  replace O13_0 := OwR.no O13_0 f16
  replace O15_0 := Ow.no O15_0 f16
  replace fz := fz.no_trans f16
  refine ⟨fun e => ?_, fun e => ?_⟩
  · first | (simp at e; done) | (simp only [decide_eq_true_eq] at e; omega)
  (try simp only [decide_eq_false_iff_not] at e)
  refine g_markGraph O7_0 (by omega) _ (by omega) (by omega) _ fun h_20 N17_0 f17 => ⟨_, rfl, hL.iv f17 ⟨show b_4 < h_7.size ∨ h_8.size ≤ b_4 by omega, show b_3 < h_7.size ∨ h_8.size ≤ b_3 by omega, show b_2 < h_7.size ∨ h_8.size ≤ b_2 by omega, show b_1 < h_7.size ∨ h_8.size ≤ b_1 by omega, trivial⟩, ?_⟩
  replace hL := hL.iv f17 ⟨show b_4 < h_7.size ∨ h_8.size ≤ b_4 by omega, show b_3 < h_7.size ∨ h_8.size ≤ b_3 by omega, show b_2 < h_7.size ∨ h_8.size ≤ b_2 by omega, show b_1 < h_7.size ∨ h_8.size ≤ b_1 by omega, trivial⟩
  have z_f17 := f17.size
  replace G0 := RdR.iv G0 f17 (by omega)
  replace G1 := RdI.iv G1 f17 (by omega)
  replace O4_0 := OwR.iv O4_0 f17 (by omega)
  replace O5_0 := Ow.iv O5_0 f17 (by omega)
  replace O6_0 := OwW.iv O6_0 f17 (by omega)
  replace O9_0 := Ow.iv O9_0 f17 (by omega)
  replace O11_0 := OwW.iv O11_0 f17 (by omega)
  replace O13_0 := OwR.iv O13_0 f17 (by omega)
  replace O15_0 := Ow.iv O15_0 f17 (by omega)
  replace fz := fz.ivFresh f17 (by omega)
  refine g_markWalk O9_0 (by omega) _ _ (by omega) (by omega) _ fun h_21 N18_0 f18 => ⟨_, rfl, hL.iv f18 ⟨show b_4 < h_10.size ∨ h_11.size ≤ b_4 by omega, show b_3 < h_10.size ∨ h_11.size ≤ b_3 by omega, show b_2 < h_10.size ∨ h_11.size ≤ b_2 by omega, show b_1 < h_10.size ∨ h_11.size ≤ b_1 by omega, trivial⟩, ?_⟩
  replace hL := hL.iv f18 ⟨show b_4 < h_10.size ∨ h_11.size ≤ b_4 by omega, show b_3 < h_10.size ∨ h_11.size ≤ b_3 by omega, show b_2 < h_10.size ∨ h_11.size ≤ b_2 by omega, show b_1 < h_10.size ∨ h_11.size ≤ b_1 by omega, trivial⟩
  have z_f18 := f18.size
  replace G0 := RdR.iv G0 f18 (by omega)
  replace G1 := RdI.iv G1 f18 (by omega)
  replace O4_0 := OwR.iv O4_0 f18 (by omega)
  replace O5_0 := Ow.iv O5_0 f18 (by omega)
  replace O6_0 := OwW.iv O6_0 f18 (by omega)
  replace O11_0 := OwW.iv O11_0 f18 (by omega)
  replace O13_0 := OwR.iv O13_0 f18 (by omega)
  replace O15_0 := Ow.iv O15_0 f18 (by omega)
  replace N17_0 := OwR.iv N17_0 f18 (by omega)
  replace fz := fz.ivFresh f18 (by omega)
  refine ⟨fun e => ?_, fun e => ?_⟩
  · first | (simp at e; done) | (simp only [decide_eq_true_eq] at e; omega)
  (try simp only [decide_eq_false_iff_not] at e)
  refine g_eqWalkS (OwW.rdI O11_0) (OwW.rdI O6_0) _ fun h_22 f19 => ⟨_, rfl, hL.of_no f19, ?_⟩
  replace hL := hL.of_no f19
  have z_f19 := f19.size
  replace G0 := RdR.no G0 f19
  replace G1 := RdI.no G1 f19
  replace O4_0 := OwR.no O4_0 f19
  replace O5_0 := Ow.no O5_0 f19
  replace O6_0 := OwW.no O6_0 f19
  replace O11_0 := OwW.no O11_0 f19
  replace O13_0 := OwR.no O13_0 f19
  replace O15_0 := Ow.no O15_0 f19
  replace N17_0 := OwR.no N17_0 f19
  replace N18_0 := Ow.no N18_0 f19
  replace fz := fz.no_trans f19
  refine ⟨fun e => ?_, fun e => ?_⟩
  · first | (simp at e; done) | (simp only [decide_eq_true_eq] at e; omega)
  (try simp only [decide_eq_false_iff_not] at e)
  refine g_markWalkS O11_0 (by omega) _ (by omega) (by omega) _ fun h_23 N20_0 f20 => ⟨_, rfl, hL.iv f20 ⟨show b_4 < h_13.size ∨ h_14.size ≤ b_4 by omega, show b_3 < h_13.size ∨ h_14.size ≤ b_3 by omega, show b_2 < h_13.size ∨ h_14.size ≤ b_2 by omega, show b_1 < h_13.size ∨ h_14.size ≤ b_1 by omega, trivial⟩, ?_⟩
  replace hL := hL.iv f20 ⟨show b_4 < h_13.size ∨ h_14.size ≤ b_4 by omega, show b_3 < h_13.size ∨ h_14.size ≤ b_3 by omega, show b_2 < h_13.size ∨ h_14.size ≤ b_2 by omega, show b_1 < h_13.size ∨ h_14.size ≤ b_1 by omega, trivial⟩
  have z_f20 := f20.size
  replace G0 := RdR.iv G0 f20 (by omega)
  replace G1 := RdI.iv G1 f20 (by omega)
  replace O4_0 := OwR.iv O4_0 f20 (by omega)
  replace O5_0 := Ow.iv O5_0 f20 (by omega)
  replace O6_0 := OwW.iv O6_0 f20 (by omega)
  replace O13_0 := OwR.iv O13_0 f20 (by omega)
  replace O15_0 := Ow.iv O15_0 f20 (by omega)
  replace N17_0 := OwR.iv N17_0 f20 (by omega)
  replace N18_0 := Ow.iv N18_0 f20 (by omega)
  replace fz := fz.ivFresh f20 (by omega)
  refine g_heldWalkS (OwW.rdI N20_0) (by omega) (by omega) (by omega) _ fun h_24 f21 => ⟨_, rfl, hL.of_no f21, ?_⟩
  replace hL := hL.of_no f21
  have z_f21 := f21.size
  replace G0 := RdR.no G0 f21
  replace G1 := RdI.no G1 f21
  replace O4_0 := OwR.no O4_0 f21
  replace O5_0 := Ow.no O5_0 f21
  replace O6_0 := OwW.no O6_0 f21
  replace O13_0 := OwR.no O13_0 f21
  replace O15_0 := Ow.no O15_0 f21
  replace N17_0 := OwR.no N17_0 f21
  replace N18_0 := Ow.no N18_0 f21
  replace N20_0 := OwW.no N20_0 f21
  replace fz := fz.no_trans f21
  refine ⟨fun e => ?_, fun e => ?_⟩
  · first | (simp at e; done) | (simp only [decide_eq_true_eq] at e; omega)
  (try simp only [decide_eq_false_iff_not] at e)
  refine ⟨fun e => ?_, fun e => ?_⟩
  · first | (simp at e; done) | (simp only [decide_eq_true_eq] at e; omega)
  (try simp only [decide_eq_false_iff_not] at e)
  refine g_toGraph G0 (by omega) _ fun u22_0 h_25 O22_0 f22 => ⟨u22_0, rfl, hL.of_no f22, ?_⟩
  replace hL := hL.of_no f22
  have z_f22 := f22.size
  replace G0 := RdR.no G0 f22
  replace G1 := RdI.no G1 f22
  replace O4_0 := OwR.no O4_0 f22
  replace O5_0 := Ow.no O5_0 f22
  replace O6_0 := OwW.no O6_0 f22
  replace O13_0 := OwR.no O13_0 f22
  replace O15_0 := Ow.no O15_0 f22
  replace N17_0 := OwR.no N17_0 f22
  replace N18_0 := Ow.no N18_0 f22
  replace N20_0 := OwW.no N20_0 f22
  replace fz := fz.no_trans f22
  refine g_toWalk G1 _ (by omega) _ fun u23_0 h_26 O23_0 f23 => ⟨u23_0, _, rfl, hL.of_no f23, ?_⟩
  replace hL := hL.of_no f23
  have z_f23 := f23.size
  replace G0 := RdR.no G0 f23
  replace G1 := RdI.no G1 f23
  replace O4_0 := OwR.no O4_0 f23
  replace O5_0 := Ow.no O5_0 f23
  replace O6_0 := OwW.no O6_0 f23
  replace O13_0 := OwR.no O13_0 f23
  replace O15_0 := Ow.no O15_0 f23
  replace N17_0 := OwR.no N17_0 f23
  replace N18_0 := Ow.no N18_0 f23
  replace N20_0 := OwW.no N20_0 f23
  replace O22_0 := OwR.no O22_0 f23
  replace fz := fz.no_trans f23
  refine k_WalksBefore (OwR.rdI O22_0) (Ow.rdI O23_0) _ _ fun u24_0 h_27 O24_0 f24 => ⟨u24_0, _, rfl, hL.of_no f24, ?_⟩
  replace hL := hL.of_no f24
  have z_f24 := f24.size
  replace G0 := RdR.no G0 f24
  replace G1 := RdI.no G1 f24
  replace O4_0 := OwR.no O4_0 f24
  replace O5_0 := Ow.no O5_0 f24
  replace O6_0 := OwW.no O6_0 f24
  replace O13_0 := OwR.no O13_0 f24
  replace O15_0 := Ow.no O15_0 f24
  replace N17_0 := OwR.no N17_0 f24
  replace N18_0 := Ow.no N18_0 f24
  replace N20_0 := OwW.no N20_0 f24
  replace O22_0 := OwR.no O22_0 f24
  replace O23_0 := Ow.no O23_0 f24
  replace fz := fz.no_trans f24
  refine g_eqWalkS (OwW.rdI O24_0) (OwW.rdI O6_0) _ fun h_28 f25 => ⟨_, rfl, hL.of_no f25, ?_⟩
  replace hL := hL.of_no f25
  have z_f25 := f25.size
  replace G0 := RdR.no G0 f25
  replace G1 := RdI.no G1 f25
  replace O4_0 := OwR.no O4_0 f25
  replace O5_0 := Ow.no O5_0 f25
  replace O6_0 := OwW.no O6_0 f25
  replace O13_0 := OwR.no O13_0 f25
  replace O15_0 := Ow.no O15_0 f25
  replace N17_0 := OwR.no N17_0 f25
  replace N18_0 := Ow.no N18_0 f25
  replace N20_0 := OwW.no N20_0 f25
  replace O22_0 := OwR.no O22_0 f25
  replace O23_0 := Ow.no O23_0 f25
  replace O24_0 := OwW.no O24_0 f25
  replace fz := fz.no_trans f25
  refine ⟨fun e => ?_, fun e => ?_⟩
  · first | (simp at e; done) | (simp only [decide_eq_true_eq] at e; omega)
  (try simp only [decide_eq_false_iff_not] at e)
  refine ⟨fun e => ?_, fun e => ?_⟩
  · first | (simp at e; done) | (simp only [decide_eq_true_eq] at e; omega)
  (try simp only [decide_eq_false_iff_not] at e)
  refine g_heldWalkS (OwW.rdI N20_0) (by omega) (by omega) (by omega) _ fun h_29 f26 => ⟨_, rfl, hL.of_no f26, ?_⟩
  replace hL := hL.of_no f26
  have z_f26 := f26.size
  replace G0 := RdR.no G0 f26
  replace G1 := RdI.no G1 f26
  replace O4_0 := OwR.no O4_0 f26
  replace O5_0 := Ow.no O5_0 f26
  replace O6_0 := OwW.no O6_0 f26
  replace O13_0 := OwR.no O13_0 f26
  replace O15_0 := Ow.no O15_0 f26
  replace N17_0 := OwR.no N17_0 f26
  replace N18_0 := Ow.no N18_0 f26
  replace N20_0 := OwW.no N20_0 f26
  replace O22_0 := OwR.no O22_0 f26
  replace O23_0 := Ow.no O23_0 f26
  replace O24_0 := OwW.no O24_0 f26
  replace fz := fz.no_trans f26
  refine ⟨fun e => ?_, fun e => ?_⟩
  · first | (simp at e; done) | (simp only [decide_eq_true_eq] at e; omega)
  (try simp only [decide_eq_false_iff_not] at e)
  refine ⟨fun e => ?_, fun e => ?_⟩
  · first | (simp at e; done) | (simp only [decide_eq_true_eq] at e; omega)
  (try simp only [decide_eq_false_iff_not] at e)
  exact HK _ fz
end Go.Proofs.Ytkphbhochacllaa
