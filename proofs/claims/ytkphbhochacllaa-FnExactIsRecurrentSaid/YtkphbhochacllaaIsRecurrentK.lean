/-
  What each function that the law 'FnExactIsRecurrent' comes to does: the contracts.
-/
import Derived.Test.YtkphbhochacllaaIsRecurrentU
import Derived.Test.YtkphbhochacllaaM4
set_option linter.unusedVariables false
set_option linter.unusedSimpArgs false
namespace Go.Proofs.Ytkphbhochacllaa
open Go Go.Mx
@[reducible] def tI : TypeId := 3
@[reducible] def tIs : TypeId := 25
@[reducible] def tIss : TypeId := 22
theorem rIs : rowC Try.prog tIs = some (tI, 1, 8, [VI 0]) := by kernel_rfl
theorem rIss : rowC Try.prog tIss = some (tIs, 1, 24, [nilSl.v]) := by kernel_rfl
@[reducible] def OwI (h : Heap) (F : Nat → Prop) (s : Sl) (xs : List Int) : Prop := Ow h F tI 1 s (xs.map VI)
@[reducible] def OwX (h : Heap) (F : Nat → Prop) (s : Sl) (xss : List (List Int)) : Prop := OwR h F tIs tI s xss
theorem plainVI (xs : List Int) : (xs.map VI).all plainV = true := by simp [List.all_eq_true, plainV]

theorem k_bool {f : FuncId} {args : Array Value} {h : Heap} {v w : Value} (H : Ret Try.prog f args h v) (e : v = w) : Ret Try.prog f args h w := e ▸ H

theorem k_impl_in (n lo hi : Int) (h : Heap) (K : Value → Heap → Prop) (H : K (VB (decide (lo ≤ n) && decide (n ≤ hi))) h) : callM Try.prog 75 #[VI n, VI lo, VI hi] h K := by
  refine v75 n lo hi h K ⟨fun e => ?_, fun e => ?_⟩
  · rw [e, Bool.true_and] at H; exact H
  · rw [e, Bool.false_and] at H; exact H

theorem k_spec_l1In (n lo hi : Int) (h : Heap) (K : Value → Heap → Prop) (H : K (VB (decide (lo ≤ n) && decide (n ≤ hi))) h) : callM Try.prog 74 #[VI n, VI lo, VI hi] h K := by
  refine v74 n lo hi h K ⟨fun e => ?_, fun e => ?_⟩
  · rw [e, Bool.true_and] at H; exact H
  · rw [e, Bool.false_and] at H; exact H

def inR (lo hi x : Int) : Bool := decide (lo ≤ x) && decide (x ≤ hi)
def graphB (g : List (List Int)) : Bool := inR 1 8 g.length && g.all fun l => !decide (5 < (l.length : Int)) && l.all (inR 0 ((g.length : Int) - 1))
theorem not_t {b : Bool} (h : (!b) = true) : b = false := by simpa using h
theorem not_f {b : Bool} (h : (!b) = false) : b = true := by simpa using h

theorem k_spec_l1All {S : Nat → Prop} {h : Heap} {l : Sl} {xs : List Int} (H : RdI S h l xs) (lo hi_1 : Int) (K : Value → Heap → Prop) (HK : K (VB (xs.all (inR lo hi_1))) h) : callM Try.prog 108 #[l.v, VI lo, VI hi_1] h K := by
  refine v108 l lo hi_1 h K ?_
  refine ⟨fun n i h' => h' = h ∧ 0 ≤ i ∧ i + n = (xs.length : Int) ∧ xs.all (inR lo hi_1) = (xs.drop i.toNat).all (inR lo hi_1), ⟨xs.length, rfl, by omega, by omega, by simp⟩, ?_⟩
  rintro n i _ ⟨rfl, h0, h1, h2⟩ hL
  refine ⟨fun e => ?_, fun e => ?_⟩
  · have hi := H.lt e
    refine ⟨H.inb h0 hi, _, H.get h0 hi, ?_⟩
    rw [drop_cons xs h0 hi, List.all_cons] at h2
    refine k_spec_l1In _ _ _ _ _ ⟨_, rfl, hL, fun e2 => ?_, fun e2 => ?_⟩
    · have e3 : inR lo hi_1 (xs[i.toNat]'(by omega)) = false := not_t e2
      rw [h2, e3] at HK
      exact HK
    · have e3 : inR lo hi_1 (xs[i.toNat]'(by omega)) = true := not_f e2
      rw [e3, Bool.true_and] at h2
      rw [H.succ h0 hi]
      exact ⟨n - 1, by omega, rfl, by omega, by omega, h2⟩
  · have hi := H.ge e
    rw [List.drop_of_length_le (by omega)] at h2
    rw [h2] at HK
    exact HK

theorem k_spec_grGood {S : Nat → Prop} {h : Heap} {g : Sl} {xss : List (List Int)} (H : RdR S h g xss) : Ret Try.prog 97 #[.agg #[g.v]] h (VB (graphB xss)) := by
  intro K HK
  refine v97 g h K ?_
  intro b1 h1 hb1 hf1 hL1
  have f1 := hf1.in_nil
  have hlen := H.len
  refine k_spec_l1In _ _ _ _ _ ⟨_, rfl, hL1, fun e => ?_, fun e => ?_⟩
  · have e3 : inR 1 8 xss.length = false := by have := not_t e; rw [hlen] at this; exact this
    have : graphB xss = false := by unfold graphB; rw [e3]; rfl
    rw [← this]; exact HK _ f1
  · have e3 : inR 1 8 xss.length = true := by have := not_f e; rw [hlen] at this; exact this
    have hw : w64 ((g.n : Int) - 1) = (xss.length : Int) - 1 := by rw [hlen]; exact w64_eq _ (by omega) (by have := maxLen_lt H.big; omega)
    have hg : graphB xss = xss.all fun l => !decide (5 < (l.length : Int)) && l.all (inR 0 ((xss.length : Int) - 1)) := by unfold graphB; rw [e3]; rfl
    rw [hw]
    refine ⟨fun n i h' => Fr No h1 h' ∧ 0 ≤ i ∧ i + n = (xss.length : Int) ∧ graphB xss = (xss.drop i.toNat).all (fun l => !decide (5 < (l.length : Int)) && l.all (inR 0 ((xss.length : Int) - 1))), ⟨xss.length, Fr.refl _ _, by omega, by omega, by simp [hg]⟩, ?_⟩
    rintro n i h3 ⟨f3, h0, h2, h4⟩ hL
    have H3 := (H.no f1).no f3
    refine ⟨fun e => ?_, fun e => ?_⟩
    · have hi := H.lt e
      obtain ⟨si, hc, Hi⟩ := H3.get h0 hi
      refine ⟨H3.inb h0 hi, si, hc, fun e5 => ?_, fun e5 => ?_⟩
      · rw [drop_cons xss h0 hi, List.all_cons] at h4
        rw [Hi.len] at e5
        rw [e5] at h4
        have h5 : graphB xss = false := by rw [h4]; rfl
        rw [← h5]; exact HK _ (f1.trans f3)
      · rw [drop_cons xss h0 hi, List.all_cons] at h4
        rw [Hi.len] at e5
        rw [e5] at h4
        refine k_spec_l1All Hi _ _ _ ⟨_, rfl, hL, fun e6 => ?_, fun e6 => ?_⟩
        · rw [not_t e6] at h4
          have h5 : graphB xss = false := by rw [h4]; rfl
          rw [← h5]; exact HK _ (f1.trans f3)
        · rw [not_f e6] at h4
          rw [H.succ h0 hi]
          exact ⟨n - 1, by omega, f3, by omega, by omega, by rw [h4]; rfl⟩
    · have hi := H.ge e
      rw [List.drop_of_length_le (by omega)] at h4
      have h5 : graphB xss = true := by rw [h4]; rfl
      rw [← h5]; exact HK _ (f1.trans f3)

theorem k_IndexFunc {S : Nat → Prop} {h : Heap} {s : Sl} {xs : List Int} (H : RdI S h s xs) (f : Value) (p : Int → Bool) (hf : ∀ (x : Int) (K : Value → Heap → Prop), K (VB (p x)) h → callV Try.prog f [VI x] h K) (K : Value → Heap → Prop) (HK : ∀ r : Int, decide (0 ≤ r) = xs.any p → K (VI r) h) : callM Try.prog 110 #[s.v, f] h K := by
  refine v110 s f h K ⟨fun n i h' => h' = h ∧ 0 ≤ i ∧ i + n = (xs.length : Int) ∧ xs.any p = (xs.drop i.toNat).any p, ⟨xs.length, rfl, by omega, by omega, by simp⟩, ?_⟩
  rintro n i _ ⟨rfl, i0, i1, i2⟩ hL
  refine ⟨fun e => ?_, fun e => ?_⟩
  · have hi := H.lt e
    rw [drop_cons xs i0 hi, List.any_cons] at i2
    refine ⟨H.inb i0 hi, _, H.get i0 hi, hf _ _ ⟨_, rfl, .nil, fun e => ?_, fun e => ?_⟩⟩
    · rw [e, Bool.true_or] at i2
      exact HK _ (by rw [i2]; simpa using i0)
    · rw [e, Bool.false_or] at i2
      rw [H.succ i0 hi]
      exact ⟨n - 1, by omega, rfl, by omega, by omega, i2⟩
  · have hi := H.ge e
    rw [List.drop_of_length_le (by omega)] at i2
    exact HK _ (by rw [i2]; rfl)

theorem k_ContainsFunc {S : Nat → Prop} {h : Heap} {s : Sl} {xs : List Int} (H : RdI S h s xs) (f : Value) (p : Int → Bool) (hf : ∀ (x : Int) (K : Value → Heap → Prop), K (VB (p x)) h → callV Try.prog f [VI x] h K) (K : Value → Heap → Prop) (HK : K (VB (xs.any p)) h) : callM Try.prog 99 #[s.v, f] h K := by
  refine v99 s f h K (k_IndexFunc H f p hf _ fun r hr => ⟨r, rfl, .nil, ?_⟩)
  rw [hr]; exact HK

theorem k_isGraph1 {h : Heap} {b : Nat} {n : Int} (x : Int) {L : List (Nat × List Value)} (hL : Vars h ((b, [VI n]) :: L)) (K : Value → Heap → Prop) (HK : K (VB (!inR 0 (w64 (n - 1)) x)) h) : callV Try.prog (.func (.func 109) #[] #[VP b 0]) [VI x] h K := by
  refine v109 x b n h K (.cons hL.head (by simp) .nil) ?_
  refine k_impl_in _ _ _ _ _ ⟨_, rfl, .cons hL.head (by simp) .nil, ?_⟩
  exact HK

theorem k_has1 {h : Heap} {b : Nat} {g : Sl} (x : Int) {L : List (Nat × List Value)} (hL : Vars h ((b, [g.v]) :: L)) (K : Value → Heap → Prop) (HK : K (VB (!inR 0 (w64 (g.n - 1)) x)) h) : callV Try.prog (.func (.func 100) #[] #[VP b 0]) [VI x] h K := by
  refine v100 x b g h K (.cons hL.head (by simp) .nil) ?_
  refine k_impl_in _ _ _ _ _ ⟨_, rfl, .cons hL.head (by simp) .nil, ?_⟩
  exact HK

theorem graphB_eq {xss : List (List Int)} (e3 : inR 1 8 xss.length = true) : graphB xss = xss.all fun l => !decide (5 < (l.length : Int)) && l.all (inR 0 ((xss.length : Int) - 1)) := by unfold graphB; rw [e3]; rfl
theorem graphB_no {xss : List (List Int)} (e3 : inR 1 8 xss.length = false) : graphB xss = false := by unfold graphB; rw [e3]; rfl
theorem any_not {xs : List Int} {p : Int → Bool} : xs.any (fun x => !p x) = !xs.all p := by
  induction xs with
  | nil => rfl
  | cons x xs ih => simp only [List.any_cons, List.all_cons, ih, Bool.not_and]
theorem len_w64 {S : Nat → Prop} {h : Heap} {g : Sl} {xss : List (List Int)} (H : RdR S h g xss) : w64 ((g.n : Int) - 1) = (xss.length : Int) - 1 := by
  rw [H.len]
  have h1 := maxLen_lt H.big
  have h2 := H.len
  exact w64_eq _ (by omega) (by omega)

theorem k_isGraph {S : Nat → Prop} {h : Heap} {g : Sl} {xss : List (List Int)} (H : RdR S h g xss) : Ret Try.prog 98 #[.agg #[g.v]] h (VB (graphB xss)) := by
  intro K HK
  refine v98 g h K fun b1 b2 h1 hb1 hb2 hf1 hL1 => ?_
  have f1 := hf1.in_nil
  have hlen := H.len
  refine k_impl_in _ _ _ _ _ ⟨_, rfl, hL1, fun e => ?_, fun e => ?_⟩
  · have e3 : inR 1 8 xss.length = false := by have := not_t e; rw [hlen] at this; exact this
    rw [← graphB_no e3]; exact HK _ f1
  · have e3 : inR 1 8 xss.length = true := by have := not_f e; rw [hlen] at this; exact this
    have hg := graphB_eq e3
    refine ⟨fun n i x h' => h' = h1 ∧ x = (g.n : Int) ∧ 0 ≤ i ∧ i + n = (xss.length : Int) ∧ graphB xss = (xss.drop i.toNat).all (fun l => !decide (5 < (l.length : Int)) && l.all (inR 0 ((xss.length : Int) - 1))), ⟨xss.length, rfl, rfl, by omega, by omega, by simp [hg]⟩, ?_⟩
    rintro n i x _ ⟨rfl, rfl, h0, h2, h4⟩ hL
    have H3 := H.no f1
    refine ⟨fun e => ?_, fun e => ?_⟩
    · have hi := H.lt e
      obtain ⟨si, hc, Hi⟩ := H3.get h0 hi
      rw [drop_cons xss h0 hi, List.all_cons] at h4
      refine ⟨H3.inb h0 hi, si, hc, fun e5 => ?_, fun e5 => ?_⟩
      · rw [Hi.len] at e5
        rw [e5] at h4
        have h5 : graphB xss = false := by rw [h4]; rfl
        rw [← h5]; exact HK _ f1
      · rw [Hi.len] at e5
        rw [e5] at h4
        refine k_ContainsFunc Hi _ _ (fun x K HK => k_isGraph1 x hL K HK) _ ?_
        refine ⟨_, _, rfl, hL, fun e6 => ?_, fun e6 => ?_⟩
        · rw [any_not, len_w64 H] at e6
          rw [not_t e6] at h4
          have h5 : graphB xss = false := by rw [h4]; rfl
          rw [← h5]; exact HK _ f1
        · rw [any_not, len_w64 H] at e6
          rw [not_f e6] at h4
          rw [H.succ h0 hi]
          exact ⟨n - 1, by omega, rfl, rfl, by omega, by omega, by rw [h4]; rfl⟩
    · have hi := H.ge e
      rw [List.drop_of_length_le (by omega)] at h4
      have h5 : graphB xss = true := by rw [h4]; rfl
      rw [← h5]; exact HK _ f1

theorem k_has {S S' : Nat → Prop} {h : Heap} {g s : Sl} {xss : List (List Int)} {ps : List Int} (H : RdR S h g xss) (Hp : RdI S' h s ps) : Ret Try.prog 68 #[.agg #[g.v], s.v] h (VB (graphB xss && ps.all (inR 0 ((xss.length : Int) - 1)))) := by
  intro K HK
  refine v68 g s h K fun b1 h1 hb1 f1 hL1 => ?_
  have f1 := f1.in_nil
  refine k_isGraph (H.no f1) _ fun h2 f2 => ⟨_, rfl, hL1.of_no f2, fun e => ?_, fun e => ?_⟩
  · rw [e, Bool.true_and] at HK
    have hL2 := hL1.of_no f2
    refine k_ContainsFunc ((Hp.no f1).no f2) _ _ (fun x K HK => k_has1 x hL2 K HK) _ ?_
    refine ⟨_, _, rfl, hL2, ?_⟩
    rw [any_not, len_w64 H, Bool.not_not]
    exact HK _ (f1.trans f2)
  · rw [e, Bool.false_and] at HK
    exact HK _ (f1.trans f2)

theorem k_spec_grPlace {S : Nat → Prop} {h : Heap} {g : Sl} {xss : List (List Int)} (H : RdR S h g xss) (p : Int) : Ret Try.prog 64 #[.agg #[g.v], VI p] h (VB (graphB xss && inR 0 ((xss.length : Int) - 1) p)) := by
  intro K HK
  refine v64 g p h K fun b1 h1 hb1 f1 hL1 => ?_
  have f1 := f1.in_nil
  refine k_spec_grGood (H.no f1) _ fun h2 f2 => ⟨_, rfl, hL1.of_no f2, fun e => ?_, fun e => ?_⟩
  · rw [e, Bool.true_and] at HK
    refine k_spec_l1In _ _ _ _ _ ⟨_, rfl, hL1.of_no f2, ?_⟩
    rw [len_w64 H]
    exact HK _ (f1.trans f2)
  · rw [e, Bool.false_and] at HK
    exact HK _ (f1.trans f2)

theorem k_spec_l1Most (a b : Int) (h : Heap) (K : Value → Heap → Prop) (HK : K (VI (max a b)) h) : callM Try.prog 103 #[VI a, VI b] h K := by
  refine v103 a b h K ⟨fun e => ?_, fun e => ?_⟩
  · simp only [decide_eq_true_eq] at e
    rw [Int.max_eq_left (by omega)] at HK
    exact HK
  · simp only [decide_eq_false_iff_not] at e
    rw [Int.max_eq_right (by omega)] at HK
    exact HK

def rotB (l : List Int) (r : Int) : Bool := inR 0 (max ((l.length : Int) - 1) 0) r
def walkB (g : List (List Int)) (rs : List Int) (p : Int) : Bool := graphB g && inR 0 ((g.length : Int) - 1) p && decide (rs.length = g.length) && (g.zip rs).all fun q => rotB q.1 q.2
theorem walkB_no1 {g : List (List Int)} {rs : List Int} {p : Int} (e : (graphB g && inR 0 ((g.length : Int) - 1) p) = false) : walkB g rs p = false := by unfold walkB; rw [e]; rfl
theorem walkB_no2 {g : List (List Int)} {rs : List Int} {p : Int} (e : ¬ rs.length = g.length) : walkB g rs p = false := by unfold walkB; rw [decide_eq_false e]; simp
theorem walkB_eq {g : List (List Int)} {rs : List Int} {p : Int} (e : (graphB g && inR 0 ((g.length : Int) - 1) p) = true) (e2 : rs.length = g.length) : walkB g rs p = (g.zip rs).all fun q => rotB q.1 q.2 := by unfold walkB; rw [e, decide_eq_true e2]; rfl
theorem zip_drop (g : List (List Int)) (rs : List Int) {i : Int} (h0 : 0 ≤ i) (h1 : i < (g.length : Int)) (h2 : i < (rs.length : Int)) : (g.zip rs).drop i.toNat = (g[i.toNat]'(by omega), rs[i.toNat]'(by omega)) :: (g.zip rs).drop (i + 1).toNat := by
  have := drop_cons (g.zip rs) h0 (by simp; omega)
  simpa using this
theorem len_w64I {S : Nat → Prop} {h : Heap} {g : Sl} {xs : List Int} (H : RdI S h g xs) : w64 ((g.n : Int) - 1) = (xs.length : Int) - 1 := by
  rw [H.len]
  have h1 := maxLen_lt (RdV.big H)
  have h2 := H.len
  exact w64_eq _ (by omega) (by omega)

theorem k_isWalk {S S' : Nat → Prop} {h : Heap} {g s : Sl} {xss : List (List Int)} {rs : List Int} (G : RdR S h g xss) (H : RdI S' h s rs) (p : Int) : Ret Try.prog 81 #[.agg #[g.v], .agg #[s.v, VI p]] h (VB (walkB xss rs p)) := by
  intro K HK
  refine v81 g s p h K fun b1 b2 h1 hb1 hb2 f1 hL1 => ?_
  have f1 := f1.in_nil
  refine eop_lit rIs (fun k => h1.size ≤ k) (fun _ h => h) 1 (by omega) [VI p] rfl rfl fun t h2 n2 c2 o2 f2 l2 _ => ⟨t, rfl, hL1.of_no f2, ?_⟩
  have o2 : RdI (fun k => h1.size ≤ k) h2 t [p] := o2.rdF
  refine k_has ((G.no f1).no f2) o2 _ fun h3 f3 => ⟨_, rfl, (hL1.of_no f2).of_no f3, fun e => ?_, fun e => ?_⟩
  all_goals simp only [List.all_cons, List.all_nil, Bool.and_true] at e
  · rw [← walkB_no1 (rs := rs) (not_t e)]; exact HK _ ((f1.no_trans f2).no_trans f3)
  · have f13 := (f1.no_trans f2).no_trans f3
    rw [G.len, H.len]
    refine ⟨fun e2 => ?_, fun e2 => ?_⟩
    · have e3 := not_t e2
      simp only [decide_eq_false_iff_not] at e3
      rw [← walkB_no2 (g := xss) (rs := rs) (p := p) (by omega)]; exact HK _ f13
    · have e3 := not_f e2
      simp only [decide_eq_true_eq] at e3
      have e4 := walkB_eq (not_f e) (rs := rs) (by omega)
      have G3 := G.no f13
      have H3 := H.no f13
      refine ⟨fun n i h' => h' = h3 ∧ 0 ≤ i ∧ i + n = (xss.length : Int) ∧ walkB xss rs p = ((xss.zip rs).drop i.toNat).all fun q => rotB q.1 q.2, ⟨xss.length, rfl, by omega, by omega, by simpa using e4⟩, ?_⟩
      rintro n i _ ⟨rfl, i0, i1, i2⟩ hL
      refine ⟨fun e5 => ?_, fun e5 => ?_⟩
      · have hi : i < (rs.length : Int) := by simpa using e5
        have hi' : i < (xss.length : Int) := by omega
        obtain ⟨si, c1, c2⟩ := G3.get i0 hi'
        rw [zip_drop xss rs i0 hi' hi, List.all_cons] at i2
        refine ⟨H3.inb i0 hi, _, H3.get i0 hi, G3.inb i0 hi', si, c1, ?_⟩
        rw [len_w64I c2]
        refine pop_max _ _ _ _ ⟨_, rfl, k_impl_in _ _ _ _ _ ⟨_, rfl, hL, fun e6 => ?_, fun e6 => ?_⟩⟩
        · have e7 : rotB (xss[i.toNat]'(by omega)) (rs[i.toNat]'(by omega)) = false := not_t e6
          simp only at i2
          rw [e7] at i2
          have e8 : walkB xss rs p = false := by rw [i2]; rfl
          rw [← e8]; exact HK _ f13
        · have e7 : rotB (xss[i.toNat]'(by omega)) (rs[i.toNat]'(by omega)) = true := not_f e6
          simp only at i2
          rw [e7, Bool.true_and] at i2
          rw [H.succ i0 hi]
          exact ⟨n - 1, by omega, rfl, by omega, by omega, i2⟩
      · have hi : ¬ i < (rs.length : Int) := by simpa using e5
        rw [List.drop_of_length_le (by simp; omega)] at i2
        have e8 : walkB xss rs p = true := by rw [i2]; rfl
        rw [← e8]; exact HK _ f13

theorem k_spec_waGood {S S' : Nat → Prop} {h : Heap} {g s : Sl} {xss : List (List Int)} {rs : List Int} (G : RdR S h g xss) (H : RdI S' h s rs) (p : Int) : Ret Try.prog 78 #[.agg #[g.v], .agg #[s.v, VI p]] h (VB (walkB xss rs p)) := by
  intro K HK
  refine v78 g s p h K fun b1 b2 h1 hb1 hb2 f1 hL1 => ?_
  have f1 := f1.in_nil
  refine k_spec_grPlace (G.no f1) p _ fun h3 f3 => ⟨_, rfl, hL1.of_no f3, fun e => ?_, fun e => ?_⟩
  · rw [← walkB_no1 (rs := rs) (not_t e)]; exact HK _ (f1.no_trans f3)
  · have f13 := f1.no_trans f3
    rw [G.len, H.len]
    refine ⟨fun e2 => ?_, fun e2 => ?_⟩
    · have e3 := not_t e2
      simp only [decide_eq_false_iff_not] at e3
      rw [← walkB_no2 (g := xss) (rs := rs) (p := p) (by omega)]; exact HK _ f13
    · have e3 := not_f e2
      simp only [decide_eq_true_eq] at e3
      have e4 := walkB_eq (not_f e) (rs := rs) (by omega)
      have G3 := G.no f13
      have H3 := H.no f13
      refine ⟨fun n i h' => h' = h3 ∧ 0 ≤ i ∧ i + n = (xss.length : Int) ∧ walkB xss rs p = ((xss.zip rs).drop i.toNat).all fun q => rotB q.1 q.2, ⟨xss.length, rfl, by omega, by omega, by simpa using e4⟩, ?_⟩
      rintro n i _ ⟨rfl, i0, i1, i2⟩ hL
      refine ⟨fun e5 => ?_, fun e5 => ?_⟩
      · have hi' : i < (xss.length : Int) := by simpa using e5
        have hi : i < (rs.length : Int) := by omega
        obtain ⟨si, c1, c2⟩ := G3.get i0 hi'
        rw [zip_drop xss rs i0 hi' hi, List.all_cons] at i2
        refine ⟨G3.inb i0 hi', si, c1, H3.inb i0 hi, _, H3.get i0 hi, ?_⟩
        rw [len_w64I c2]
        refine k_spec_l1Most _ _ _ _ ⟨_, rfl, hL, H3.get i0 hi, ?_⟩
        rw [Int.max_comm]
        refine k_spec_l1In _ _ _ _ _ ⟨_, rfl, hL, fun e6 => ?_, fun e6 => ?_⟩
        · have e7 : rotB (xss[i.toNat]'(by omega)) (rs[i.toNat]'(by omega)) = false := not_t e6
          simp only at i2
          rw [e7] at i2
          have e8 : walkB xss rs p = false := by rw [i2]; rfl
          rw [← e8]; exact HK _ f13
        · have e7 : rotB (xss[i.toNat]'(by omega)) (rs[i.toNat]'(by omega)) = true := not_f e6
          simp only at i2
          rw [e7, Bool.true_and] at i2
          rw [G.succ i0 hi']
          exact ⟨n - 1, by omega, rfl, by omega, by omega, i2⟩
      · have hi : ¬ i < (xss.length : Int) := by simpa using e5
        rw [List.drop_of_length_le (by simp; omega)] at i2
        have e8 : walkB xss rs p = true := by rw [i2]; rfl
        rw [← e8]; exact HK _ f13

theorem loopI {S : Nat → Prop} {h : Heap} {s : Sl} {xs : List Int} (H : RdI S h s xs) : (xs.length : Int) ≤ maxLen := by have := H.len; have := H.big; omega

theorem k_eqIntS {S S' : Nat → Prop} {h : Heap} {a b : Sl} {xs ys : List Int} (H : RdI S h a xs) (H' : RdI S' h b ys) (K : Value → Heap → Prop) (HK : K (VB (decide (xs = ys))) h) : callM Try.prog 53 #[a.v, b.v] h K := by
  refine v53 a b h K ⟨fun e => ?_, fun e => ?_⟩
  · have e1 := not_t e
    rw [H.len, H'.len] at e1
    have : ¬ xs = ys := fun e2 => by subst e2; simp at e1
    rw [decide_eq_false this] at HK
    exact HK
  · have e1 := not_f e
    rw [H.len, H'.len] at e1
    have hl : xs.length = ys.length := by simp at e1; omega
    refine ⟨fun n i h' => h' = h ∧ 0 ≤ i ∧ i + n = (xs.length : Int) ∧ decide (xs = ys) = decide (xs.drop i.toNat = ys.drop i.toNat), ⟨xs.length, rfl, by omega, by omega, by simp⟩, ?_⟩
    rintro n i _ ⟨rfl, h0, h1, h2⟩ hL
    refine ⟨fun e => ?_, fun e => ?_⟩
    · have hi := H.lt e
      have hi' : i < (ys.length : Int) := by omega
      refine ⟨H.inb h0 hi, _, H.get h0 hi, H'.inb h0 hi', _, H'.get h0 hi', fun e => ?_, fun e => ?_⟩
      · rw [drop_cons xs h0 hi, drop_cons ys h0 hi'] at h2
        have e3 := not_t e
        simp only [decide_eq_false_iff_not] at e3
        rw [h2, decide_eq_false (fun e4 => e3 (List.cons.inj e4).1)] at HK
        exact HK
      · rw [drop_cons xs h0 hi, drop_cons ys h0 hi'] at h2
        have e3 := not_f e
        simp only [decide_eq_true_eq] at e3
        rw [H.succ h0 hi]
        refine ⟨n - 1, by omega, rfl, by omega, by omega, h2.trans ?_⟩
        rw [e3]
        simp
    · have hi := H.ge e
      rw [List.drop_of_length_le (by omega), List.drop_of_length_le (by omega)] at h2
      rw [h2] at HK
      exact HK

theorem k_eqIntSS {S S' : Nat → Prop} {h : Heap} {a b : Sl} {xs ys : List (List Int)} (H : RdR S h a xs) (H' : RdR S' h b ys) (K : Value → Heap → Prop) (HK : K (VB (decide (xs = ys))) h) : callM Try.prog 71 #[a.v, b.v] h K := by
  refine v71 a b h K ⟨fun e => ?_, fun e => ?_⟩
  · have e1 := not_t e
    rw [H.len, H'.len] at e1
    have : ¬ xs = ys := fun e2 => by subst e2; simp at e1
    rw [decide_eq_false this] at HK
    exact HK
  · have e1 := not_f e
    rw [H.len, H'.len] at e1
    have hl : xs.length = ys.length := by simp at e1; omega
    refine ⟨fun n i h' => h' = h ∧ 0 ≤ i ∧ i + n = (xs.length : Int) ∧ decide (xs = ys) = decide (xs.drop i.toNat = ys.drop i.toNat), ⟨xs.length, rfl, by omega, by omega, by simp⟩, ?_⟩
    rintro n i _ ⟨rfl, h0, h1, h2⟩ hL
    refine ⟨fun e => ?_, fun e => ?_⟩
    · have hi := H.lt e
      have hi' : i < (ys.length : Int) := by omega
      obtain ⟨x, cx, rx⟩ := H.get h0 hi
      obtain ⟨y, cy, ry⟩ := H'.get h0 hi'
      refine ⟨H.inb h0 hi, x, cx, H'.inb h0 hi', y, cy, k_eqIntS rx ry _ ⟨_, rfl, hL, fun e => ?_, fun e => ?_⟩⟩
      · rw [drop_cons xs h0 hi, drop_cons ys h0 hi'] at h2
        have e3 := not_t e
        simp only [decide_eq_false_iff_not] at e3
        rw [h2, decide_eq_false (fun e4 => e3 (List.cons.inj e4).1)] at HK
        exact HK
      · rw [drop_cons xs h0 hi, drop_cons ys h0 hi'] at h2
        have e3 := not_f e
        simp only [decide_eq_true_eq] at e3
        rw [H.succ h0 hi]
        refine ⟨n - 1, by omega, rfl, by omega, by omega, h2.trans ?_⟩
        rw [e3]
        simp
    · have hi := H.ge e
      rw [List.drop_of_length_le (by omega), List.drop_of_length_le (by omega)] at h2
      rw [h2] at HK
      exact HK

theorem k_eqGraph {S S' : Nat → Prop} {h : Heap} {a b : Sl} {xs ys : List (List Int)} (H : RdR S h a xs) (H' : RdR S' h b ys) : Ret Try.prog 28 #[.agg #[a.v], .agg #[b.v]] h (VB (decide (xs = ys))) := by
  intro K HK
  refine v28 a b h K fun b1 b2 h1 hb1 hb2 f1 hL1 => ?_
  refine k_eqIntSS (H.no f1.in_nil) (H'.no f1.in_nil) _ ⟨_, rfl, hL1, fun e => ?_, fun e => ?_⟩
  · rw [← not_t e]; exact HK _ f1.in_nil
  · rw [← not_f e]; exact HK _ f1.in_nil

theorem k_eqWalk {S S' : Nat → Prop} {h : Heap} {a b : Sl} {xs ys : List Int} (H : RdI S h a xs) (H' : RdI S' h b ys) (p q : Int) : Ret Try.prog 37 #[.agg #[a.v, VI p], .agg #[b.v, VI q]] h (VB (decide (xs = ys ∧ p = q))) := by
  intro K HK
  refine v37 a p b q h K fun b1 b2 h1 hb1 hb2 f1 hL1 => ?_
  refine k_eqIntS (H.no f1.in_nil) (H'.no f1.in_nil) _ ⟨_, rfl, hL1, fun e => ?_, fun e => ?_⟩
  · have e3 := not_t e
    simp only [decide_eq_false_iff_not] at e3
    rw [decide_eq_false fun e4 => e3 e4.1] at HK
    exact HK _ f1.in_nil
  · have e3 := not_f e
    simp only [decide_eq_true_eq] at e3
    refine ⟨fun e => ?_, fun e => ?_⟩
    · have e5 := not_t e
      simp only [decide_eq_false_iff_not] at e5
      rw [decide_eq_false fun e4 => e5 e4.2] at HK
      exact HK _ f1.in_nil
    · have e5 := not_f e
      simp only [decide_eq_true_eq] at e5
      rw [decide_eq_true ⟨e3, e5⟩] at HK
      exact HK _ f1.in_nil

def numI (k : Int) : List Int → List Int
  | [] => []
  | _ :: xs => k :: numI (k + 1) xs
theorem numI_length : ∀ (k : Int) (xs : List Int), (numI k xs).length = xs.length
  | _, [] => rfl
  | k, _ :: xs => by simp [numI, numI_length (k + 1) xs]
theorem numI_get : ∀ (xs : List Int) (k : Int) (i : Nat) (h : i < (numI k xs).length), (numI k xs)[i] = k + i
  | [], k, i, h => by simp [numI] at h
  | x :: xs, k, 0, h => by simp [numI]
  | x :: xs, k, i + 1, h => by
    simp only [numI, List.getElem_cons_succ]
    rw [numI_get xs (k + 1) i]
    omega
def totR (xss : List (List Int)) : Nat := (xss.map List.length).sum
def numR (k : Int) : List (List Int) → List (List Int)
  | [] => []
  | xs :: xss => numI k xs :: numR (k + xs.length) xss
theorem numR_length : ∀ (k : Int) (xss : List (List Int)), (numR k xss).length = xss.length
  | _, [] => rfl
  | k, xs :: xss => by simp [numR, numR_length (k + xs.length) xss]
theorem numR_get : ∀ (xss : List (List Int)) (k : Int) (i : Nat) (h : i < (numR k xss).length) (h' : i < xss.length), (numR k xss)[i] = numI (k + totR (xss.take i)) xss[i]
  | [], k, i, h, _ => by simp [numR] at h
  | x :: xs, k, 0, h, _ => by simp [numR, totR]
  | x :: xs, k, i + 1, h, h' => by
    simp only [numR, List.getElem_cons_succ]
    rw [numR_get xs _ i (by simpa [numR] using h) (by simpa using h')]
    congr 1
    simp [totR]
    omega
theorem totR_take_le : ∀ (xss : List (List Int)) (i : Nat), totR (xss.take i) ≤ totR xss
  | [], i => by simp [totR]
  | x :: xs, 0 => by simp [totR]
  | x :: xs, i + 1 => by
    have := totR_take_le xs i
    simp only [totR, List.take_succ_cons, List.map_cons, List.sum_cons] at *
    omega
theorem totR_snoc (xss : List (List Int)) (i : Nat) (h : i < xss.length) : totR (xss.take (i + 1)) = totR (xss.take i) + xss[i].length := by
  rw [List.take_succ_eq_append_getElem h]
  simp only [totR, List.map_append, List.sum_append, List.map_cons, List.map_nil, List.sum_cons, List.sum_nil]
  omega

def firstXs : List (List Int) := [[1, 2], [0, 2], [0]]
def DeskIs (h h' : Heap) (v : Value) : Prop := ∃ (g w : Sl) (m : Nat), v = .agg #[g.v, w.v, VI 0] ∧ OwX h' (fun k => h.size ≤ k ∧ k < m) g firstXs ∧ OwI h' (fun k => h.size ≤ k ∧ m ≤ k) w [0, 0, 0] ∧ Fr No h h'
theorem own_lt {h : Heap} {F : Nat → Prop} {e : TypeId} {sz : Nat} {s : Sl} {vs : List Value} (H : Ow h F e sz s vs) {n : Nat} (hn : h.size ≤ n) : ∀ k, s.own k → k < n := fun k hk => Nat.lt_of_lt_of_le (H.foot hk).2 hn
theorem lit_first {h1 : Heap} {K : Value → Heap → Prop} (HK : ∀ (g : Sl) (h' : Heap), OwX h' (fun k => h1.size ≤ k) g firstXs → Fr No h1 h' → K g.v h') :
    eop Try.prog (Instr.buildSlice tIs 2 #[(0, VI 1), (1, VI 2)]) h1 fun rv_1 h_2 => ∃ t1_1 : Sl, rv_1 = t1_1.v ∧ Fr No h1 h_2 ∧
    eop Try.prog (Instr.buildSlice tIs 2 #[(0, VI 0), (1, VI 2)]) h_2 fun rv_2 h_3 => ∃ t2_1 : Sl, rv_2 = t2_1.v ∧ Fr No h_2 h_3 ∧
    eop Try.prog (Instr.buildSlice tIs 1 #[(0, VI 0)]) h_3 fun rv_3 h_4 => ∃ t3_1 : Sl, rv_3 = t3_1.v ∧ Fr No h_3 h_4 ∧
    eop Try.prog (Instr.buildSlice tIss 3 #[(0, t1_1.v), (1, t2_1.v), (2, t3_1.v)]) h_4 K := by
  refine eop_lit rIs (fun k => h1.size ≤ k) (fun _ h => h) 2 (by omega) [VI 1, VI 2] rfl rfl fun t1 h2 n1 c1 o1 f1 l1 _ => ⟨t1, rfl, f1, ?_⟩
  refine eop_lit rIs (fun k => h1.size ≤ k) (fun _ h => Nat.le_trans f1.size h) 2 (by omega) [VI 0, VI 2] rfl rfl fun t2 h3 n2 c2 o2 f2 l2 _ => ⟨t2, rfl, f2, ?_⟩
  have f13 := f1.no_trans f2
  refine eop_lit rIs (fun k => h1.size ≤ k) (fun _ h => Nat.le_trans f13.size h) 1 (by omega) [VI 0] rfl rfl fun t3 h4 n3 c3 o3 f3 l3 _ => ⟨t3, rfl, f3, ?_⟩
  have f14 := f13.no_trans f3
  refine eop_lit rIss (fun k => h1.size ≤ k) (fun _ h => Nat.le_trans f14.size h) 3 (by omega) [t1.v, t2.v, t3.v] rfl rfl fun t4 h5 n4 c4 o4 f4 l4 _ => ?_
  have g1 := own_lt o1 (Nat.le_refl _)
  have g2 := own_lt o2 (Nat.le_refl _)
  have g3 := own_lt o3 (Nat.le_refl _)
  have s3 := f2.size
  have s4 := f3.size
  refine HK t4 h5 (OwR.of [t1, t2, t3] rfl o4 ?_ ?_ ?_) (f14.trans f4)
  · intro p hp
    simp only [firstXs, List.zip_cons_cons, List.zip_nil_right, List.mem_cons, List.not_mem_nil, or_false] at hp
    rcases hp with rfl | rfl | rfl
    · exact ((o1.no f2).no f3).no f4
    · exact (o2.no f3).no f4
    · exact o3.no f4
  · simp only [List.pairwise_cons, List.mem_cons, List.not_mem_nil, or_false, forall_eq_or_imp, forall_eq, List.Pairwise.nil, and_true]
    refine ⟨⟨fun k a b => ?_, fun k a b => ?_⟩, fun k a b => ?_, by simp⟩
    · have := g1 k a; have := l2 k b; omega
    · have := g1 k a; have := l3 k b; omega
    · have := g2 k a; have := l3 k b; omega
  · intro a ha k hk hk2
    have := l4 k hk
    simp only [List.mem_cons, List.not_mem_nil, or_false] at ha
    rcases ha with rfl | rfl | rfl
    · have := g1 k hk2; omega
    · have := g2 k hk2; omega
    · have := g3 k hk2; omega

theorem k_szIntS {S : Nat → Prop} {h : Heap} {s : Sl} {xs : List Int} (H : RdI S h s xs) (left : Int) (h0 : 0 ≤ left) (h1 : left ≤ 1048576) (K : Value → Heap → Prop) (HK : ∀ r : Int, r = -1 ∨ (0 ≤ r ∧ r = left - xs.length) → K (VI r) h) : callM Try.prog 77 #[s.v, VI left] h K := by
  have hb := maxLen_lt (RdV.big H)
  have e := H.len
  have hw : w64 (left - s.n) = left - s.n := w64_eq _ (by omega) (by omega)
  refine v77 s left h K ⟨fun _ => HK _ (.inl rfl), fun e2 => HK _ (.inr ?_)⟩
  rw [hw] at e2 ⊢
  simp only [decide_eq_false_iff_not] at e2
  omega

theorem k_szIntSS {S : Nat → Prop} {h : Heap} {s : Sl} {xss : List (List Int)} (H : RdR S h s xss) (left : Int) (h0 : 0 ≤ left) (h1 : left ≤ 1048576) (K : Value → Heap → Prop) (HK : ∀ r : Int, r = -1 ∨ (0 ≤ r ∧ r = left - xss.length - totR xss) → K (VI r) h) : callM Try.prog 63 #[s.v, VI left] h K := by
  have hb := maxLen_lt H.big
  have e := H.len
  have hw : w64 (left - s.n) = left - s.n := w64_eq _ (by omega) (by omega)
  refine v63 s left h K ⟨fun _ => HK _ (.inl rfl), fun e2 => ?_⟩
  rw [hw] at e2 ⊢
  simp only [decide_eq_false_iff_not] at e2
  refine ⟨fun n l i h' => h' = h ∧ 0 ≤ i ∧ i + n = (xss.length : Int) ∧ l = left - xss.length - totR (xss.take i.toNat) ∧ 0 ≤ l, ⟨xss.length, rfl, by omega, by omega, by simp [totR]; omega, by omega⟩, ?_⟩
  rintro n l i _ ⟨rfl, i0, i1, rfl, l0⟩ hL
  refine ⟨fun e => ?_, fun e => ?_⟩
  · have hi := H.lt e
    obtain ⟨si, c1, c2⟩ := H.get i0 hi
    have hsn := totR_snoc xss i.toNat (by omega)
    refine ⟨H.inb i0 hi, si, c1, k_szIntS c2 _ l0 (by omega) _ fun r hr => ⟨r, rfl, .nil, fun _ => HK _ (.inl rfl), fun e3 => ?_⟩⟩
    simp only [decide_eq_false_iff_not] at e3
    rw [H.succ i0 hi]
    exact ⟨n - 1, by omega, rfl, by omega, by omega, by rw [toNat_succ i0, hsn]; omega, by omega⟩
  · have hi := H.ge e
    have e4 : i = xss.length := by omega
    refine HK _ (.inr ⟨l0, ?_⟩)
    rw [e4]
    simp

theorem k_szGraph {S : Nat → Prop} {h : Heap} {s : Sl} {xss : List (List Int)} (H : RdR S h s xss) (left : Int) (h0 : 0 ≤ left) (h1 : left ≤ 1048576) (K : Value → Heap → Prop) (HK : ∀ (h' : Heap) (r : Int), Fr No h h' → r = -1 ∨ (0 ≤ r ∧ r = left - xss.length - totR xss) → K (VI r) h') : callM Try.prog 24 #[.agg #[s.v], VI left] h K := by
  refine v24 s left h K fun b1 h1' hb1 f1 hL1 => ?_
  refine k_szIntSS (H.no f1.in_nil) left h0 h1 _ fun r hr => ⟨r, rfl, hL1, fun e => HK _ _ f1.in_nil (.inl rfl), fun e => HK _ _ f1.in_nil hr⟩

theorem k_szWalk {S : Nat → Prop} {h : Heap} {s : Sl} {xs : List Int} (H : RdI S h s xs) (p left : Int) (h0 : 0 ≤ left) (h1 : left ≤ 1048576) (K : Value → Heap → Prop) (HK : ∀ (h' : Heap) (r : Int), Fr No h h' → r = -1 ∨ (0 ≤ r ∧ r = left - xs.length) → K (VI r) h') : callM Try.prog 33 #[.agg #[s.v, VI p], VI left] h K := by
  refine v33 s p left h K fun b1 h1' hb1 f1 hL1 => ?_
  refine k_szIntS (H.no f1.in_nil) left h0 h1 _ fun r hr => ⟨r, rfl, hL1, fun e => HK _ _ f1.in_nil (.inl rfl), fun e => HK _ _ f1.in_nil hr⟩

theorem k_toIntS {S : Nat → Prop} {h : Heap} {s : Sl} {xs : List Int} (H : RdI S h s xs) (hn : xs.length ≤ 1000000000000) (K : Value → Heap → Prop) (HK : ∀ t h', OwI h' (fun k => h.size ≤ k) t xs → Fr No h h' → K t.v h') : callM Try.prog 80 #[s.v] h K := by
  have hl := H.len
  refine v80 s h K ?_
  refine eop_make rIs (fun k => h.size ≤ k) (fun _ h => h) .i64 .i64 s.n s.n (Nat.le_refl _) (by omega) fun t h1 n1 c1 o1 f1 l1 _ => ⟨t, rfl, .nil, ?_⟩
  have o1 : OwI h1 (fun k => h.size ≤ k) t (List.replicate xs.length 0) := by
    have e : (List.replicate s.n [VI 0]).flatten = (List.replicate xs.length (0 : Int)).map VI := by rw [H.len]; simp [List.flatten_replicate_singleton]
    rw [e] at o1; exact o1
  refine ⟨fun n i h' => 0 ≤ i ∧ i + n = (xs.length : Int) ∧ OwI h' (fun k => h.size ≤ k) t (xs.take i.toNat ++ (List.replicate xs.length (0 : Int)).drop i.toNat) ∧ Fr t.own h1 h', ⟨xs.length, by omega, by omega, by simpa using o1, Fr.refl _ _⟩, ?_⟩
  rintro n i h2 ⟨i0, i1, o2, f2⟩ hL
  have H2 := H.on f1 f2 l1
  refine ⟨fun e => ?_, fun e => ?_⟩
  · have hi := H.lt e
    obtain ⟨w1, w2, w3⟩ := o2.store1 i0 (by omega) (VI (xs[i.toNat]'(by omega)))
    refine ⟨H2.inb i0 hi, _, H2.get i0 hi, o2.inb i0 (by omega), w1, .nil, fun h3 e3 _ => ?_⟩
    subst e3
    rw [← List.map_set, set_mid _ _ _ _ (by simp; omega)] at w2
    rw [H.succ i0 hi]
    exact ⟨n - 1, by omega, by omega, by omega, by rw [toNat_succ i0]; exact w2, f2.trans w3⟩
  · have hi := H.ge e
    have e4 : i = xs.length := by omega
    subst e4
    exact HK t h2 (by simpa using o2) (f1.fresh f2 l1)

theorem k_toIntSS {S : Nat → Prop} {h : Heap} {s : Sl} {xss : List (List Int)} (H : RdR S h s xss) (hn : xss.length ≤ 1000000000000) (hm : totR xss ≤ 1000000000000) (K : Value → Heap → Prop) (HK : ∀ t h', OwX h' (fun k => h.size ≤ k) t xss → Fr No h h' → K t.v h') : callM Try.prog 67 #[s.v] h K := by
  have hl := H.len
  refine v67 s h K ?_
  refine eop_make rIss (fun k => h.size ≤ k) (fun _ h => h) .i64 .i64 s.n s.n (Nat.le_refl _) (by omega) fun t h1 n1 c1 o1 f1 l1 _ => ⟨t, rfl, .nil, ?_⟩
  have o1 : OwX h1 (fun k => h.size ≤ k) t (List.replicate xss.length []) := OwR.zeros _ (by rw [hl] at o1; exact o1)
  refine ⟨fun n i h' => 0 ≤ i ∧ i + n = (xss.length : Int) ∧ OwX h' (fun k => h.size ≤ k) t (xss.take i.toNat ++ (List.replicate xss.length []).drop i.toNat) ∧ Fr No h h', ⟨xss.length, by omega, by omega, by simpa using o1, f1⟩, ?_⟩
  rintro n i h2 ⟨i0, i1, o2, f2⟩ hL
  have H2 := H.no f2
  refine ⟨fun e => ?_, fun e => ?_⟩
  · have hi := H.lt e
    obtain ⟨si, c1, c2⟩ := H2.get i0 hi
    have hlen : (xss.take i.toNat ++ (List.replicate xss.length ([] : List Int)).drop i.toNat).length = xss.length := by simp; omega
    have hsz : (xss[i.toNat]'(by omega)).length ≤ totR xss := by
      have h1 := totR_snoc xss i.toNat (by omega)
      have h2 := totR_take_le xss (i.toNat + 1)
      omega
    refine ⟨H2.inb i0 hi, si, c1, k_toIntS c2 (by omega) _ fun x h3 o3 f3 => ⟨x, rfl, .nil, ?_⟩⟩
    have o2' := (o2.mono (F' := fun k => h.size ≤ k ∧ k < h2.size) fun k hk hF => ⟨hF, hk⟩).no f3
    obtain ⟨sj, d1, d2, _⟩ := o2'.inner i0 (by omega)
    have s2 := f2.size
    obtain ⟨w1, w2, w3⟩ := o2'.outer i0 (by omega) d1 (F' := fun k => h.size ≤ k) (o3.mono fun k _ hk => by omega) (fun k _ hk => hk.1) (fun k hk => .inr fun hk2 => by have := (o3.foot hk).1; omega)
    refine ⟨o2'.rd.inb i0 (by omega), w1, .nil, fun h4 e4 _ => ?_⟩
    subst e4
    rw [set_mid _ _ _ _ (by simp; omega)] at w2
    rw [H.succ i0 hi]
    exact ⟨n - 1, by omega, by omega, by omega, by rw [toNat_succ i0]; exact w2, (f2.no_trans f3).fresh w3 fun k hk => by
      obtain ⟨ss, _, h5, _⟩ := o2'.out
      exact (h5.foot hk).1.1⟩
  · have hi := H.ge e
    have e4 : i = xss.length := by omega
    subst e4
    exact HK t h2 (by simpa using o2) f2

theorem k_toGraph {S : Nat → Prop} {h : Heap} {s : Sl} {xss : List (List Int)} (H : RdR S h s xss) (hn : xss.length ≤ 1000000000000) (hm : totR xss ≤ 1000000000000) (K : Value → Heap → Prop) (HK : ∀ t h', OwX h' (fun k => h.size ≤ k) t xss → Fr No h h' → K (.agg #[t.v]) h') : callM Try.prog 26 #[.agg #[s.v]] h K := by
  refine v26 s h K fun b1 b2 b3 h1 hb1 hb2 hb3 f1 hL1 => ?_
  have f1 := f1.in_nil
  refine k_toIntSS (H.no f1) hn hm _ fun t h2 o2 f2 => ⟨t, rfl, hL1.of_no f2, fun h3 f3 hL3 => ?_⟩
  have l3 : b3 < h1.size := hL1.head.lt
  have l2 : b2 < h1.size := hL1.tail.head.lt
  have s1 := f1.size
  refine HK t h3 ((o2.fr f3 fun k _ hk => In.off (n := h1.size) (by simp; omega) hk).mono fun k _ hk => by omega) ((f1.no_trans f2).fresh f3 (in_ge (by simp; omega)))

theorem k_toWalk {S : Nat → Prop} {h : Heap} {s : Sl} {xs : List Int} (H : RdI S h s xs) (p : Int) (hn : xs.length ≤ 1000000000000) (K : Value → Heap → Prop) (HK : ∀ t h', OwI h' (fun k => h.size ≤ k) t xs → Fr No h h' → K (.agg #[t.v, VI p]) h') : callM Try.prog 35 #[.agg #[s.v, VI p]] h K := by
  refine v35 s p h K fun b1 b2 b3 h1 hb1 hb2 hb3 f1 hL1 => ?_
  have f1 := f1.in_nil
  refine k_toIntS (H.no f1) hn _ fun t h2 o2 f2 => ⟨t, rfl, hL1.of_no f2, fun h3 f3 hL3 => ?_⟩
  have l3 : b3 < h1.size := hL1.head.lt
  have l2 : b2 < h1.size := hL1.tail.head.lt
  have s1 := f1.size
  refine HK t h3 ((Ow.fr o2 f3 fun k hk => In.off (n := h1.size) (by simp; omega) (o2.foot hk).1).mono fun k _ hk => by omega) ((f1.no_trans f2).fresh f3 (in_ge (by simp; omega)))

theorem frOwn {h h' : Heap} {F : Nat → Prop} {e : TypeId} {sz : Nat} {s : Sl} {vs : List Value} {b : Heap} (H : Ow h F e sz s vs) (f : Fr s.own h h') : Fr F h h' := f.mono fun _ _ hk => (H.foot hk).1

theorem g_szIntS {S : Nat → Prop} {h : Heap} {s : Sl} {xs : List Int} (H : RdI S h s xs) (left : Int) (h0 : 0 ≤ left) (h1 : left ≤ 1048576) (K : Value → Heap → Prop) (HK : ∀ (h' : Heap) (r : Int), Fr No h h' → r = -1 ∨ (0 ≤ r ∧ r = left - xs.length) → K (VI r) h') : callM Try.prog 77 #[s.v, VI left] h K := k_szIntS H left h0 h1 K fun r hr => HK h r (Fr.refl _ _) hr

theorem g_szGraph {S : Nat → Prop} {h : Heap} {s : Sl} {xss : List (List Int)} (H : RdR S h s xss) (left : Int) (h0 : 0 ≤ left) (h1 : left ≤ 1048576) (K : Value → Heap → Prop) (HK : ∀ (h' : Heap) (r : Int), Fr No h h' → r = -1 ∨ (0 ≤ r ∧ r = left - xss.length - totR xss) → K (VI r) h') : callM Try.prog 24 #[.agg #[s.v], VI left] h K := k_szGraph H left h0 h1 K HK

theorem g_szWalk {S : Nat → Prop} {h : Heap} {s : Sl} {xs : List Int} (H : RdI S h s xs) (p left : Int) (h0 : 0 ≤ left) (h1 : left ≤ 1048576) (K : Value → Heap → Prop) (HK : ∀ (h' : Heap) (r : Int), Fr No h h' → r = -1 ∨ (0 ≤ r ∧ r = left - xs.length) → K (VI r) h') : callM Try.prog 33 #[.agg #[s.v, VI p], VI left] h K := k_szWalk H p left h0 h1 K HK

theorem g_toIntS {S : Nat → Prop} {h : Heap} {s : Sl} {xs : List Int} (H : RdI S h s xs) (hn : xs.length ≤ 1048576) (K : Value → Heap → Prop) (HK : ∀ t h', OwI h' (Iv h.size h'.size) t xs → Fr No h h' → K t.v h') : callM Try.prog 80 #[s.v] h K := k_toIntS H (by omega) K fun t h' o f => HK t h' o.toIv f

theorem g_toGraph {S : Nat → Prop} {h : Heap} {s : Sl} {xss : List (List Int)} (H : RdR S h s xss) (hn : xss.length + totR xss ≤ 1048576) (K : Value → Heap → Prop) (HK : ∀ t h', OwX h' (Iv h.size h'.size) t xss → Fr No h h' → K (.agg #[t.v]) h') : callM Try.prog 26 #[.agg #[s.v]] h K := k_toGraph H (by omega) (by omega) K fun t h' o f => HK t h' o.toIv f

theorem g_toWalk {S : Nat → Prop} {h : Heap} {s : Sl} {xs : List Int} (H : RdI S h s xs) (p : Int) (hn : xs.length ≤ 1048576) (K : Value → Heap → Prop) (HK : ∀ t h', OwI h' (Iv h.size h'.size) t xs → Fr No h h' → K (.agg #[t.v, VI p]) h') : callM Try.prog 35 #[.agg #[s.v, VI p]] h K := k_toWalk H p (by omega) K fun t h' o f => HK t h' o.toIv f

theorem g_eqIntS {S S' : Nat → Prop} {h : Heap} {a b : Sl} {xs : List Int} (H : RdI S h a xs) (H' : RdI S' h b xs) : Ret Try.prog 53 #[a.v, b.v] h (VB true) := fun K HK => k_eqIntS H H' K (by rw [decide_eq_true rfl]; exact HK h (Fr.refl _ _))

theorem g_eqIntSS {S S' : Nat → Prop} {h : Heap} {a b : Sl} {xs : List (List Int)} (H : RdR S h a xs) (H' : RdR S' h b xs) : Ret Try.prog 71 #[a.v, b.v] h (VB true) := fun K HK => k_eqIntSS H H' K (by rw [decide_eq_true rfl]; exact HK h (Fr.refl _ _))

theorem g_eqGraph {S S' : Nat → Prop} {h : Heap} {a b : Sl} {xs : List (List Int)} (H : RdR S h a xs) (H' : RdR S' h b xs) : Ret Try.prog 28 #[.agg #[a.v], .agg #[b.v]] h (VB true) := by have := k_eqGraph H H'; rwa [decide_eq_true rfl] at this

theorem g_eqWalk {S S' : Nat → Prop} {h : Heap} {a b : Sl} {xs : List Int} {p : Int} (H : RdI S h a xs) (H' : RdI S' h b xs) : Ret Try.prog 37 #[.agg #[a.v, VI p], .agg #[b.v, VI p]] h (VB true) := by have := k_eqWalk H H' p p; rwa [decide_eq_true ⟨rfl, rfl⟩] at this

theorem nil_of_none {S : Nat → Prop} {h : Heap} {s : Sl} {xs : List Int} (H : RdI S h s xs) (hn : s.a = none) : xs = [] := by
  cases xs with
  | nil => rfl
  | cons x xs =>
    obtain ⟨a, ha, _⟩ := RdV.cell H 0 (by simp)
    rw [hn] at ha
    cases ha

theorem k_Clone {S : Nat → Prop} {h : Heap} {s : Sl} {xs : List Int} (H : RdI S h s xs) (hn : xs.length ≤ 1000000000) (K : Value → Heap → Prop) (HK : ∀ t h', OwI h' (Iv h.size h'.size) t xs → Fr No h h' → K t.v h') : callM Try.prog 101 #[s.v] h K := by
  refine v101 s h K (pop_isnil rIs _ _ ⟨_, rfl, fun e => ?_, fun e => ?_⟩)
  · have : xs = [] := nil_of_none H (by simpa using e)
    subst this
    exact HK nilSl h (Ow.nil _ _ _ _) (Fr.refl _ _)
  · refine eop_lit rIs (fun k => h.size ≤ k) (fun _ h => h) 0 (by omega) [] rfl rfl fun t h1 n1 c1 o1 f1 l1 _ => ⟨t, rfl, .nil, ?_⟩
    refine eop_append rIs o1 (fun k hk => Nat.le_trans f1.size hk) (H.no f1) (plainVI _) (by have := H.len; omega) fun t' h2 n2 o2 f2 l2 => ⟨t', rfl, .nil, ?_⟩
    exact HK t' h2 (Ow.toIv (by simpa using o2)) (f1.fresh f2 l1)

theorem k_l1Own {S : Nat → Prop} {h : Heap} {s : Sl} {xs : List Int} (H : RdI S h s xs) (hn : xs.length ≤ 1000000000) (K : Value → Heap → Prop) (HK : ∀ t h', OwI h' (Iv h.size h'.size) t xs → Fr No h h' → K t.v h') : callM Try.prog 88 #[s.v] h K := by
  refine v88 s h K ?_
  refine eop_lit rIs (fun k => h.size ≤ k) (fun _ h => h) 0 (by omega) [] rfl rfl fun t h1 n1 c1 o1 f1 l1 _ => ⟨t, rfl, .nil, ?_⟩
  refine eop_append rIs o1 (fun k hk => Nat.le_trans f1.size hk) (H.no f1) (plainVI _) (by have := H.len; omega) fun t' h2 n2 o2 f2 l2 => ⟨t', rfl, .nil, ?_⟩
  exact HK t' h2 (Ow.toIv (by simpa using o2)) (f1.fresh f2 l1)

/-- Every list of these is short. -/
def shortR (n : Nat) (xss : List (List Int)) : Prop := xss.length ≤ n ∧ ∀ l, l ∈ xss → l.length ≤ n
theorem tot_short {n : Nat} : ∀ {xss : List (List Int)} {m : Nat}, xss.length ≤ m → (∀ l, l ∈ xss → l.length ≤ n) → totR xss ≤ m * n
  | [], m, _, _ => by simp [totR]
  | x :: xs, 0, h, _ => by simp at h
  | x :: xs, m + 1, h, h2 => by
    have h3 := tot_short (n := n) (xss := xs) (m := m) (by simpa using h) fun l hl => h2 l (List.mem_cons_of_mem _ hl)
    have h4 := h2 x (by simp)
    have h5 : totR (x :: xs) = x.length + totR xs := by simp [totR]
    rw [h5, Nat.add_mul]
    omega
theorem short_of_tot {xss : List (List Int)} : ∀ l, l ∈ xss → l.length ≤ totR xss := by
  induction xss with
  | nil => intro l h; simp at h
  | cons x xs ih =>
    intro l hl
    have h5 : totR (x :: xs) = x.length + totR xs := by simp [totR]
    rcases List.mem_cons.1 hl with rfl | hl
    · omega
    · have := ih l hl; omega

def toldP (xss : List (List Int)) : List (List Int) := if graphB xss then xss else []
def addP (g : List (List Int)) (p q : Int) : List (List Int) × Bool :=
  if graphB g && inR 0 ((g.length : Int) - 1) p && inR 0 ((g.length : Int) - 1) q then (toldP (g.set p.toNat (g.getD p.toNat [] ++ [q])), graphB (g.set p.toNat (g.getD p.toNat [] ++ [q]))) else ([], false)
theorem inR_iff {lo hi x : Int} : inR lo hi x = true ↔ lo ≤ x ∧ x ≤ hi := by simp [inR]
theorem graph_len {g : List (List Int)} (h : graphB g = true) : 1 ≤ g.length ∧ g.length ≤ 8 := by
  unfold graphB at h
  rw [Bool.and_eq_true, inR_iff] at h
  omega
theorem graph_mem {g : List (List Int)} (h : graphB g = true) {l : List Int} (hl : l ∈ g) : l.length ≤ 5 ∧ ∀ x, x ∈ l → 0 ≤ x ∧ x < (g.length : Int) := by
  unfold graphB at h
  rw [Bool.and_eq_true] at h
  have := List.all_eq_true.1 h.2 l hl
  rw [Bool.and_eq_true] at this
  obtain ⟨h1, h2⟩ := this
  simp only [Bool.not_eq_true', decide_eq_false_iff_not] at h1
  refine ⟨by omega, fun x hx => ?_⟩
  have := List.all_eq_true.1 h2 x hx
  rw [inR_iff] at this
  omega
theorem graph_tot {g : List (List Int)} (h : graphB g = true) : totR g ≤ 40 := by
  have := tot_short (n := 5) (xss := g) (m := 8) (graph_len h).2 fun l hl => (graph_mem h hl).1
  omega
theorem toldP_tot (g : List (List Int)) : (toldP g).length + totR (toldP g) ≤ 48 := by
  unfold toldP
  split
  · rename_i h
    have := graph_tot h
    have := graph_len h
    omega
  · simp [totR]
theorem addP_tot (g : List (List Int)) (p q : Int) : (addP g p q).1.length + totR (addP g p q).1 ≤ 48 := by
  unfold addP
  split
  · exact toldP_tot _
  · simp [totR]
theorem getD_get {g : List (List Int)} {i : Nat} (h : i < g.length) : g.getD i [] = g[i] := by simp [List.getD, List.getElem?_eq_getElem h]

theorem totR_flat (xss : List (List Int)) : xss.flatten.length = totR xss := by simp [totR, List.length_flatten]

def rotL (l : List Int) (k : Nat) : List Int := l.drop (k % l.length) ++ l.take (k % l.length)
def turnP (g : List (List Int)) (p k : Int) : List (List Int) × Bool :=
  if graphB g && inR 0 ((g.length : Int) - 1) p && inR 0 1000 k then (g.set p.toNat (rotL (g.getD p.toNat []) k.toNat), true) else ([], false)
theorem rotL_length (l : List Int) (k : Nat) : (rotL l k).length = l.length := by
  unfold rotL
  simp
  rcases Nat.eq_zero_or_pos l.length with h | h
  · simp [h]
  · have := Nat.mod_lt k h
    omega
theorem rot_get (l : List Int) (j i : Nat) (h : i < l.length) (hj : j < l.length) : (l.drop j ++ l.take j)[i]? = l[(i + j) % l.length]? := by
  by_cases h1 : i < (l.drop j).length
  · rw [List.getElem?_append_left h1]
    simp only [List.length_drop] at h1
    rw [Nat.mod_eq_of_lt (by omega), List.getElem?_drop]
    congr 1
    omega
  · rw [List.getElem?_append_right (by omega)]
    simp only [List.length_drop] at h1 ⊢
    rw [Nat.mod_eq_sub_mod (by omega), Nat.mod_eq_of_lt (by omega), List.getElem?_take, if_pos (by omega)]
    congr 1
    omega
theorem rotL_get (l : List Int) (k i : Nat) (h : i < l.length) : (rotL l k)[i]'(by rw [rotL_length]; exact h) = l[(i + k) % l.length]'(Nat.mod_lt _ (by omega)) := by
  have hm := Nat.mod_lt k (show 0 < l.length by omega)
  have := rot_get l (k % l.length) i h hm
  rw [Nat.add_mod_mod, List.getElem?_eq_getElem (by simp; omega), List.getElem?_eq_getElem (Nat.mod_lt _ (by omega))] at this
  exact Option.some.inj this
theorem totR_set (xss : List (List Int)) (i : Nat) (ys : List Int) : totR (xss.set i ys) ≤ totR xss + ys.length := by
  induction xss generalizing i with
  | nil => simp [totR]
  | cons x xs ih =>
    cases i with
    | zero => simp [totR]; omega
    | succ i =>
      have := ih i
      simp only [totR, List.set_cons_succ, List.map_cons, List.sum_cons] at *
      omega
theorem turnP_tot (g : List (List Int)) (p k : Int) : (turnP g p k).1.length + totR (turnP g p k).1 ≤ 100 := by
  unfold turnP
  split
  · rename_i h
    rw [Bool.and_eq_true, Bool.and_eq_true, inR_iff, inR_iff] at h
    obtain ⟨⟨h1, h2, h3⟩, _⟩ := h
    have a := graph_tot h1
    have b := graph_len h1
    have c := totR_set g p.toNat (rotL (g.getD p.toNat []) k.toNat)
    rw [rotL_length, getD_get (by omega)] at c
    have d := (graph_mem h1 (List.getElem_mem (show p.toNat < g.length by omega))).1
    simp only [List.length_set]
    rw [getD_get (by omega)]
    omega
  · simp [totR]
theorem tmod_nat {k n : Int} (h0 : 0 ≤ k) (hn : 0 ≤ n) : Int.tmod k n = ((k.toNat % n.toNat : Nat) : Int) := by
  obtain ⟨a, rfl⟩ := Int.eq_ofNat_of_zero_le h0
  obtain ⟨b, rfl⟩ := Int.eq_ofNat_of_zero_le hn
  rfl

/-- A walk's state: its rotors and its place. -/
abbrev St := List Int × Int
def stepP (g : List (List Int)) (w : St) : Option St :=
  if (g.getD w.2.toNat []).length = 0 then none
  else some (w.1.set w.2.toNat ((((w.1.getD w.2.toNat 0).toNat + 1) % (g.getD w.2.toNat []).length : Nat) : Int), (g.getD w.2.toNat []).getD (((w.1.getD w.2.toNat 0).toNat + 1) % (g.getD w.2.toNat []).length) 0)
structure WOK (g : List (List Int)) (w : St) : Prop where
  graph : graphB g = true
  len : w.1.length = g.length
  lo : 0 ≤ w.2
  hi : w.2 < (g.length : Int)
  rot : ∀ i (h : i < w.1.length) (h' : i < g.length), 0 ≤ w.1[i] ∧ w.1[i] ≤ max ((g[i].length : Int) - 1) 0
theorem wok_of {g : List (List Int)} {rs : List Int} {p : Int} (h : walkB g rs p = true) : WOK g (rs, p) := by
  unfold walkB at h
  simp only [Bool.and_eq_true, decide_eq_true_eq] at h
  obtain ⟨⟨⟨h1, h2⟩, h3⟩, h4⟩ := h
  rw [inR_iff] at h2
  refine ⟨h1, h3, h2.1, by simp only; omega, fun i a b => ?_⟩
  have := List.all_eq_true.1 h4 (g[i], rs[i]) (by
    rw [show (g[i], rs[i]) = (g.zip rs)[i]'(by simp only [List.length_zip]; simp only at a; omega) by simp]
    exact List.getElem_mem _)
  unfold rotB at this
  rw [inR_iff] at this
  exact this
theorem stepP_none {g : List (List Int)} {w : St} (W : WOK g w) (hp : w.2.toNat < g.length) : (g[w.2.toNat]).length = 0 → stepP g w = none := fun h => by
  unfold stepP
  rw [getD_get hp, if_pos h]
theorem getD_getI {xs : List Int} {i : Nat} (h : i < xs.length) : xs.getD i 0 = xs[i] := by simp [List.getD, List.getElem?_eq_getElem h]
theorem stepP_some {g : List (List Int)} {w : St} (W : WOK g w) (hp : w.2.toNat < g.length) (hr : w.2.toNat < w.1.length) (h : (g[w.2.toNat]).length ≠ 0) :
    stepP g w = some (w.1.set w.2.toNat ((((w.1[w.2.toNat]).toNat + 1) % (g[w.2.toNat]).length : Nat) : Int), (g[w.2.toNat])[((w.1[w.2.toNat]).toNat + 1) % (g[w.2.toNat]).length]'(Nat.mod_lt _ (by omega))) := by
  unfold stepP
  rw [getD_get hp, if_neg h, getD_getI hr, getD_getI (Nat.mod_lt _ (by omega))]
theorem WOK.step {g : List (List Int)} {w w' : St} (W : WOK g w) (h : stepP g w = some w') : WOK g w' := by
  have hp : w.2.toNat < g.length := by have := W.hi; have := W.lo; omega
  have hr : w.2.toNat < w.1.length := by rw [W.len]; exact hp
  by_cases h0 : (g[w.2.toNat]).length = 0
  · rw [stepP_none W hp h0] at h; cases h
  · rw [stepP_some W hp hr h0] at h
    have hm := Nat.mod_lt ((w.1[w.2.toNat]).toNat + 1) (show 0 < (g[w.2.toNat]).length by omega)
    simp only [Option.some.injEq] at h
    subst h
    have hmem := (graph_mem W.graph (List.getElem_mem hp)).2 _ (List.getElem_mem hm)
    refine ⟨W.graph, by simpa using W.len, hmem.1, hmem.2, fun i a b => ?_⟩
    simp only [List.length_set] at a
    simp only [List.getElem_set]
    split
    · rename_i e
      subst e
      omega
    · exact W.rot i a b

theorem k_copiedW {S : Nat → Prop} {h : Heap} {s : Sl} {xs : List Int} (H : RdI S h s xs) (p : Int) (hn : xs.length ≤ 1000000000) (K : Value → Heap → Prop) (HK : ∀ t h', OwI h' (Iv h.size h'.size) t xs → Fr No h h' → K (.agg #[t.v, VI p]) h') : callM Try.prog 89 #[.agg #[s.v, VI p]] h K := by
  refine v89 s p h K fun b1 b2 h2 hb1 hb2 f2 hL2 => ?_
  have f2 := f2.in_nil
  have l2 : b2 < h2.size := hL2.head.lt
  have s2 := f2.size
  refine k_Clone (H.no f2) hn _ fun t h3 o3 f3 => ⟨t, rfl, hL2.of_no f3, fun h4 f4 hL4 => ?_⟩
  have f4 := f4.inIv (lo := h.size) (hi := h2.size) ⟨⟨hb2, l2⟩, trivial⟩
  exact HK t h4 ((Ow.iv o3 f4 (.inr (Nat.le_refl _))).mono fun k hk hF => ⟨Nat.le_trans s2 hF.1, Nat.lt_of_lt_of_le hF.2 f4.size⟩) ((f2.no_trans f3).ivFresh f4 (Nat.le_refl _))

theorem k_step {a c b : Nat} {h : Heap} {g w : Sl} {xss : List (List Int)} {s : St} (G : RdR (Iv 0 a) h g xss) (V : IsVar h b [w.v, VI s.2]) (H : OwI h (Iv a c) w s.1) (hb0 : a ≤ b) (hb1 : b < c) (hbw : ¬ w.own b) (W : WOK xss s) (K : Value → Heap → Prop)
    (HN : stepP xss s = none → ∀ h', Fr No h h' → K (VB false) h') (HS : ∀ s', stepP xss s = some s' → ∀ h', OwI h' (Iv a c) w s'.1 → IsVar h' b [w.v, VI s'.2] → Fr (Iv a c) h h' → K (VB true) h') :
    callM Try.prog 104 #[.agg #[g.v], VP b 0] h K := by
  have hp : s.2.toNat < xss.length := by have := W.hi; have := W.lo; omega
  have hr : s.2.toNat < s.1.length := by rw [W.len]; exact hp
  have hlo := W.lo
  refine v104 g b w s.2 h K (.cons V (by simp) .nil) ⟨G.inb W.lo W.hi, fun b2 h1 hb2 f1 hL1 => ?_⟩
  have f1 := f1.in_nil
  obtain ⟨si, c1, c2⟩ := (G.no f1).get W.lo W.hi
  have H1 := Ow.no H f1
  have hn1 : w.n = s.1.length := RdI.len H.rdF
  refine ⟨si, c1, fun e => ?_, fun e => ?_⟩
  · simp only [decide_eq_true_eq] at e
    exact HN (stepP_none W hp (by have := c2.len; omega)) h1 f1
  · simp only [decide_eq_false_iff_not] at e
    have h0 : (xss[s.2.toNat]'hp).length ≠ 0 := by have := c2.len; omega
    have hst := stepP_some W hp hr h0
    have hm := Nat.mod_lt ((s.1[s.2.toNat]'hr).toNat + 1) (show 0 < (xss[s.2.toNat]'hp).length by omega)
    have hrot := W.rot _ hr hp
    have hbig := (graph_mem W.graph (List.getElem_mem hp)).1
    have hw : w64 (s.1[s.2.toNat]'hr + 1) = s.1[s.2.toNat]'hr + 1 := w64_eq _ (by omega) (by omega)
    have hm2 : Int.tmod (s.1[s.2.toNat]'hr + 1) (si.n : Int) = ((((s.1[s.2.toNat]'hr).toNat + 1) % (xss[s.2.toNat]'hp).length : Nat) : Int) := by
      rw [tmod_nat (by omega) (by omega), c2.len]
      congr 2
      omega
    have R1 : RdI (Iv a c) h1 w s.1 := H1.rdI
    refine ⟨R1.inb hlo (by omega), _, R1.get hlo (by omega), by omega, R1.inb hlo (by omega), ?_⟩
    rw [hw, hm2]
    obtain ⟨w1, w2, w3⟩ := H1.store1 hlo (by omega) (VI ((((s.1[s.2.toNat]'hr).toNat + 1) % (xss[s.2.toNat]'hp).length : Nat) : Int))
    have w3' : Fr (Iv a c) h1 _ := w3.mono fun k _ hk => (H1.foot hk).1
    have hbl := V.lt
    have hL2 := hL1.fr w3 fun p hp => by
      simp only [List.mem_cons, List.not_mem_nil, or_false] at hp
      rcases hp with rfl | rfl
      · exact fun hk => by have := (H.foot hk).2; simp only at this; omega
      · exact hbw
    refine ⟨w1, hL2, fun h2 e2 _ => ?_⟩
    subst e2
    rw [← List.map_set] at w2
    have R2 : RdI (Iv a c) _ w _ := Ow.rdI w2
    have c2' := RdI.iv c2 w3' (.inl (Nat.le_refl _))
    have hv : hcell (hset h1 (w.at s.2 1) (VI ((((s.1[s.2.toNat]'hr).toNat + 1) % (xss[s.2.toNat]'hp).length : Nat) : Int))) (w.at s.2 1) = some (VI ((((s.1[s.2.toNat]'hr).toNat + 1) % (xss[s.2.toNat]'hp).length : Nat) : Int)) := by
      have := R2.get (i := s.2) hlo (by simp; omega)
      simpa using this
    have hq := c2'.get (i := ((((s.1[s.2.toNat]'hr).toNat + 1) % (xss[s.2.toNat]'hp).length : Nat) : Int)) (by omega) (by omega)
    simp only [Int.toNat_natCast] at hq
    refine ⟨R2.inb hlo (by simp; omega), _, hv, c2'.inb (by omega) (by omega), _, hq, fun h3 f3 hL3 => ?_⟩
    have f3' := f3.inIv (lo := a) (hi := c) ⟨⟨hb0, hb1⟩, trivial⟩
    refine HS _ hst h3 ?_ ?_ ((f1.of_no.trans w3').trans f3')
    · exact Ow.fr w2 f3 fun k hk hk2 => by
        simp only [In, List.mem_cons, List.not_mem_nil, or_false] at hk2
        subst hk2
        exact hbw hk
    · exact hL3.tail.head

theorem k_waStep {S S' : Nat → Prop} {h : Heap} {g w : Sl} {xss : List (List Int)} {s : St} (G : RdR S h g xss) (H : RdI S' h w s.1) (W : WOK xss s) (K : Value → Heap → Prop)
    (HN : stepP xss s = none → ∀ h', Fr No h h' → K (.tuple #[.agg #[w.v, VI s.2], VB false]) h') (HS : ∀ s', stepP xss s = some s' → ∀ t h', OwI h' (Iv h.size h'.size) t s'.1 → Fr No h h' → K (.tuple #[.agg #[t.v, VI s'.2], VB true]) h') :
    callM Try.prog 79 #[.agg #[g.v], .agg #[w.v, VI s.2]] h K := by
  have hp : s.2.toNat < xss.length := by have := W.hi; have := W.lo; omega
  have hr : s.2.toNat < s.1.length := by rw [W.len]; exact hp
  have hlo := W.lo
  refine v79 g w s.2 h K ⟨G.inb W.lo W.hi, fun b1 b2 b3 h3 hb1 hb2 hb3 f3 hL3 => ?_⟩
  have f3 := f3.in_nil
  have l3 : b3 < h3.size := hL3.head.lt
  have l2 : b2 < h3.size := hL3.tail.head.lt
  have l1 : b1 < h3.size := hL3.tail.tail.head.lt
  have s3 := f3.size
  have G3 := G.low.no f3
  obtain ⟨si, c1, c2⟩ := G3.get W.lo W.hi
  refine ⟨si, c1, fun e h4 f4 hL4 => ?_, fun e => ?_⟩
  · simp only [decide_eq_true_eq] at e
    have f4 := f4.inIv (lo := h.size) (hi := h3.size) ⟨⟨hb3, l3⟩, trivial⟩
    exact HN (stepP_none W hp (by have := c2.len; omega)) h4 (f3.ivFresh f4 (Nat.le_refl _))
  · simp only [decide_eq_false_iff_not] at e
    have h0 : (xss[s.2.toNat]'hp).length ≠ 0 := by have := c2.len; omega
    have hst := stepP_some W hp hr h0
    have hm := Nat.mod_lt ((s.1[s.2.toNat]'hr).toNat + 1) (show 0 < (xss[s.2.toNat]'hp).length by omega)
    have hrot := W.rot _ hr hp
    have hbig := (graph_mem W.graph (List.getElem_mem hp)).1
    have hglen := graph_len W.graph
    have hw : w64 (s.1[s.2.toNat]'hr + 1) = s.1[s.2.toNat]'hr + 1 := w64_eq _ (by omega) (by omega)
    have hm2 : Int.tmod (s.1[s.2.toNat]'hr + 1) (si.n : Int) = ((((s.1[s.2.toNat]'hr).toNat + 1) % (xss[s.2.toNat]'hp).length : Nat) : Int) := by
      rw [tmod_nat (by omega) (by omega), c2.len]
      congr 2
      omega
    refine k_l1Own (H.no f3) (by have := W.len; omega) _ fun t h5 o5 f5 => ⟨t, rfl, hL3.of_no f5, (H.inb hlo (by omega)), fun b4 h7 hb4 f7 hL7 => ?_⟩
    have f7 := f7.in_nil
    have s5 := f5.size
    have s7 := f7.size
    have l4 : b4 < h7.size := hL7.head.lt
    have f07 := (f3.no_trans f5).no_trans f7
    have H7 := H.no f07
    have o7 := Ow.no o5 f7
    have hn7 : t.n = s.1.length := RdI.len o7.rdF
    refine ⟨_, H7.get hlo (by omega), by omega, o7.inb hlo (by omega), ?_⟩
    rw [hw, hm2]
    obtain ⟨w1, w2, w3⟩ := o7.store1 hlo (by omega) (VI ((((s.1[s.2.toNat]'hr).toNat + 1) % (xss[s.2.toNat]'hp).length : Nat) : Int))
    have w3' : Fr (Iv h3.size h5.size) h7 _ := w3.mono fun k _ hk => (o7.foot hk).1
    have hL8 := hL7.iv w3' ⟨.inr hb4, .inl l3, .inl l2, .inl l1, trivial⟩
    refine ⟨w1, hL8, fun h8 e8 _ => ?_⟩
    subst e8
    rw [← List.map_set] at w2
    have c2' := ((c2.no f5).no f7).fr w3' fun k hk hk2 => by have := hk2.1; omega
    have hq := c2'.get (i := ((((s.1[s.2.toNat]'hr).toNat + 1) % (xss[s.2.toNat]'hp).length : Nat) : Int)) (by omega) (by omega)
    simp only [Int.toNat_natCast] at hq
    refine ⟨c2'.inb (by omega) (by omega), _, hq, fun h10 f10 hL10 => ?_⟩
    have s8 := w3'.size
    have e1 : Fr No h h10 := by
      refine (f07.ivFresh w3' (by omega)).fresh f10 fun k hk => ?_
      simp only [In, List.mem_cons, List.not_mem_nil, or_false] at hk
      rcases hk with rfl | rfl <;> omega
    refine HS _ hst t h10 ?_ e1
    have s10 := f10.size
    refine (Ow.fr w2 f10 fun k hk hk2 => ?_).mono fun k _ hk => ⟨by have := hk.1; omega, by have := hk.2; omega⟩
    have := (o7.foot hk).1
    have h1 := this.1
    have h2 := this.2
    simp only [In, List.mem_cons, List.not_mem_nil, or_false] at hk2
    rcases hk2 with rfl | rfl <;> omega

def firstGo {τ : Type} (g : List (List Int)) (test : τ → St → Bool × τ) (frm : Int) : Nat → Int → τ → St → Int × Bool
  | 0, _, _, _ => (0, false)
  | f + 1, n, t, s =>
    if frm ≤ n then
      if (test t s).1 then (n, true)
      else match stepP g s with
        | none => (0, false)
        | some s' => firstGo g test frm f (n + 1) (test t s).2 s'
    else match stepP g s with
      | none => (0, false)
      | some s' => firstGo g test frm f (n + 1) t s'

theorem k_firstTime {τ : Type} (test : τ → St → Bool × τ) (C : τ → Heap → Prop) {S S' T : Nat → Prop} {h : Heap} {g w : Sl} {xss : List (List Int)} {s : St} (G : RdR S h g xss) (H : RdI S' h w s.1) (W : WOK xss s) (frm : Int) (so : Value) (t0 : τ) (hC0 : C t0 h)
    (hT : ∀ k, T k → k < h.size) (hST : ∀ k, S k → ¬ T k) (hC : ∀ t h1 h2, C t h1 → Fr (fun k => h.size ≤ k) h1 h2 → C t h2)
    (hso : ∀ t x (s' : St) h1 (K : Value → Heap → Prop), h.size ≤ h1.size → C t h1 → RdI (fun k => h.size ≤ k) h1 x s'.1 → WOK xss s' → (∀ h2, C (test t s').2 h2 → Fr T h1 h2 → K (VB (test t s').1) h2) → callV Try.prog so [.agg #[x.v, VI s'.2]] h1 K)
    (K : Value → Heap → Prop) (HK : ∀ h', Fr T h h' → K (.tuple #[VI (firstGo xss test frm 2001 0 t0 s).1, VB (firstGo xss test frm 2001 0 t0 s).2]) h') :
    callM Try.prog 82 #[.agg #[g.v], .agg #[w.v, VI s.2], VI frm, so] h K := by
  refine v82 g w s.2 frm so h K fun b1 b2 h2 hb1 hb2 f2 hL2 => ?_
  generalize hR : firstGo xss test frm 2001 0 t0 s = R at HK
  have f2 := f2.in_nil
  have l2 : b2 < h2.size := hL2.head.lt
  have l1 : b1 < h2.size := hL2.tail.head.lt
  have z2 := f2.size
  have hglen := graph_len W.graph
  refine k_copiedW (H.no f2) s.2 (by have := W.len; omega) _ fun u h3 o3 f3 => ⟨u, s.2, rfl, hL2.of_no f3, fun b3 h5 hb3 f5 hL5 => ?_⟩
  have f5 := f5.in_nil
  have l3 : b3 < h5.size := hL5.head.lt
  have s3 := f3.size
  have s5 := f5.size
  have f05 := (f2.no_trans f3).no_trans f5
  have hub : ¬ u.own b3 := fun hk => by have := (o3.foot hk).2; omega
  have o5 := Ow.no o3 f5
  have hfr : ∀ {h1 h2' : Heap}, Fr No h1 h2' → Fr (fun k => h.size ≤ k) h1 h2' := fun f => f.of_no
  refine ⟨fun n i x p h' => ∃ (t : τ) (s' : St), x = u ∧ p = s'.2 ∧ 0 ≤ i ∧ i + n = 2001 ∧ C t h' ∧ OwI h' (Iv h2.size h5.size) u s'.1 ∧ WOK xss s' ∧ Fr T h h' ∧ h5.size ≤ h'.size ∧ R = firstGo xss test frm n i t s', ⟨2001, t0, s, rfl, rfl, by omega, by omega, hC _ _ _ hC0 (hfr f05), o5.mono fun k _ hk => ⟨hk.1, Nat.lt_of_lt_of_le hk.2 s5⟩, W, f05.of_no, Nat.le_refl _, hR.symm⟩, ?_⟩
  rintro n i x p h6 ⟨t, s', rfl, rfl, i0, i1, c6, o6, W6, f6, z6, eq⟩ hL6
  -- a step, from wherever
  have stp : ∀ (t' : τ) (h7 : Heap) (m : Nat), n = m + 1 → C t' h7 → OwI h7 (Iv h2.size h5.size) x s'.1 → Vars h7 [(b3, [x.v, VI s'.2]), (b2, [w.v, VI s.2]), (b1, [g.v])] → Fr T h h7 → h5.size ≤ h7.size →
      (R = match stepP xss s' with
        | none => (0, false)
        | some s2 => firstGo xss test frm m (i + 1) t' s2) →
      ∀ K2 : Value → Heap → Prop, (∀ h', Fr T h h' → Vars h' [(b3, [x.v, VI s'.2]), (b2, [w.v, VI s.2]), (b1, [g.v])] → R = (0, false) → K2 (VB false) h') → (∀ s2 h', C t' h' → OwI h' (Iv h2.size h5.size) x s2.1 → WOK xss s2 → Vars h' [(b3, [x.v, VI s2.2]), (b2, [w.v, VI s.2]), (b1, [g.v])] → Fr T h h' → h5.size ≤ h'.size → R = firstGo xss test frm m (i + 1) t' s2 → K2 (VB true) h') →
      callM Try.prog 104 #[.agg #[g.v], VP b3 0] h7 K2 := by
    intro t' h7 m hn c7 o7 hL7 f7 z7 e7 K2 k1 k2
    have G7 : RdR (Iv 0 h2.size) h7 g xss := (G.lowS.fr f7 fun k hk hk2 => hST k hk.1 hk2).mono fun k hk => ⟨Nat.zero_le _, by have := hk.2; omega⟩
    refine k_step G7 hL7.head o7 (by omega) l3 hub W6 K2 (fun hs h8 f8 => ?_) fun s2 hs h8 o8 v8 f8 => ?_
    · rw [hs] at e7
      exact k1 h8 (f7.trans f8.of_no) (hL7.of_no f8) e7
    · rw [hs] at e7
      refine k2 s2 h8 (hC _ _ _ c7 (f8.mono fun k _ hk => Nat.le_trans z2 hk.1)) o8 (W6.step hs) (.cons v8 ?_ (hL7.tail.iv f8 ⟨.inl l2, .inl l1, trivial⟩)) (f7.fresh2 f8 fun k hk => Nat.le_trans z2 hk.1) (Nat.le_trans z7 f8.size) e7
      intro p hp
      simp only [List.mem_cons, List.not_mem_nil, or_false] at hp
      rcases hp with rfl | rfl <;> (simp only; omega)
  refine ⟨fun e => ⟨fun e2 => ?_, fun e2 => ?_⟩, fun e => ?_⟩
  · simp only [decide_eq_true_eq] at e e2
    obtain ⟨m, rfl⟩ : ∃ m, n = m + 1 := ⟨n - 1, by omega⟩
    rw [firstGo, if_pos e2] at eq
    refine hso t x s' h6 _ (by omega) c6 (o6.rdI.mono fun k hk => Nat.le_trans z2 hk.1) W6 fun h7 c7 f7 => ?_
    have hL7 := hL6.fr f7 fun p hp => by
      simp only [List.mem_cons, List.not_mem_nil, or_false] at hp
      rcases hp with rfl | rfl | rfl <;> exact fun hk => by have := hT _ hk; simp only at this; omega
    refine ⟨_, rfl, hL7, fun e3 => ?_, fun e3 => ?_⟩
    · rw [if_pos e3] at eq
      rw [eq] at HK
      exact HK h7 (f6.trans f7)
    · rw [if_neg (by simp [e3])] at eq
      refine stp _ h7 m rfl c7 (Ow.fr o6 f7 fun k hk hk2 => by have := hT _ hk2; have := (o6.foot hk).1.1; omega) hL7 (f6.trans f7) (Nat.le_trans z6 f7.size) eq _ (fun h8 f8 hL8 e8 => ?_) fun s2 h8 c8 o8 W8 hL8 f8 z8 e8 => ?_
      · refine ⟨x, s'.2, _, rfl, hL8, fun _ => ?_, fun e => by simp at e⟩
        rw [e8] at HK
        exact HK h8 f8
      · refine ⟨x, s2.2, _, rfl, hL8, fun e => by simp at e, fun _ => ?_⟩
        rw [w64_eq (i + 1) (by omega) (by omega)]
        exact ⟨m, by omega, _, s2, rfl, rfl, by omega, by omega, c8, o8, W8, f8, z8, e8⟩
  · simp only [decide_eq_true_eq] at e
    simp only [decide_eq_false_iff_not] at e2
    obtain ⟨m, rfl⟩ : ∃ m, n = m + 1 := ⟨n - 1, by omega⟩
    rw [firstGo, if_neg e2] at eq
    refine stp _ h6 m rfl c6 o6 hL6 f6 z6 eq _ (fun h8 f8 hL8 e8 => ?_) fun s2 h8 c8 o8 W8 hL8 f8 z8 e8 => ?_
    · refine ⟨x, s'.2, _, rfl, hL8, fun _ => ?_, fun e => by simp at e⟩
      rw [e8] at HK
      exact HK h8 f8
    · refine ⟨x, s2.2, _, rfl, hL8, fun e => by simp at e, fun _ => ?_⟩
      rw [w64_eq (i + 1) (by omega) (by omega)]
      exact ⟨m, by omega, _, s2, rfl, rfl, by omega, by omega, c8, o8, W8, f8, z8, e8⟩
  · simp only [decide_eq_false_iff_not] at e
    obtain rfl : n = 0 := by omega
    rw [eq] at HK
    exact HK h6 f6

def hitP (g : List (List Int)) (rs : List Int) (p q : Int) : Int × Bool :=
  if walkB g rs p && (graphB g && inR 0 ((g.length : Int) - 1) q) then firstGo g (fun (_ : Unit) s => (decide (s.2 = q), ())) 0 2001 0 () (rs, p) else (0, false)
theorem rdI_not {S : Nat → Prop} {h : Heap} {s : Sl} {xs : List Int} (H : RdI S h s xs) {b : Nat} (hb : h.size ≤ b) : RdI (fun k => k ≠ b) h s xs := H.low.mono fun k hk => by omega

def metT (met : List Bool) (s : St) : Bool × List Bool := (!((met.set s.2.toNat true).any (false == ·)), met.set s.2.toNat true)
def coverP (g : List (List Int)) (rs : List Int) (p : Int) : Int × Bool :=
  if walkB g rs p then firstGo g metT 0 2001 0 (List.replicate g.length false) (rs, p) else (0, false)

theorem k_Equal {S S' : Nat → Prop} {h : Heap} {a b : Sl} {xs ys : List Int} (H : RdI S h a xs) (H' : RdI S' h b ys) (K : Value → Heap → Prop) (HK : K (VB (decide (xs = ys))) h) : callM Try.prog 107 #[a.v, b.v] h K := by
  refine v107 a b h K ⟨fun e => ?_, fun e => ?_⟩
  · have e1 := not_t e
    rw [H.len, H'.len] at e1
    have : ¬ xs = ys := fun e2 => by subst e2; simp at e1
    rw [decide_eq_false this] at HK
    exact HK
  · have e1 := not_f e
    rw [H.len, H'.len] at e1
    have hl : xs.length = ys.length := by simp at e1; omega
    refine ⟨fun n i h' => h' = h ∧ 0 ≤ i ∧ i + n = (xs.length : Int) ∧ decide (xs = ys) = decide (xs.drop i.toNat = ys.drop i.toNat), ⟨xs.length, rfl, by omega, by omega, by simp⟩, ?_⟩
    rintro n i hh ⟨rfl, h0, h1, h2⟩ hL
    refine ⟨fun e => ?_, fun e => ?_⟩
    · have hi := H.lt e
      have hi' : i < (ys.length : Int) := by omega
      refine ⟨H.inb h0 hi, _, H.get h0 hi, H'.inb h0 hi', _, H'.get h0 hi', fun e => ?_, fun e => ?_⟩
      · rw [drop_cons xs h0 hi, drop_cons ys h0 hi'] at h2
        have e3 := not_t e
        simp only [decide_eq_false_iff_not] at e3
        rw [h2, decide_eq_false (fun e4 => e3 (List.cons.inj e4).1)] at HK
        exact HK
      · rw [drop_cons xs h0 hi, drop_cons ys h0 hi'] at h2
        have e3 := not_f e
        simp only [decide_eq_true_eq] at e3
        rw [H.succ h0 hi]
        refine ⟨n - 1, by omega, rfl, by omega, by omega, h2.trans ?_⟩
        rw [e3]
        simp
    · have hi := H.ge e
      rw [List.drop_of_length_le (by omega), List.drop_of_length_le (by omega)] at h2
      rw [h2] at HK
      exact HK

theorem k_is {S S' : Nat → Prop} {h : Heap} {a b : Sl} {xs ys : List Int} (H : RdI S h a xs) (H' : RdI S' h b ys) (p q : Int) : Ret Try.prog 87 #[.agg #[a.v, VI p], .agg #[b.v, VI q]] h (VB (decide (p = q ∧ xs = ys))) := by
  intro K HK
  refine v87 a p b q h K ⟨fun e b1 b2 h2 hb1 hb2 f2 hL2 => ?_, fun e b1 b2 h2 hb1 hb2 f2 hL2 => ?_⟩
  · simp only [decide_eq_true_eq] at e
    refine k_Equal (H.no f2.in_nil) (H'.no f2.in_nil) _ ⟨_, rfl, hL2, ?_⟩
    have e2 : decide (xs = ys) = decide (p = q ∧ xs = ys) := by simp [e]
    rw [e2]
    exact HK _ f2.in_nil
  · simp only [decide_eq_false_iff_not] at e
    rw [decide_eq_false (fun e2 => e e2.1)] at HK
    exact HK _ f2.in_nil

theorem k_waSame {S S' : Nat → Prop} {h : Heap} {a b : Sl} {xs ys : List Int} (H : RdI S h a xs) (H' : RdI S' h b ys) (p q : Int) : Ret Try.prog 106 #[.agg #[a.v, VI p], .agg #[b.v, VI q]] h (VB (decide (p = q ∧ xs = ys))) := by
  intro K HK
  refine v106 a p b q h K ⟨fun e b1 b2 h2 hb1 hb2 f2 hL2 => ?_, fun e => ⟨fun e1 b1 b2 h2 hb1 hb2 f2 hL2 => ?_, fun e1 b1 b2 h2 hb1 hb2 f2 hL2 => ?_⟩⟩
  · have e := not_t e
    simp only [decide_eq_false_iff_not] at e
    rw [decide_eq_false (fun e2 => e e2.1)] at HK
    exact HK _ f2.in_nil
  · have e1 := not_t e1
    rw [H.len, H'.len] at e1
    simp only [decide_eq_false_iff_not] at e1
    rw [decide_eq_false (fun e2 => e1 (by rw [e2.2]))] at HK
    exact HK _ f2.in_nil
  · have e := not_f e
    simp only [decide_eq_true_eq] at e
    have e1 := not_f e1
    rw [H.len, H'.len] at e1
    have hl : xs.length = ys.length := by simp at e1; omega
    have f2 := f2.in_nil
    have H2 := H.no f2
    have H2' := H'.no f2
    have HK2 := HK _ f2
    have e2 : decide (p = q ∧ xs = ys) = decide (xs = ys) := by simp [e]
    rw [e2] at HK2
    refine ⟨fun n i h' => h' = h2 ∧ 0 ≤ i ∧ i + n = (xs.length : Int) ∧ decide (xs = ys) = decide (xs.drop i.toNat = ys.drop i.toNat), ⟨xs.length, rfl, by omega, by omega, by simp⟩, ?_⟩
    rintro n i hh ⟨rfl, h0, h1, h3⟩ hL
    refine ⟨fun e => ?_, fun e => ?_⟩
    · have hi := H2.lt e
      have hi' : i < (ys.length : Int) := by omega
      refine ⟨H2.inb h0 hi, _, H2.get h0 hi, H2'.inb h0 hi', _, H2'.get h0 hi', fun e => ?_, fun e => ?_⟩
      · rw [drop_cons xs h0 hi, drop_cons ys h0 hi'] at h3
        have e3 := not_t e
        simp only [decide_eq_false_iff_not] at e3
        rw [h3, decide_eq_false (fun e4 => e3 (List.cons.inj e4).1)] at HK2
        exact HK2
      · rw [drop_cons xs h0 hi, drop_cons ys h0 hi'] at h3
        have e3 := not_f e
        simp only [decide_eq_true_eq] at e3
        rw [H2.succ h0 hi]
        refine ⟨n - 1, by omega, rfl, by omega, by omega, h3.trans ?_⟩
        rw [e3]
        simp
    · have hi := H2.ge e
      rw [List.drop_of_length_le (by omega), List.drop_of_length_le (by omega)] at h3
      rw [h3] at HK2
      exact HK2

def sameT (rs : List Int) (p : Int) (_ : Unit) (s : St) : Bool × Unit := (decide (p = s.2 ∧ rs = s.1), ())
def recP (g : List (List Int)) (rs : List Int) (p : Int) : Bool × Bool :=
  if walkB g rs p then ((firstGo g (sameT rs p) 1 2001 0 () (rs, p)).2, true) else (false, false)
theorem first_pos (g : List (List Int)) (test : Unit → St → Bool × Unit) : ∀ (f : Nat) (n : Int) (s : St), 0 ≤ n → (firstGo g test 1 f n () s).2 = decide (0 < (firstGo g test 1 f n () s).1)
  | 0, n, s, _ => by simp [firstGo]
  | f + 1, n, s, h => by
    rw [firstGo]
    split
    · split
      · have : 0 < n := by omega
        simp [this]
      · split
        · simp
        · exact first_pos g test f (n + 1) _ (by omega)
    · split
      · simp
      · exact first_pos g test f (n + 1) _ (by omega)

theorem k_IsRecurrent {S S' : Nat → Prop} {h : Heap} {g w : Sl} {xss : List (List Int)} {rs : List Int} (G : RdR S h g xss) (H : RdI S' h w rs) (p : Int) (K : Value → Heap → Prop) (HK : ∀ h', Fr No h h' → K (.tuple #[VB (recP xss rs p).1, VB (recP xss rs p).2]) h') : callM Try.prog 41 #[.agg #[g.v], .agg #[w.v, VI p]] h K := by
  refine v41 g w p h K fun b1 b2 h2 hb1 hb2 f2 hL2 => ?_
  have f2 := f2.in_nil
  refine k_isWalk (G.no f2) (H.no f2) p _ fun h3 f3 => ⟨_, rfl, hL2.of_no f3, fun e => ?_, fun e => ?_⟩
  · have e2 : recP xss rs p = (false, false) := by unfold recP; rw [if_neg (by rw [not_t e]; simp)]
    rw [e2] at HK
    exact HK h3 (f2.no_trans f3)
  have e := not_f e
  have e2 : recP xss rs p = ((firstGo xss (sameT rs p) 1 2001 0 () (rs, p)).2, true) := by unfold recP; rw [if_pos e]
  rw [e2] at HK
  have hL3 := hL2.of_no f3
  have f03 := f2.no_trans f3
  have W := wok_of e
  refine k_firstTime (S := S) (T := No) (s := (rs, p)) (sameT rs p) (fun _ h' => RdI (fun k => k < h3.size) h' w rs) (G.no f03) (H.no f03) W 1 _ () (H.no f03).low (fun _ h => h.elim) (fun _ _ h => h) (fun _ h1 h2 c f => c.fr f fun k hk hk2 => by omega) (fun t x s' h1 K z1 c1 r1 W1 HK => ?_) _ fun h7 f7 => ⟨_, _, rfl, hL3.of_no f7, HK h7 (f03.no_trans f7)⟩
  exact k_is c1 r1 p s'.2 K fun h2 f2 => HK h2 (c1.no f2) f2

theorem k_waAgain {S S' : Nat → Prop} {h : Heap} {g w : Sl} {xss : List (List Int)} {rs : List Int} (G : RdR S h g xss) (H : RdI S' h w rs) (p : Int) (W : WOK xss (rs, p)) (K : Value → Heap → Prop) (HK : ∀ h', Fr No h h' → K (VI (firstGo xss (sameT rs p) 1 2001 0 () (rs, p)).1) h') : callM Try.prog 86 #[.agg #[g.v], .agg #[w.v, VI p], VI 2000] h K := by
  refine v86 g w p 2000 h K fun b1 b2 b3 h4 hb1 hb2 hb3 f4 hL4 => ?_
  have f4 := f4.in_nil
  have l3 : b3 < h4.size := hL4.head.lt
  have z4 := f4.size
  have hR0 : firstGo xss (sameT rs p) 1 2001 0 () (rs, p) = match stepP xss (rs, p) with
      | none => (0, false)
      | some s' => firstGo xss (sameT rs p) 1 2000 1 () s' := by rw [firstGo, if_neg (by omega)]; rfl
  generalize hR : firstGo xss (sameT rs p) 1 2001 0 () (rs, p) = R at HK
  rw [hR] at hR0
  refine ⟨fun n i x y h' => ∃ s' : St, y = s'.2 ∧ 1 ≤ i ∧ i + n = 2001 ∧ RdI (fun k => k ≠ b3) h' x s'.1 ∧ WOK xss s' ∧ Fr No h h' ∧ h4.size ≤ h'.size ∧ R = (match stepP xss s' with
      | none => (0, false)
      | some s2 => firstGo xss (sameT rs p) 1 n i () s2), ⟨2000, (rs, p), rfl, by omega, by omega, (rdI_not H hb3).no f4, W, f4, Nat.le_refl _, hR0⟩, ?_⟩
  rintro n i x y h5 ⟨s', rfl, i0, i1, r5, W5, f5, z5, eq⟩ hL5
  refine ⟨fun e3 => ?_, fun e3 => ?_⟩
  · simp only [decide_eq_true_eq] at e3
    obtain ⟨m, rfl⟩ : ∃ m, n = m + 1 := ⟨n - 1, by omega⟩
    refine k_waStep (G.no f5) r5 W5 _ (fun hs h6 f6 => ⟨x, s'.2, false, rfl, hL5.of_no f6, fun _ b4 h8 hb4 f8 hL8 => ?_, fun e => by simp at e⟩) fun s2 hs t h6 o6 f6 => ⟨t, s2.2, true, rfl, hL5.of_no f6, fun e => by simp at e, fun _ b4 h9 hb4 f9 hL9 => ?_⟩
    · rw [hs] at eq
      simp only at eq
      rw [eq] at HK
      exact HK h8 ((f5.no_trans f6).no_trans f8.in_nil)
    · rw [hs] at eq
      simp only at eq
      rw [firstGo, if_pos i0] at eq
      have z6 := f6.size
      have z9 := f9.size
      have hb3' : ∀ k, In [b3] k → h.size ≤ k := fun k hk => by simp only [In, List.mem_cons, List.not_mem_nil, or_false] at hk; omega
      have f09 := (f5.no_trans f6).fresh f9 hb3'
      have r9 : RdI (fun k => k ≠ b3) h9 t s2.1 := (RdI.fr (o6.rdI) f9 fun k hk hk2 => by
        simp only [In, List.mem_cons, List.not_mem_nil, or_false] at hk2
        have := hk.1
        omega).mono fun k hk => by have := hk.1; omega
      refine k_waSame r9 (H.no f09) s2.2 p _ fun h10 f10 => ⟨_, rfl, hL9.of_no f10, fun e => ?_, fun e => ?_⟩
      · have e1 : (sameT rs p () s2).1 = true := by
          simp only [decide_eq_true_eq] at e
          simp [sameT, e.1, e.2]
        rw [if_pos e1] at eq
        rw [eq] at HK
        exact HK h10 (f09.no_trans f10)
      · have e1 : ¬ (sameT rs p () s2).1 = true := by
          simp only [decide_eq_false_iff_not] at e
          simp only [sameT, decide_eq_true_eq]
          exact fun h => e ⟨h.1.symm, h.2.symm⟩
        rw [if_neg e1] at eq
        rw [w64_eq (i + 1) (by omega) (by omega)]
        exact ⟨m, by omega, s2, rfl, by omega, by omega, r9.no f10, W5.step hs, f09.no_trans f10, by have := f10.size; omega, eq⟩
  · simp only [decide_eq_false_iff_not] at e3
    obtain rfl : n = 0 := by omega
    have : R = (0, false) := by
      rw [eq]
      split
      · rfl
      · rw [firstGo]
    rw [this] at HK
    exact HK h5 f5

theorem k_spec_IsRecurrent {S S' : Nat → Prop} {h : Heap} {g w : Sl} {xss : List (List Int)} {rs : List Int} (G : RdR S h g xss) (H : RdI S' h w rs) (p : Int) (K : Value → Heap → Prop) (HK : ∀ h', Fr No h h' → K (.tuple #[VB (recP xss rs p).1, VB (recP xss rs p).2]) h') : callM Try.prog 40 #[.agg #[g.v], .agg #[w.v, VI p]] h K := by
  refine v40 g w p h K fun b1 b2 h2 hb1 hb2 f2 hL2 => ?_
  have f2 := f2.in_nil
  refine k_spec_waGood (G.no f2) (H.no f2) p _ fun h3 f3 => ⟨_, rfl, hL2.of_no f3, fun e => ?_, fun e => ?_⟩
  · have e2 : recP xss rs p = (false, false) := by unfold recP; rw [if_neg (by rw [not_t e]; simp)]
    rw [e2] at HK
    exact HK h3 (f2.no_trans f3)
  have e := not_f e
  have e2 : recP xss rs p = ((firstGo xss (sameT rs p) 1 2001 0 () (rs, p)).2, true) := by unfold recP; rw [if_pos e]
  rw [e2, first_pos _ _ _ _ _ (by omega)] at HK
  have f03 := f2.no_trans f3
  exact k_waAgain (G.no f03) (H.no f03) p (wok_of e) _ fun h4 f4 => ⟨_, rfl, (hL2.of_no f3).of_no f4, HK h4 (f03.no_trans f4)⟩

theorem k_lawIsRecurrent {h : Heap} {S0 : Nat → Prop} {s0 : Sl} {x0 : List (List Int)} (G0 : RdR S0 h s0 x0) {S1 : Nat → Prop} {s1 : Sl} {x1 : List Int} (G1 : RdI S1 h s1 x1) (n2 : Int) : Ret Try.prog 9 #[.agg #[s0.v], .agg #[s1.v, VI n2]] h (VB true) := by
  intro K HK
  replace G0 := RdR.toIv G0
  replace G1 := RdI.toIv G1
  have fz : Fr No h h := Fr.refl _ _
  refine v9 s0 s1 n2 h K ?_
  have hL : Vars h [] := .nil
  intro b_1 b_2 h_2 hb_b_1 hb_b_2 f1 hL
  replace f1 := f1.in_nil
  have lt_b_1 : b_1 < h_2.size := (hL.tail).head.lt
  have lt_b_2 : b_2 < h_2.size := (hL).head.lt
  have z_f1 := f1.size
  replace G0 := RdR.no G0 f1
  replace G1 := RdI.no G1 f1
  replace fz := fz.no_trans f1
  refine g_szGraph G0 _ (by omega) (by omega) _ fun h_3 r2 f2 hr2 => ⟨r2, rfl, hL.of_no f2, ?_⟩
  replace hL := hL.of_no f2
  have z_f2 := f2.size
  replace G0 := RdR.no G0 f2
  replace G1 := RdI.no G1 f2
  replace fz := fz.no_trans f2
  refine ⟨fun e => ?_, fun e => ?_⟩
  · exact HK _ fz
  (try simp only [decide_eq_false_iff_not] at e)
  refine g_szWalk G1 _ _ (by omega) (by omega) _ fun h_4 r3 f3 hr3 => ⟨r3, rfl, hL.of_no f3, ?_⟩
  replace hL := hL.of_no f3
  have z_f3 := f3.size
  replace G0 := RdR.no G0 f3
  replace G1 := RdI.no G1 f3
  replace fz := fz.no_trans f3
  refine ⟨fun e => ?_, fun e => ?_⟩
  · exact HK _ fz
  (try simp only [decide_eq_false_iff_not] at e)
  refine g_toGraph G0 (by omega) _ fun u4_0 h_5 O4_0 f4 => ⟨u4_0, rfl, hL.of_no f4, ?_⟩
  replace hL := hL.of_no f4
  have z_f4 := f4.size
  replace G0 := RdR.no G0 f4
  replace G1 := RdI.no G1 f4
  replace fz := fz.no_trans f4
  refine g_toWalk G1 _ (by omega) _ fun u5_0 h_6 O5_0 f5 => ⟨u5_0, _, rfl, hL.of_no f5, ?_⟩
  replace hL := hL.of_no f5
  have z_f5 := f5.size
  replace G0 := RdR.no G0 f5
  replace G1 := RdI.no G1 f5
  replace O4_0 := OwR.no O4_0 f5
  replace fz := fz.no_trans f5
  refine k_spec_IsRecurrent (OwR.rdI O4_0) (Ow.rdI O5_0) _ _ fun  h_7  f6 => ⟨_, _, rfl, hL.of_no f6, ?_⟩
  replace hL := hL.of_no f6
  have z_f6 := f6.size
  replace G0 := RdR.no G0 f6
  replace G1 := RdI.no G1 f6
  replace O4_0 := OwR.no O4_0 f6
  replace O5_0 := Ow.no O5_0 f6
  replace fz := fz.no_trans f6
  refine g_toGraph G0 (by omega) _ fun u7_0 h_8 O7_0 f7 => ⟨u7_0, rfl, hL.of_no f7, ?_⟩
  replace hL := hL.of_no f7
  have z_f7 := f7.size
  replace G0 := RdR.no G0 f7
  replace G1 := RdI.no G1 f7
  replace O4_0 := OwR.no O4_0 f7
  replace O5_0 := Ow.no O5_0 f7
  replace fz := fz.no_trans f7
  intro b_3 h_10 hb_b_3 f8 hL
  replace f8 := f8.in_nil
  have lt_b_3 : b_3 < h_10.size := (hL).head.lt
  have z_f8 := f8.size
  replace G0 := RdR.no G0 f8
  replace G1 := RdI.no G1 f8
  replace O4_0 := OwR.no O4_0 f8
  replace O5_0 := Ow.no O5_0 f8
  replace O7_0 := OwR.no O7_0 f8
  replace fz := fz.no_trans f8
  refine g_toWalk G1 _ (by omega) _ fun u9_0 h_11 O9_0 f9 => ⟨u9_0, _, rfl, hL.of_no f9, ?_⟩
  replace hL := hL.of_no f9
  have z_f9 := f9.size
  replace G0 := RdR.no G0 f9
  replace G1 := RdI.no G1 f9
  replace O4_0 := OwR.no O4_0 f9
  replace O5_0 := Ow.no O5_0 f9
  replace O7_0 := OwR.no O7_0 f9
  replace fz := fz.no_trans f9
  intro b_4 h_13 hb_b_4 f10 hL
  replace f10 := f10.in_nil
  have lt_b_4 : b_4 < h_13.size := (hL).head.lt
  have z_f10 := f10.size
  replace G0 := RdR.no G0 f10
  replace G1 := RdI.no G1 f10
  replace O4_0 := OwR.no O4_0 f10
  replace O5_0 := Ow.no O5_0 f10
  replace O7_0 := OwR.no O7_0 f10
  replace O9_0 := Ow.no O9_0 f10
  replace fz := fz.no_trans f10
  refine k_IsRecurrent (OwR.rdI O7_0) (Ow.rdI O9_0) _ _ fun  h_14  f11 => ⟨_, _, rfl, hL.of_no f11, ?_⟩
  replace hL := hL.of_no f11
  have z_f11 := f11.size
  replace G0 := RdR.no G0 f11
  replace G1 := RdI.no G1 f11
  replace O4_0 := OwR.no O4_0 f11
  replace O5_0 := Ow.no O5_0 f11
  replace O7_0 := OwR.no O7_0 f11
  replace O9_0 := Ow.no O9_0 f11
  replace fz := fz.no_trans f11
  refine ⟨fun e => ?_, fun e => ?_⟩
  · first | (simp at e; done) | (simp only [decide_eq_true_eq] at e; omega)
  (try simp only [decide_eq_false_iff_not] at e)
  refine ⟨fun e => ?_, fun e => ?_⟩
  · first | (simp at e; done) | (simp only [decide_eq_true_eq] at e; omega)
  (try simp only [decide_eq_false_iff_not] at e)
  refine g_toGraph G0 (by omega) _ fun u12_0 h_15 O12_0 f12 => ⟨u12_0, rfl, hL.of_no f12, ?_⟩
  replace hL := hL.of_no f12
  have z_f12 := f12.size
  replace G0 := RdR.no G0 f12
  replace G1 := RdI.no G1 f12
  replace O4_0 := OwR.no O4_0 f12
  replace O5_0 := Ow.no O5_0 f12
  replace O7_0 := OwR.no O7_0 f12
  replace O9_0 := Ow.no O9_0 f12
  replace fz := fz.no_trans f12
  refine g_eqGraph (OwR.rdI O7_0) (OwR.rdI O12_0) _ fun h_16 f13 => ⟨_, rfl, hL.of_no f13, ?_⟩
  replace hL := hL.of_no f13
  have z_f13 := f13.size
  replace G0 := RdR.no G0 f13
  replace G1 := RdI.no G1 f13
  replace O4_0 := OwR.no O4_0 f13
  replace O5_0 := Ow.no O5_0 f13
  replace O7_0 := OwR.no O7_0 f13
  replace O9_0 := Ow.no O9_0 f13
  replace O12_0 := OwR.no O12_0 f13
  replace fz := fz.no_trans f13
  refine ⟨fun e => ?_, fun e => ?_⟩
  · first | (simp at e; done) | (simp only [decide_eq_true_eq] at e; omega)
  (try simp only [decide_eq_false_iff_not] at e)
  refine g_toWalk G1 _ (by omega) _ fun u14_0 h_17 O14_0 f14 => ⟨u14_0, _, rfl, hL.of_no f14, ?_⟩
  replace hL := hL.of_no f14
  have z_f14 := f14.size
  replace G0 := RdR.no G0 f14
  replace G1 := RdI.no G1 f14
  replace O4_0 := OwR.no O4_0 f14
  replace O5_0 := Ow.no O5_0 f14
  replace O7_0 := OwR.no O7_0 f14
  replace O9_0 := Ow.no O9_0 f14
  replace O12_0 := OwR.no O12_0 f14
  replace fz := fz.no_trans f14
  refine g_eqWalk (Ow.rdI O9_0) (Ow.rdI O14_0) _ fun h_18 f15 => ⟨_, rfl, hL.of_no f15, ?_⟩
  replace hL := hL.of_no f15
  have z_f15 := f15.size
  replace G0 := RdR.no G0 f15
  replace G1 := RdI.no G1 f15
  replace O4_0 := OwR.no O4_0 f15
  replace O5_0 := Ow.no O5_0 f15
  replace O7_0 := OwR.no O7_0 f15
  replace O9_0 := Ow.no O9_0 f15
  replace O12_0 := OwR.no O12_0 f15
  replace O14_0 := Ow.no O14_0 f15
  replace fz := fz.no_trans f15
  refine ⟨fun e => ?_, fun e => ?_⟩
  · first | (simp at e; done) | (simp only [decide_eq_true_eq] at e; omega)
  (try simp only [decide_eq_false_iff_not] at e)
  exact HK _ fz
end Go.Proofs.Ytkphbhochacllaa
