/-
  What each function that the law 'FnExactIsDesk' comes to does: the contracts.
-/
import Derived.Test.YtkphbhochacllaaIsDeskU
import Derived.Test.YtkphbhochacllaaM4
set_option linter.unusedVariables false
set_option linter.unusedSimpArgs false
namespace Go.Proofs.Ytkphbhochacllaa
open Go Go.Mx
@[reducible] def tI : TypeId := 3
@[reducible] def tIs : TypeId := 25
@[reducible] def tIss : TypeId := 22
theorem rIs : rowC Try.prog tIs = some (tI, 1, 8, [VI 0]) := by kernel_rfl
theorem rIss : rowC Try.prog tIss = some (tIs, 1, 24, [nilSl.v]) := by kernel_rfl
@[reducible] def OwI (h : Heap) (F : Nat → Prop) (s : Sl) (xs : List Int) : Prop := Ow h F tI 1 s (xs.map VI)
@[reducible] def OwX (h : Heap) (F : Nat → Prop) (s : Sl) (xss : List (List Int)) : Prop := OwR h F tIs tI s xss
theorem plainVI (xs : List Int) : (xs.map VI).all plainV = true := by simp [List.all_eq_true, plainV]

theorem k_bool {f : FuncId} {args : Array Value} {h : Heap} {v w : Value} (H : Ret Try.prog f args h v) (e : v = w) : Ret Try.prog f args h w := e ▸ H

theorem k_impl_in (n lo hi : Int) (h : Heap) (K : Value → Heap → Prop) (H : K (VB (decide (lo ≤ n) && decide (n ≤ hi))) h) : callM Try.prog 75 #[VI n, VI lo, VI hi] h K := by
  refine v75 n lo hi h K ⟨fun e => ?_, fun e => ?_⟩
  · rw [e, Bool.true_and] at H; exact H
  · rw [e, Bool.false_and] at H; exact H

theorem k_spec_l1In (n lo hi : Int) (h : Heap) (K : Value → Heap → Prop) (H : K (VB (decide (lo ≤ n) && decide (n ≤ hi))) h) : callM Try.prog 74 #[VI n, VI lo, VI hi] h K := by
  refine v74 n lo hi h K ⟨fun e => ?_, fun e => ?_⟩
  · rw [e, Bool.true_and] at H; exact H
  · rw [e, Bool.false_and] at H; exact H

def inR (lo hi x : Int) : Bool := decide (lo ≤ x) && decide (x ≤ hi)
def graphB (g : List (List Int)) : Bool := inR 1 8 g.length && g.all fun l => !decide (5 < (l.length : Int)) && l.all (inR 0 ((g.length : Int) - 1))
theorem not_t {b : Bool} (h : (!b) = true) : b = false := by simpa using h
theorem not_f {b : Bool} (h : (!b) = false) : b = true := by simpa using h

theorem k_spec_l1All {S : Nat → Prop} {h : Heap} {l : Sl} {xs : List Int} (H : RdI S h l xs) (lo hi_1 : Int) (K : Value → Heap → Prop) (HK : K (VB (xs.all (inR lo hi_1))) h) : callM Try.prog 108 #[l.v, VI lo, VI hi_1] h K := by
  refine v108 l lo hi_1 h K ?_
  refine ⟨fun n i h' => h' = h ∧ 0 ≤ i ∧ i + n = (xs.length : Int) ∧ xs.all (inR lo hi_1) = (xs.drop i.toNat).all (inR lo hi_1), ⟨xs.length, rfl, by omega, by omega, by simp⟩, ?_⟩
  rintro n i _ ⟨rfl, h0, h1, h2⟩ hL
  refine ⟨fun e => ?_, fun e => ?_⟩
  · have hi := H.lt e
    refine ⟨H.inb h0 hi, _, H.get h0 hi, ?_⟩
    rw [drop_cons xs h0 hi, List.all_cons] at h2
    refine k_spec_l1In _ _ _ _ _ ⟨_, rfl, hL, fun e2 => ?_, fun e2 => ?_⟩
    · have e3 : inR lo hi_1 (xs[i.toNat]'(by omega)) = false := not_t e2
      rw [h2, e3] at HK
      exact HK
    · have e3 : inR lo hi_1 (xs[i.toNat]'(by omega)) = true := not_f e2
      rw [e3, Bool.true_and] at h2
      rw [H.succ h0 hi]
      exact ⟨n - 1, by omega, rfl, by omega, by omega, h2⟩
  · have hi := H.ge e
    rw [List.drop_of_length_le (by omega)] at h2
    rw [h2] at HK
    exact HK

theorem k_spec_grGood {S : Nat → Prop} {h : Heap} {g : Sl} {xss : List (List Int)} (H : RdR S h g xss) : Ret Try.prog 97 #[.agg #[g.v]] h (VB (graphB xss)) := by
  intro K HK
  refine v97 g h K ?_
  intro b1 h1 hb1 hf1 hL1
  have f1 := hf1.in_nil
  have hlen := H.len
  refine k_spec_l1In _ _ _ _ _ ⟨_, rfl, hL1, fun e => ?_, fun e => ?_⟩
  · have e3 : inR 1 8 xss.length = false := by have := not_t e; rw [hlen] at this; exact this
    have : graphB xss = false := by unfold graphB; rw [e3]; rfl
    rw [← this]; exact HK _ f1
  · have e3 : inR 1 8 xss.length = true := by have := not_f e; rw [hlen] at this; exact this
    have hw : w64 ((g.n : Int) - 1) = (xss.length : Int) - 1 := by rw [hlen]; exact w64_eq _ (by omega) (by have := maxLen_lt H.big; omega)
    have hg : graphB xss = xss.all fun l => !decide (5 < (l.length : Int)) && l.all (inR 0 ((xss.length : Int) - 1)) := by unfold graphB; rw [e3]; rfl
    rw [hw]
    refine ⟨fun n i h' => Fr No h1 h' ∧ 0 ≤ i ∧ i + n = (xss.length : Int) ∧ graphB xss = (xss.drop i.toNat).all (fun l => !decide (5 < (l.length : Int)) && l.all (inR 0 ((xss.length : Int) - 1))), ⟨xss.length, Fr.refl _ _, by omega, by omega, by simp [hg]⟩, ?_⟩
    rintro n i h3 ⟨f3, h0, h2, h4⟩ hL
    have H3 := (H.no f1).no f3
    refine ⟨fun e => ?_, fun e => ?_⟩
    · have hi := H.lt e
      obtain ⟨si, hc, Hi⟩ := H3.get h0 hi
      refine ⟨H3.inb h0 hi, si, hc, fun e5 => ?_, fun e5 => ?_⟩
      · rw [drop_cons xss h0 hi, List.all_cons] at h4
        rw [Hi.len] at e5
        rw [e5] at h4
        have h5 : graphB xss = false := by rw [h4]; rfl
        rw [← h5]; exact HK _ (f1.trans f3)
      · rw [drop_cons xss h0 hi, List.all_cons] at h4
        rw [Hi.len] at e5
        rw [e5] at h4
        refine k_spec_l1All Hi _ _ _ ⟨_, rfl, hL, fun e6 => ?_, fun e6 => ?_⟩
        · rw [not_t e6] at h4
          have h5 : graphB xss = false := by rw [h4]; rfl
          rw [← h5]; exact HK _ (f1.trans f3)
        · rw [not_f e6] at h4
          rw [H.succ h0 hi]
          exact ⟨n - 1, by omega, f3, by omega, by omega, by rw [h4]; rfl⟩
    · have hi := H.ge e
      rw [List.drop_of_length_le (by omega)] at h4
      have h5 : graphB xss = true := by rw [h4]; rfl
      rw [← h5]; exact HK _ (f1.trans f3)

theorem k_IndexFunc {S : Nat → Prop} {h : Heap} {s : Sl} {xs : List Int} (H : RdI S h s xs) (f : Value) (p : Int → Bool) (hf : ∀ (x : Int) (K : Value → Heap → Prop), K (VB (p x)) h → callV Try.prog f [VI x] h K) (K : Value → Heap → Prop) (HK : ∀ r : Int, decide (0 ≤ r) = xs.any p → K (VI r) h) : callM Try.prog 110 #[s.v, f] h K := by
  refine v110 s f h K ⟨fun n i h' => h' = h ∧ 0 ≤ i ∧ i + n = (xs.length : Int) ∧ xs.any p = (xs.drop i.toNat).any p, ⟨xs.length, rfl, by omega, by omega, by simp⟩, ?_⟩
  rintro n i _ ⟨rfl, i0, i1, i2⟩ hL
  refine ⟨fun e => ?_, fun e => ?_⟩
  · have hi := H.lt e
    rw [drop_cons xs i0 hi, List.any_cons] at i2
    refine ⟨H.inb i0 hi, _, H.get i0 hi, hf _ _ ⟨_, rfl, .nil, fun e => ?_, fun e => ?_⟩⟩
    · rw [e, Bool.true_or] at i2
      exact HK _ (by rw [i2]; simpa using i0)
    · rw [e, Bool.false_or] at i2
      rw [H.succ i0 hi]
      exact ⟨n - 1, by omega, rfl, by omega, by omega, i2⟩
  · have hi := H.ge e
    rw [List.drop_of_length_le (by omega)] at i2
    exact HK _ (by rw [i2]; rfl)

theorem k_ContainsFunc {S : Nat → Prop} {h : Heap} {s : Sl} {xs : List Int} (H : RdI S h s xs) (f : Value) (p : Int → Bool) (hf : ∀ (x : Int) (K : Value → Heap → Prop), K (VB (p x)) h → callV Try.prog f [VI x] h K) (K : Value → Heap → Prop) (HK : K (VB (xs.any p)) h) : callM Try.prog 99 #[s.v, f] h K := by
  refine v99 s f h K (k_IndexFunc H f p hf _ fun r hr => ⟨r, rfl, .nil, ?_⟩)
  rw [hr]; exact HK

theorem k_isGraph1 {h : Heap} {b : Nat} {n : Int} (x : Int) {L : List (Nat × List Value)} (hL : Vars h ((b, [VI n]) :: L)) (K : Value → Heap → Prop) (HK : K (VB (!inR 0 (w64 (n - 1)) x)) h) : callV Try.prog (.func (.func 109) #[] #[VP b 0]) [VI x] h K := by
  refine v109 x b n h K (.cons hL.head (by simp) .nil) ?_
  refine k_impl_in _ _ _ _ _ ⟨_, rfl, .cons hL.head (by simp) .nil, ?_⟩
  exact HK

theorem k_has1 {h : Heap} {b : Nat} {g : Sl} (x : Int) {L : List (Nat × List Value)} (hL : Vars h ((b, [g.v]) :: L)) (K : Value → Heap → Prop) (HK : K (VB (!inR 0 (w64 (g.n - 1)) x)) h) : callV Try.prog (.func (.func 100) #[] #[VP b 0]) [VI x] h K := by
  refine v100 x b g h K (.cons hL.head (by simp) .nil) ?_
  refine k_impl_in _ _ _ _ _ ⟨_, rfl, .cons hL.head (by simp) .nil, ?_⟩
  exact HK

theorem graphB_eq {xss : List (List Int)} (e3 : inR 1 8 xss.length = true) : graphB xss = xss.all fun l => !decide (5 < (l.length : Int)) && l.all (inR 0 ((xss.length : Int) - 1)) := by unfold graphB; rw [e3]; rfl
theorem graphB_no {xss : List (List Int)} (e3 : inR 1 8 xss.length = false) : graphB xss = false := by unfold graphB; rw [e3]; rfl
theorem any_not {xs : List Int} {p : Int → Bool} : xs.any (fun x => !p x) = !xs.all p := by
  induction xs with
  | nil => rfl
  | cons x xs ih => simp only [List.any_cons, List.all_cons, ih, Bool.not_and]
theorem len_w64 {S : Nat → Prop} {h : Heap} {g : Sl} {xss : List (List Int)} (H : RdR S h g xss) : w64 ((g.n : Int) - 1) = (xss.length : Int) - 1 := by
  rw [H.len]
  have h1 := maxLen_lt H.big
  have h2 := H.len
  exact w64_eq _ (by omega) (by omega)

theorem k_isGraph {S : Nat → Prop} {h : Heap} {g : Sl} {xss : List (List Int)} (H : RdR S h g xss) : Ret Try.prog 98 #[.agg #[g.v]] h (VB (graphB xss)) := by
  intro K HK
  refine v98 g h K fun b1 b2 h1 hb1 hb2 hf1 hL1 => ?_
  have f1 := hf1.in_nil
  have hlen := H.len
  refine k_impl_in _ _ _ _ _ ⟨_, rfl, hL1, fun e => ?_, fun e => ?_⟩
  · have e3 : inR 1 8 xss.length = false := by have := not_t e; rw [hlen] at this; exact this
    rw [← graphB_no e3]; exact HK _ f1
  · have e3 : inR 1 8 xss.length = true := by have := not_f e; rw [hlen] at this; exact this
    have hg := graphB_eq e3
    refine ⟨fun n i x h' => h' = h1 ∧ x = (g.n : Int) ∧ 0 ≤ i ∧ i + n = (xss.length : Int) ∧ graphB xss = (xss.drop i.toNat).all (fun l => !decide (5 < (l.length : Int)) && l.all (inR 0 ((xss.length : Int) - 1))), ⟨xss.length, rfl, rfl, by omega, by omega, by simp [hg]⟩, ?_⟩
    rintro n i x _ ⟨rfl, rfl, h0, h2, h4⟩ hL
    have H3 := H.no f1
    refine ⟨fun e => ?_, fun e => ?_⟩
    · have hi := H.lt e
      obtain ⟨si, hc, Hi⟩ := H3.get h0 hi
      rw [drop_cons xss h0 hi, List.all_cons] at h4
      refine ⟨H3.inb h0 hi, si, hc, fun e5 => ?_, fun e5 => ?_⟩
      · rw [Hi.len] at e5
        rw [e5] at h4
        have h5 : graphB xss = false := by rw [h4]; rfl
        rw [← h5]; exact HK _ f1
      · rw [Hi.len] at e5
        rw [e5] at h4
        refine k_ContainsFunc Hi _ _ (fun x K HK => k_isGraph1 x hL K HK) _ ?_
        refine ⟨_, _, rfl, hL, fun e6 => ?_, fun e6 => ?_⟩
        · rw [any_not, len_w64 H] at e6
          rw [not_t e6] at h4
          have h5 : graphB xss = false := by rw [h4]; rfl
          rw [← h5]; exact HK _ f1
        · rw [any_not, len_w64 H] at e6
          rw [not_f e6] at h4
          rw [H.succ h0 hi]
          exact ⟨n - 1, by omega, rfl, rfl, by omega, by omega, by rw [h4]; rfl⟩
    · have hi := H.ge e
      rw [List.drop_of_length_le (by omega)] at h4
      have h5 : graphB xss = true := by rw [h4]; rfl
      rw [← h5]; exact HK _ f1

theorem k_has {S S' : Nat → Prop} {h : Heap} {g s : Sl} {xss : List (List Int)} {ps : List Int} (H : RdR S h g xss) (Hp : RdI S' h s ps) : Ret Try.prog 68 #[.agg #[g.v], s.v] h (VB (graphB xss && ps.all (inR 0 ((xss.length : Int) - 1)))) := by
  intro K HK
  refine v68 g s h K fun b1 h1 hb1 f1 hL1 => ?_
  have f1 := f1.in_nil
  refine k_isGraph (H.no f1) _ fun h2 f2 => ⟨_, rfl, hL1.of_no f2, fun e => ?_, fun e => ?_⟩
  · rw [e, Bool.true_and] at HK
    have hL2 := hL1.of_no f2
    refine k_ContainsFunc ((Hp.no f1).no f2) _ _ (fun x K HK => k_has1 x hL2 K HK) _ ?_
    refine ⟨_, _, rfl, hL2, ?_⟩
    rw [any_not, len_w64 H, Bool.not_not]
    exact HK _ (f1.trans f2)
  · rw [e, Bool.false_and] at HK
    exact HK _ (f1.trans f2)

theorem k_spec_grPlace {S : Nat → Prop} {h : Heap} {g : Sl} {xss : List (List Int)} (H : RdR S h g xss) (p : Int) : Ret Try.prog 64 #[.agg #[g.v], VI p] h (VB (graphB xss && inR 0 ((xss.length : Int) - 1) p)) := by
  intro K HK
  refine v64 g p h K fun b1 h1 hb1 f1 hL1 => ?_
  have f1 := f1.in_nil
  refine k_spec_grGood (H.no f1) _ fun h2 f2 => ⟨_, rfl, hL1.of_no f2, fun e => ?_, fun e => ?_⟩
  · rw [e, Bool.true_and] at HK
    refine k_spec_l1In _ _ _ _ _ ⟨_, rfl, hL1.of_no f2, ?_⟩
    rw [len_w64 H]
    exact HK _ (f1.trans f2)
  · rw [e, Bool.false_and] at HK
    exact HK _ (f1.trans f2)

theorem k_spec_l1Most (a b : Int) (h : Heap) (K : Value → Heap → Prop) (HK : K (VI (max a b)) h) : callM Try.prog 103 #[VI a, VI b] h K := by
  refine v103 a b h K ⟨fun e => ?_, fun e => ?_⟩
  · simp only [decide_eq_true_eq] at e
    rw [Int.max_eq_left (by omega)] at HK
    exact HK
  · simp only [decide_eq_false_iff_not] at e
    rw [Int.max_eq_right (by omega)] at HK
    exact HK

def rotB (l : List Int) (r : Int) : Bool := inR 0 (max ((l.length : Int) - 1) 0) r
def walkB (g : List (List Int)) (rs : List Int) (p : Int) : Bool := graphB g && inR 0 ((g.length : Int) - 1) p && decide (rs.length = g.length) && (g.zip rs).all fun q => rotB q.1 q.2
theorem walkB_no1 {g : List (List Int)} {rs : List Int} {p : Int} (e : (graphB g && inR 0 ((g.length : Int) - 1) p) = false) : walkB g rs p = false := by unfold walkB; rw [e]; rfl
theorem walkB_no2 {g : List (List Int)} {rs : List Int} {p : Int} (e : ¬ rs.length = g.length) : walkB g rs p = false := by unfold walkB; rw [decide_eq_false e]; simp
theorem walkB_eq {g : List (List Int)} {rs : List Int} {p : Int} (e : (graphB g && inR 0 ((g.length : Int) - 1) p) = true) (e2 : rs.length = g.length) : walkB g rs p = (g.zip rs).all fun q => rotB q.1 q.2 := by unfold walkB; rw [e, decide_eq_true e2]; rfl
theorem zip_drop (g : List (List Int)) (rs : List Int) {i : Int} (h0 : 0 ≤ i) (h1 : i < (g.length : Int)) (h2 : i < (rs.length : Int)) : (g.zip rs).drop i.toNat = (g[i.toNat]'(by omega), rs[i.toNat]'(by omega)) :: (g.zip rs).drop (i + 1).toNat := by
  have := drop_cons (g.zip rs) h0 (by simp; omega)
  simpa using this
theorem len_w64I {S : Nat → Prop} {h : Heap} {g : Sl} {xs : List Int} (H : RdI S h g xs) : w64 ((g.n : Int) - 1) = (xs.length : Int) - 1 := by
  rw [H.len]
  have h1 := maxLen_lt (RdV.big H)
  have h2 := H.len
  exact w64_eq _ (by omega) (by omega)

theorem k_isWalk {S S' : Nat → Prop} {h : Heap} {g s : Sl} {xss : List (List Int)} {rs : List Int} (G : RdR S h g xss) (H : RdI S' h s rs) (p : Int) : Ret Try.prog 81 #[.agg #[g.v], .agg #[s.v, VI p]] h (VB (walkB xss rs p)) := by
  intro K HK
  refine v81 g s p h K fun b1 b2 h1 hb1 hb2 f1 hL1 => ?_
  have f1 := f1.in_nil
  refine eop_lit rIs (fun k => h1.size ≤ k) (fun _ h => h) 1 (by omega) [VI p] rfl rfl fun t h2 n2 c2 o2 f2 l2 _ => ⟨t, rfl, hL1.of_no f2, ?_⟩
  have o2 : RdI (fun k => h1.size ≤ k) h2 t [p] := o2.rdF
  refine k_has ((G.no f1).no f2) o2 _ fun h3 f3 => ⟨_, rfl, (hL1.of_no f2).of_no f3, fun e => ?_, fun e => ?_⟩
  all_goals simp only [List.all_cons, List.all_nil, Bool.and_true] at e
  · rw [← walkB_no1 (rs := rs) (not_t e)]; exact HK _ ((f1.no_trans f2).no_trans f3)
  · have f13 := (f1.no_trans f2).no_trans f3
    rw [G.len, H.len]
    refine ⟨fun e2 => ?_, fun e2 => ?_⟩
    · have e3 := not_t e2
      simp only [decide_eq_false_iff_not] at e3
      rw [← walkB_no2 (g := xss) (rs := rs) (p := p) (by omega)]; exact HK _ f13
    · have e3 := not_f e2
      simp only [decide_eq_true_eq] at e3
      have e4 := walkB_eq (not_f e) (rs := rs) (by omega)
      have G3 := G.no f13
      have H3 := H.no f13
      refine ⟨fun n i h' => h' = h3 ∧ 0 ≤ i ∧ i + n = (xss.length : Int) ∧ walkB xss rs p = ((xss.zip rs).drop i.toNat).all fun q => rotB q.1 q.2, ⟨xss.length, rfl, by omega, by omega, by simpa using e4⟩, ?_⟩
      rintro n i _ ⟨rfl, i0, i1, i2⟩ hL
      refine ⟨fun e5 => ?_, fun e5 => ?_⟩
      · have hi : i < (rs.length : Int) := by simpa using e5
        have hi' : i < (xss.length : Int) := by omega
        obtain ⟨si, c1, c2⟩ := G3.get i0 hi'
        rw [zip_drop xss rs i0 hi' hi, List.all_cons] at i2
        refine ⟨H3.inb i0 hi, _, H3.get i0 hi, G3.inb i0 hi', si, c1, ?_⟩
        rw [len_w64I c2]
        refine pop_max _ _ _ _ ⟨_, rfl, k_impl_in _ _ _ _ _ ⟨_, rfl, hL, fun e6 => ?_, fun e6 => ?_⟩⟩
        · have e7 : rotB (xss[i.toNat]'(by omega)) (rs[i.toNat]'(by omega)) = false := not_t e6
          simp only at i2
          rw [e7] at i2
          have e8 : walkB xss rs p = false := by rw [i2]; rfl
          rw [← e8]; exact HK _ f13
        · have e7 : rotB (xss[i.toNat]'(by omega)) (rs[i.toNat]'(by omega)) = true := not_f e6
          simp only at i2
          rw [e7, Bool.true_and] at i2
          rw [H.succ i0 hi]
          exact ⟨n - 1, by omega, rfl, by omega, by omega, i2⟩
      · have hi : ¬ i < (rs.length : Int) := by simpa using e5
        rw [List.drop_of_length_le (by simp; omega)] at i2
        have e8 : walkB xss rs p = true := by rw [i2]; rfl
        rw [← e8]; exact HK _ f13

theorem k_spec_waGood {S S' : Nat → Prop} {h : Heap} {g s : Sl} {xss : List (List Int)} {rs : List Int} (G : RdR S h g xss) (H : RdI S' h s rs) (p : Int) : Ret Try.prog 78 #[.agg #[g.v], .agg #[s.v, VI p]] h (VB (walkB xss rs p)) := by
  intro K HK
  refine v78 g s p h K fun b1 b2 h1 hb1 hb2 f1 hL1 => ?_
  have f1 := f1.in_nil
  refine k_spec_grPlace (G.no f1) p _ fun h3 f3 => ⟨_, rfl, hL1.of_no f3, fun e => ?_, fun e => ?_⟩
  · rw [← walkB_no1 (rs := rs) (not_t e)]; exact HK _ (f1.no_trans f3)
  · have f13 := f1.no_trans f3
    rw [G.len, H.len]
    refine ⟨fun e2 => ?_, fun e2 => ?_⟩
    · have e3 := not_t e2
      simp only [decide_eq_false_iff_not] at e3
      rw [← walkB_no2 (g := xss) (rs := rs) (p := p) (by omega)]; exact HK _ f13
    · have e3 := not_f e2
      simp only [decide_eq_true_eq] at e3
      have e4 := walkB_eq (not_f e) (rs := rs) (by omega)
      have G3 := G.no f13
      have H3 := H.no f13
      refine ⟨fun n i h' => h' = h3 ∧ 0 ≤ i ∧ i + n = (xss.length : Int) ∧ walkB xss rs p = ((xss.zip rs).drop i.toNat).all fun q => rotB q.1 q.2, ⟨xss.length, rfl, by omega, by omega, by simpa using e4⟩, ?_⟩
      rintro n i _ ⟨rfl, i0, i1, i2⟩ hL
      refine ⟨fun e5 => ?_, fun e5 => ?_⟩
      · have hi' : i < (xss.length : Int) := by simpa using e5
        have hi : i < (rs.length : Int) := by omega
        obtain ⟨si, c1, c2⟩ := G3.get i0 hi'
        rw [zip_drop xss rs i0 hi' hi, List.all_cons] at i2
        refine ⟨G3.inb i0 hi', si, c1, H3.inb i0 hi, _, H3.get i0 hi, ?_⟩
        rw [len_w64I c2]
        refine k_spec_l1Most _ _ _ _ ⟨_, rfl, hL, H3.get i0 hi, ?_⟩
        rw [Int.max_comm]
        refine k_spec_l1In _ _ _ _ _ ⟨_, rfl, hL, fun e6 => ?_, fun e6 => ?_⟩
        · have e7 : rotB (xss[i.toNat]'(by omega)) (rs[i.toNat]'(by omega)) = false := not_t e6
          simp only at i2
          rw [e7] at i2
          have e8 : walkB xss rs p = false := by rw [i2]; rfl
          rw [← e8]; exact HK _ f13
        · have e7 : rotB (xss[i.toNat]'(by omega)) (rs[i.toNat]'(by omega)) = true := not_f e6
          simp only at i2
          rw [e7, Bool.true_and] at i2
          rw [G.succ i0 hi']
          exact ⟨n - 1, by omega, rfl, by omega, by omega, i2⟩
      · have hi : ¬ i < (xss.length : Int) := by simpa using e5
        rw [List.drop_of_length_le (by simp; omega)] at i2
        have e8 : walkB xss rs p = true := by rw [i2]; rfl
        rw [← e8]; exact HK _ f13

theorem k_isDesk {S S' : Nat → Prop} {h : Heap} {g s : Sl} {xss : List (List Int)} {rs : List Int} (G : RdR S h g xss) (H : RdI S' h s rs) (p : Int) : Ret Try.prog 62 #[.agg #[g.v, s.v, VI p]] h (VB (walkB xss rs p)) := by
  intro K HK
  refine v62 g s p h K fun b1 h1 hb1 f1 hL1 => ?_
  have f1 := f1.in_nil
  exact k_isWalk (G.no f1) (H.no f1) p _ fun h2 f2 => ⟨_, rfl, hL1.of_no f2, HK _ (f1.no_trans f2)⟩

theorem k_IsDesk {S S' : Nat → Prop} {h : Heap} {g s : Sl} {xss : List (List Int)} {rs : List Int} (G : RdR S h g xss) (H : RdI S' h s rs) (p : Int) : Ret Try.prog 23 #[.agg #[g.v, s.v, VI p]] h (VB (walkB xss rs p)) := by
  intro K HK
  refine v23 g s p h K fun b1 h1 hb1 f1 hL1 => ?_
  have f1 := f1.in_nil
  exact k_isDesk (G.no f1) (H.no f1) p _ fun h2 f2 => ⟨_, rfl, hL1.of_no f2, HK _ (f1.no_trans f2)⟩

theorem k_spec_coGood {S S' : Nat → Prop} {h : Heap} {g s : Sl} {xss : List (List Int)} {rs : List Int} (G : RdR S h g xss) (H : RdI S' h s rs) (p : Int) : Ret Try.prog 61 #[.agg #[g.v, s.v, VI p]] h (VB (walkB xss rs p)) := by
  intro K HK
  refine v61 g s p h K fun b1 h1 hb1 f1 hL1 => ?_
  have f1 := f1.in_nil
  refine k_spec_grGood (G.no f1) _ fun h2 f2 => ⟨_, rfl, hL1.of_no f2, fun e => ?_, fun e => ?_⟩
  · exact k_spec_waGood ((G.no f1).no f2) ((H.no f1).no f2) p _ fun h3 f3 => ⟨_, rfl, (hL1.of_no f2).of_no f3, HK _ ((f1.no_trans f2).no_trans f3)⟩
  · rw [← walkB_no1 (g := xss) (rs := rs) (p := p) (by rw [e]; rfl)]
    exact HK _ (f1.no_trans f2)

theorem k_spec_IsDesk {S S' : Nat → Prop} {h : Heap} {g s : Sl} {xss : List (List Int)} {rs : List Int} (G : RdR S h g xss) (H : RdI S' h s rs) (p : Int) : Ret Try.prog 21 #[.agg #[g.v, s.v, VI p]] h (VB (walkB xss rs p)) := by
  intro K HK
  refine v21 g s p h K fun b1 h1 hb1 f1 hL1 => ?_
  have f1 := f1.in_nil
  exact k_spec_coGood (G.no f1) (H.no f1) p _ fun h2 f2 => ⟨_, rfl, hL1.of_no f2, HK _ (f1.no_trans f2)⟩

theorem loopI {S : Nat → Prop} {h : Heap} {s : Sl} {xs : List Int} (H : RdI S h s xs) : (xs.length : Int) ≤ maxLen := by have := H.len; have := H.big; omega

theorem k_eqIntS {S S' : Nat → Prop} {h : Heap} {a b : Sl} {xs ys : List Int} (H : RdI S h a xs) (H' : RdI S' h b ys) (K : Value → Heap → Prop) (HK : K (VB (decide (xs = ys))) h) : callM Try.prog 53 #[a.v, b.v] h K := by
  refine v53 a b h K ⟨fun e => ?_, fun e => ?_⟩
  · have e1 := not_t e
    rw [H.len, H'.len] at e1
    have : ¬ xs = ys := fun e2 => by subst e2; simp at e1
    rw [decide_eq_false this] at HK
    exact HK
  · have e1 := not_f e
    rw [H.len, H'.len] at e1
    have hl : xs.length = ys.length := by simp at e1; omega
    refine ⟨fun n i h' => h' = h ∧ 0 ≤ i ∧ i + n = (xs.length : Int) ∧ decide (xs = ys) = decide (xs.drop i.toNat = ys.drop i.toNat), ⟨xs.length, rfl, by omega, by omega, by simp⟩, ?_⟩
    rintro n i _ ⟨rfl, h0, h1, h2⟩ hL
    refine ⟨fun e => ?_, fun e => ?_⟩
    · have hi := H.lt e
      have hi' : i < (ys.length : Int) := by omega
      refine ⟨H.inb h0 hi, _, H.get h0 hi, H'.inb h0 hi', _, H'.get h0 hi', fun e => ?_, fun e => ?_⟩
      · rw [drop_cons xs h0 hi, drop_cons ys h0 hi'] at h2
        have e3 := not_t e
        simp only [decide_eq_false_iff_not] at e3
        rw [h2, decide_eq_false (fun e4 => e3 (List.cons.inj e4).1)] at HK
        exact HK
      · rw [drop_cons xs h0 hi, drop_cons ys h0 hi'] at h2
        have e3 := not_f e
        simp only [decide_eq_true_eq] at e3
        rw [H.succ h0 hi]
        refine ⟨n - 1, by omega, rfl, by omega, by omega, h2.trans ?_⟩
        rw [e3]
        simp
    · have hi := H.ge e
      rw [List.drop_of_length_le (by omega), List.drop_of_length_le (by omega)] at h2
      rw [h2] at HK
      exact HK

theorem k_eqIntSS {S S' : Nat → Prop} {h : Heap} {a b : Sl} {xs ys : List (List Int)} (H : RdR S h a xs) (H' : RdR S' h b ys) (K : Value → Heap → Prop) (HK : K (VB (decide (xs = ys))) h) : callM Try.prog 71 #[a.v, b.v] h K := by
  refine v71 a b h K ⟨fun e => ?_, fun e => ?_⟩
  · have e1 := not_t e
    rw [H.len, H'.len] at e1
    have : ¬ xs = ys := fun e2 => by subst e2; simp at e1
    rw [decide_eq_false this] at HK
    exact HK
  · have e1 := not_f e
    rw [H.len, H'.len] at e1
    have hl : xs.length = ys.length := by simp at e1; omega
    refine ⟨fun n i h' => h' = h ∧ 0 ≤ i ∧ i + n = (xs.length : Int) ∧ decide (xs = ys) = decide (xs.drop i.toNat = ys.drop i.toNat), ⟨xs.length, rfl, by omega, by omega, by simp⟩, ?_⟩
    rintro n i _ ⟨rfl, h0, h1, h2⟩ hL
    refine ⟨fun e => ?_, fun e => ?_⟩
    · have hi := H.lt e
      have hi' : i < (ys.length : Int) := by omega
      obtain ⟨x, cx, rx⟩ := H.get h0 hi
      obtain ⟨y, cy, ry⟩ := H'.get h0 hi'
      refine ⟨H.inb h0 hi, x, cx, H'.inb h0 hi', y, cy, k_eqIntS rx ry _ ⟨_, rfl, hL, fun e => ?_, fun e => ?_⟩⟩
      · rw [drop_cons xs h0 hi, drop_cons ys h0 hi'] at h2
        have e3 := not_t e
        simp only [decide_eq_false_iff_not] at e3
        rw [h2, decide_eq_false (fun e4 => e3 (List.cons.inj e4).1)] at HK
        exact HK
      · rw [drop_cons xs h0 hi, drop_cons ys h0 hi'] at h2
        have e3 := not_f e
        simp only [decide_eq_true_eq] at e3
        rw [H.succ h0 hi]
        refine ⟨n - 1, by omega, rfl, by omega, by omega, h2.trans ?_⟩
        rw [e3]
        simp
    · have hi := H.ge e
      rw [List.drop_of_length_le (by omega), List.drop_of_length_le (by omega)] at h2
      rw [h2] at HK
      exact HK

theorem k_eqGraph {S S' : Nat → Prop} {h : Heap} {a b : Sl} {xs ys : List (List Int)} (H : RdR S h a xs) (H' : RdR S' h b ys) : Ret Try.prog 28 #[.agg #[a.v], .agg #[b.v]] h (VB (decide (xs = ys))) := by
  intro K HK
  refine v28 a b h K fun b1 b2 h1 hb1 hb2 f1 hL1 => ?_
  refine k_eqIntSS (H.no f1.in_nil) (H'.no f1.in_nil) _ ⟨_, rfl, hL1, fun e => ?_, fun e => ?_⟩
  · rw [← not_t e]; exact HK _ f1.in_nil
  · rw [← not_f e]; exact HK _ f1.in_nil

theorem k_eqWalk {S S' : Nat → Prop} {h : Heap} {a b : Sl} {xs ys : List Int} (H : RdI S h a xs) (H' : RdI S' h b ys) (p q : Int) : Ret Try.prog 37 #[.agg #[a.v, VI p], .agg #[b.v, VI q]] h (VB (decide (xs = ys ∧ p = q))) := by
  intro K HK
  refine v37 a p b q h K fun b1 b2 h1 hb1 hb2 f1 hL1 => ?_
  refine k_eqIntS (H.no f1.in_nil) (H'.no f1.in_nil) _ ⟨_, rfl, hL1, fun e => ?_, fun e => ?_⟩
  · have e3 := not_t e
    simp only [decide_eq_false_iff_not] at e3
    rw [decide_eq_false fun e4 => e3 e4.1] at HK
    exact HK _ f1.in_nil
  · have e3 := not_f e
    simp only [decide_eq_true_eq] at e3
    refine ⟨fun e => ?_, fun e => ?_⟩
    · have e5 := not_t e
      simp only [decide_eq_false_iff_not] at e5
      rw [decide_eq_false fun e4 => e5 e4.2] at HK
      exact HK _ f1.in_nil
    · have e5 := not_f e
      simp only [decide_eq_true_eq] at e5
      rw [decide_eq_true ⟨e3, e5⟩] at HK
      exact HK _ f1.in_nil

theorem k_eqDesk {S S' T T' : Nat → Prop} {h : Heap} {a b c d : Sl} {xss yss : List (List Int)} {xs ys : List Int} (G : RdR S h a xss) (G' : RdR S' h b yss) (H : RdI T h c xs) (H' : RdI T' h d ys) (p q : Int) : Ret Try.prog 17 #[.agg #[a.v, c.v, VI p], .agg #[b.v, d.v, VI q]] h (VB (decide (xss = yss ∧ xs = ys ∧ p = q))) := by
  intro K HK
  refine v17 a c p b d q h K fun b1 b2 h1 hb1 hb2 f1 hL1 => ?_
  have f1 := f1.in_nil
  refine k_eqGraph (G.no f1) (G'.no f1) _ fun h2 f2 => ⟨_, rfl, hL1.of_no f2, fun e => ?_, fun e => ?_⟩
  · have e3 := not_t e
    simp only [decide_eq_false_iff_not] at e3
    rw [decide_eq_false fun e4 => e3 e4.1] at HK
    exact HK _ (f1.trans f2)
  · have e3 := not_f e
    simp only [decide_eq_true_eq] at e3
    have f12 := f1.no_trans f2
    refine k_eqWalk (H.no f12) (H'.no f12) p q _ fun h3 f3 => ⟨_, rfl, (hL1.of_no f2).of_no f3, fun e => ?_, fun e => ?_⟩
    · have e5 := not_t e
      simp only [decide_eq_false_iff_not] at e5
      rw [decide_eq_false fun e4 => e5 e4.2] at HK
      exact HK _ (f12.trans f3)
    · have e5 := not_f e
      simp only [decide_eq_true_eq] at e5
      rw [decide_eq_true ⟨e3, e5⟩] at HK
      exact HK _ (f12.trans f3)

def numI (k : Int) : List Int → List Int
  | [] => []
  | _ :: xs => k :: numI (k + 1) xs
theorem numI_length : ∀ (k : Int) (xs : List Int), (numI k xs).length = xs.length
  | _, [] => rfl
  | k, _ :: xs => by simp [numI, numI_length (k + 1) xs]
theorem numI_get : ∀ (xs : List Int) (k : Int) (i : Nat) (h : i < (numI k xs).length), (numI k xs)[i] = k + i
  | [], k, i, h => by simp [numI] at h
  | x :: xs, k, 0, h => by simp [numI]
  | x :: xs, k, i + 1, h => by
    simp only [numI, List.getElem_cons_succ]
    rw [numI_get xs (k + 1) i]
    omega
def totR (xss : List (List Int)) : Nat := (xss.map List.length).sum
def numR (k : Int) : List (List Int) → List (List Int)
  | [] => []
  | xs :: xss => numI k xs :: numR (k + xs.length) xss
theorem numR_length : ∀ (k : Int) (xss : List (List Int)), (numR k xss).length = xss.length
  | _, [] => rfl
  | k, xs :: xss => by simp [numR, numR_length (k + xs.length) xss]
theorem numR_get : ∀ (xss : List (List Int)) (k : Int) (i : Nat) (h : i < (numR k xss).length) (h' : i < xss.length), (numR k xss)[i] = numI (k + totR (xss.take i)) xss[i]
  | [], k, i, h, _ => by simp [numR] at h
  | x :: xs, k, 0, h, _ => by simp [numR, totR]
  | x :: xs, k, i + 1, h, h' => by
    simp only [numR, List.getElem_cons_succ]
    rw [numR_get xs _ i (by simpa [numR] using h) (by simpa using h')]
    congr 1
    simp [totR]
    omega
theorem totR_take_le : ∀ (xss : List (List Int)) (i : Nat), totR (xss.take i) ≤ totR xss
  | [], i => by simp [totR]
  | x :: xs, 0 => by simp [totR]
  | x :: xs, i + 1 => by
    have := totR_take_le xs i
    simp only [totR, List.take_succ_cons, List.map_cons, List.sum_cons] at *
    omega
theorem totR_snoc (xss : List (List Int)) (i : Nat) (h : i < xss.length) : totR (xss.take (i + 1)) = totR (xss.take i) + xss[i].length := by
  rw [List.take_succ_eq_append_getElem h]
  simp only [totR, List.map_append, List.sum_append, List.map_cons, List.map_nil, List.sum_cons, List.sum_nil]
  omega

def firstXs : List (List Int) := [[1, 2], [0, 2], [0]]
def DeskIs (h h' : Heap) (v : Value) : Prop := ∃ (g w : Sl) (m : Nat), v = .agg #[g.v, w.v, VI 0] ∧ OwX h' (fun k => h.size ≤ k ∧ k < m) g firstXs ∧ OwI h' (fun k => h.size ≤ k ∧ m ≤ k) w [0, 0, 0] ∧ Fr No h h'
theorem own_lt {h : Heap} {F : Nat → Prop} {e : TypeId} {sz : Nat} {s : Sl} {vs : List Value} (H : Ow h F e sz s vs) {n : Nat} (hn : h.size ≤ n) : ∀ k, s.own k → k < n := fun k hk => Nat.lt_of_lt_of_le (H.foot hk).2 hn
theorem lit_first {h1 : Heap} {K : Value → Heap → Prop} (HK : ∀ (g : Sl) (h' : Heap), OwX h' (fun k => h1.size ≤ k) g firstXs → Fr No h1 h' → K g.v h') :
    eop Try.prog (Instr.buildSlice tIs 2 #[(0, VI 1), (1, VI 2)]) h1 fun rv_1 h_2 => ∃ t1_1 : Sl, rv_1 = t1_1.v ∧ Fr No h1 h_2 ∧
    eop Try.prog (Instr.buildSlice tIs 2 #[(0, VI 0), (1, VI 2)]) h_2 fun rv_2 h_3 => ∃ t2_1 : Sl, rv_2 = t2_1.v ∧ Fr No h_2 h_3 ∧
    eop Try.prog (Instr.buildSlice tIs 1 #[(0, VI 0)]) h_3 fun rv_3 h_4 => ∃ t3_1 : Sl, rv_3 = t3_1.v ∧ Fr No h_3 h_4 ∧
    eop Try.prog (Instr.buildSlice tIss 3 #[(0, t1_1.v), (1, t2_1.v), (2, t3_1.v)]) h_4 K := by
  refine eop_lit rIs (fun k => h1.size ≤ k) (fun _ h => h) 2 (by omega) [VI 1, VI 2] rfl rfl fun t1 h2 n1 c1 o1 f1 l1 _ => ⟨t1, rfl, f1, ?_⟩
  refine eop_lit rIs (fun k => h1.size ≤ k) (fun _ h => Nat.le_trans f1.size h) 2 (by omega) [VI 0, VI 2] rfl rfl fun t2 h3 n2 c2 o2 f2 l2 _ => ⟨t2, rfl, f2, ?_⟩
  have f13 := f1.no_trans f2
  refine eop_lit rIs (fun k => h1.size ≤ k) (fun _ h => Nat.le_trans f13.size h) 1 (by omega) [VI 0] rfl rfl fun t3 h4 n3 c3 o3 f3 l3 _ => ⟨t3, rfl, f3, ?_⟩
  have f14 := f13.no_trans f3
  refine eop_lit rIss (fun k => h1.size ≤ k) (fun _ h => Nat.le_trans f14.size h) 3 (by omega) [t1.v, t2.v, t3.v] rfl rfl fun t4 h5 n4 c4 o4 f4 l4 _ => ?_
  have g1 := own_lt o1 (Nat.le_refl _)
  have g2 := own_lt o2 (Nat.le_refl _)
  have g3 := own_lt o3 (Nat.le_refl _)
  have s3 := f2.size
  have s4 := f3.size
  refine HK t4 h5 (OwR.of [t1, t2, t3] rfl o4 ?_ ?_ ?_) (f14.trans f4)
  · intro p hp
    simp only [firstXs, List.zip_cons_cons, List.zip_nil_right, List.mem_cons, List.not_mem_nil, or_false] at hp
    rcases hp with rfl | rfl | rfl
    · exact ((o1.no f2).no f3).no f4
    · exact (o2.no f3).no f4
    · exact o3.no f4
  · simp only [List.pairwise_cons, List.mem_cons, List.not_mem_nil, or_false, forall_eq_or_imp, forall_eq, List.Pairwise.nil, and_true]
    refine ⟨⟨fun k a b => ?_, fun k a b => ?_⟩, fun k a b => ?_, by simp⟩
    · have := g1 k a; have := l2 k b; omega
    · have := g1 k a; have := l3 k b; omega
    · have := g2 k a; have := l3 k b; omega
  · intro a ha k hk hk2
    have := l4 k hk
    simp only [List.mem_cons, List.not_mem_nil, or_false] at ha
    rcases ha with rfl | rfl | rfl
    · have := g1 k hk2; omega
    · have := g2 k hk2; omega
    · have := g3 k hk2; omega

theorem k_szIntS {S : Nat → Prop} {h : Heap} {s : Sl} {xs : List Int} (H : RdI S h s xs) (left : Int) (h0 : 0 ≤ left) (h1 : left ≤ 1048576) (K : Value → Heap → Prop) (HK : ∀ r : Int, r = -1 ∨ (0 ≤ r ∧ r = left - xs.length) → K (VI r) h) : callM Try.prog 77 #[s.v, VI left] h K := by
  have hb := maxLen_lt (RdV.big H)
  have e := H.len
  have hw : w64 (left - s.n) = left - s.n := w64_eq _ (by omega) (by omega)
  refine v77 s left h K ⟨fun _ => HK _ (.inl rfl), fun e2 => HK _ (.inr ?_)⟩
  rw [hw] at e2 ⊢
  simp only [decide_eq_false_iff_not] at e2
  omega

theorem k_szIntSS {S : Nat → Prop} {h : Heap} {s : Sl} {xss : List (List Int)} (H : RdR S h s xss) (left : Int) (h0 : 0 ≤ left) (h1 : left ≤ 1048576) (K : Value → Heap → Prop) (HK : ∀ r : Int, r = -1 ∨ (0 ≤ r ∧ r = left - xss.length - totR xss) → K (VI r) h) : callM Try.prog 63 #[s.v, VI left] h K := by
  have hb := maxLen_lt H.big
  have e := H.len
  have hw : w64 (left - s.n) = left - s.n := w64_eq _ (by omega) (by omega)
  refine v63 s left h K ⟨fun _ => HK _ (.inl rfl), fun e2 => ?_⟩
  rw [hw] at e2 ⊢
  simp only [decide_eq_false_iff_not] at e2
  refine ⟨fun n l i h' => h' = h ∧ 0 ≤ i ∧ i + n = (xss.length : Int) ∧ l = left - xss.length - totR (xss.take i.toNat) ∧ 0 ≤ l, ⟨xss.length, rfl, by omega, by omega, by simp [totR]; omega, by omega⟩, ?_⟩
  rintro n l i _ ⟨rfl, i0, i1, rfl, l0⟩ hL
  refine ⟨fun e => ?_, fun e => ?_⟩
  · have hi := H.lt e
    obtain ⟨si, c1, c2⟩ := H.get i0 hi
    have hsn := totR_snoc xss i.toNat (by omega)
    refine ⟨H.inb i0 hi, si, c1, k_szIntS c2 _ l0 (by omega) _ fun r hr => ⟨r, rfl, .nil, fun _ => HK _ (.inl rfl), fun e3 => ?_⟩⟩
    simp only [decide_eq_false_iff_not] at e3
    rw [H.succ i0 hi]
    exact ⟨n - 1, by omega, rfl, by omega, by omega, by rw [toNat_succ i0, hsn]; omega, by omega⟩
  · have hi := H.ge e
    have e4 : i = xss.length := by omega
    refine HK _ (.inr ⟨l0, ?_⟩)
    rw [e4]
    simp

theorem k_szGraph {S : Nat → Prop} {h : Heap} {s : Sl} {xss : List (List Int)} (H : RdR S h s xss) (left : Int) (h0 : 0 ≤ left) (h1 : left ≤ 1048576) (K : Value → Heap → Prop) (HK : ∀ (h' : Heap) (r : Int), Fr No h h' → r = -1 ∨ (0 ≤ r ∧ r = left - xss.length - totR xss) → K (VI r) h') : callM Try.prog 24 #[.agg #[s.v], VI left] h K := by
  refine v24 s left h K fun b1 h1' hb1 f1 hL1 => ?_
  refine k_szIntSS (H.no f1.in_nil) left h0 h1 _ fun r hr => ⟨r, rfl, hL1, fun e => HK _ _ f1.in_nil (.inl rfl), fun e => HK _ _ f1.in_nil hr⟩

theorem k_szWalk {S : Nat → Prop} {h : Heap} {s : Sl} {xs : List Int} (H : RdI S h s xs) (p left : Int) (h0 : 0 ≤ left) (h1 : left ≤ 1048576) (K : Value → Heap → Prop) (HK : ∀ (h' : Heap) (r : Int), Fr No h h' → r = -1 ∨ (0 ≤ r ∧ r = left - xs.length) → K (VI r) h') : callM Try.prog 33 #[.agg #[s.v, VI p], VI left] h K := by
  refine v33 s p left h K fun b1 h1' hb1 f1 hL1 => ?_
  refine k_szIntS (H.no f1.in_nil) left h0 h1 _ fun r hr => ⟨r, rfl, hL1, fun e => HK _ _ f1.in_nil (.inl rfl), fun e => HK _ _ f1.in_nil hr⟩

theorem k_szDesk {S S' : Nat → Prop} {h : Heap} {s t : Sl} {xss : List (List Int)} {xs : List Int} (G : RdR S h s xss) (H : RdI S' h t xs) (p left : Int) (h0 : 0 ≤ left) (h1 : left ≤ 1048576) (K : Value → Heap → Prop) (HK : ∀ (h' : Heap) (r : Int), Fr No h h' → r = -1 ∨ (0 ≤ r ∧ r = left - xss.length - totR xss - xs.length) → K (VI r) h') : callM Try.prog 20 #[.agg #[s.v, t.v, VI p], VI left] h K := by
  refine v20 s t p left h K fun b1 h1' hb1 f1 hL1 => ?_
  have f1 := f1.in_nil
  refine k_szGraph (G.no f1) left h0 h1 _ fun h2 r f2 hr => ⟨r, rfl, hL1.of_no f2, fun e => HK _ _ (f1.no_trans f2) (.inl rfl), fun e => ?_⟩
  simp only [decide_eq_false_iff_not] at e
  refine k_szWalk ((H.no f1).no f2) p r (by omega) (by omega) _ fun h3 q f3 hq => ⟨q, rfl, (hL1.of_no f2).of_no f3, fun e => HK _ _ ((f1.no_trans f2).no_trans f3) (.inl rfl), fun e2 => HK _ _ ((f1.no_trans f2).no_trans f3) ?_⟩
  simp only [decide_eq_false_iff_not] at e2
  exact .inr (by omega)

theorem k_toIntS {S : Nat → Prop} {h : Heap} {s : Sl} {xs : List Int} (H : RdI S h s xs) (hn : xs.length ≤ 1000000000000) (K : Value → Heap → Prop) (HK : ∀ t h', OwI h' (fun k => h.size ≤ k) t xs → Fr No h h' → K t.v h') : callM Try.prog 80 #[s.v] h K := by
  have hl := H.len
  refine v80 s h K ?_
  refine eop_make rIs (fun k => h.size ≤ k) (fun _ h => h) .i64 .i64 s.n s.n (Nat.le_refl _) (by omega) fun t h1 n1 c1 o1 f1 l1 _ => ⟨t, rfl, .nil, ?_⟩
  have o1 : OwI h1 (fun k => h.size ≤ k) t (List.replicate xs.length 0) := by
    have e : (List.replicate s.n [VI 0]).flatten = (List.replicate xs.length (0 : Int)).map VI := by rw [H.len]; simp [List.flatten_replicate_singleton]
    rw [e] at o1; exact o1
  refine ⟨fun n i h' => 0 ≤ i ∧ i + n = (xs.length : Int) ∧ OwI h' (fun k => h.size ≤ k) t (xs.take i.toNat ++ (List.replicate xs.length (0 : Int)).drop i.toNat) ∧ Fr t.own h1 h', ⟨xs.length, by omega, by omega, by simpa using o1, Fr.refl _ _⟩, ?_⟩
  rintro n i h2 ⟨i0, i1, o2, f2⟩ hL
  have H2 := H.on f1 f2 l1
  refine ⟨fun e => ?_, fun e => ?_⟩
  · have hi := H.lt e
    obtain ⟨w1, w2, w3⟩ := o2.store1 i0 (by omega) (VI (xs[i.toNat]'(by omega)))
    refine ⟨H2.inb i0 hi, _, H2.get i0 hi, o2.inb i0 (by omega), w1, .nil, fun h3 e3 _ => ?_⟩
    subst e3
    rw [← List.map_set, set_mid _ _ _ _ (by simp; omega)] at w2
    rw [H.succ i0 hi]
    exact ⟨n - 1, by omega, by omega, by omega, by rw [toNat_succ i0]; exact w2, f2.trans w3⟩
  · have hi := H.ge e
    have e4 : i = xs.length := by omega
    subst e4
    exact HK t h2 (by simpa using o2) (f1.fresh f2 l1)

theorem k_toIntSS {S : Nat → Prop} {h : Heap} {s : Sl} {xss : List (List Int)} (H : RdR S h s xss) (hn : xss.length ≤ 1000000000000) (hm : totR xss ≤ 1000000000000) (K : Value → Heap → Prop) (HK : ∀ t h', OwX h' (fun k => h.size ≤ k) t xss → Fr No h h' → K t.v h') : callM Try.prog 67 #[s.v] h K := by
  have hl := H.len
  refine v67 s h K ?_
  refine eop_make rIss (fun k => h.size ≤ k) (fun _ h => h) .i64 .i64 s.n s.n (Nat.le_refl _) (by omega) fun t h1 n1 c1 o1 f1 l1 _ => ⟨t, rfl, .nil, ?_⟩
  have o1 : OwX h1 (fun k => h.size ≤ k) t (List.replicate xss.length []) := OwR.zeros _ (by rw [hl] at o1; exact o1)
  refine ⟨fun n i h' => 0 ≤ i ∧ i + n = (xss.length : Int) ∧ OwX h' (fun k => h.size ≤ k) t (xss.take i.toNat ++ (List.replicate xss.length []).drop i.toNat) ∧ Fr No h h', ⟨xss.length, by omega, by omega, by simpa using o1, f1⟩, ?_⟩
  rintro n i h2 ⟨i0, i1, o2, f2⟩ hL
  have H2 := H.no f2
  refine ⟨fun e => ?_, fun e => ?_⟩
  · have hi := H.lt e
    obtain ⟨si, c1, c2⟩ := H2.get i0 hi
    have hlen : (xss.take i.toNat ++ (List.replicate xss.length ([] : List Int)).drop i.toNat).length = xss.length := by simp; omega
    have hsz : (xss[i.toNat]'(by omega)).length ≤ totR xss := by
      have h1 := totR_snoc xss i.toNat (by omega)
      have h2 := totR_take_le xss (i.toNat + 1)
      omega
    refine ⟨H2.inb i0 hi, si, c1, k_toIntS c2 (by omega) _ fun x h3 o3 f3 => ⟨x, rfl, .nil, ?_⟩⟩
    have o2' := (o2.mono (F' := fun k => h.size ≤ k ∧ k < h2.size) fun k hk hF => ⟨hF, hk⟩).no f3
    obtain ⟨sj, d1, d2, _⟩ := o2'.inner i0 (by omega)
    have s2 := f2.size
    obtain ⟨w1, w2, w3⟩ := o2'.outer i0 (by omega) d1 (F' := fun k => h.size ≤ k) (o3.mono fun k _ hk => by omega) (fun k _ hk => hk.1) (fun k hk => .inr fun hk2 => by have := (o3.foot hk).1; omega)
    refine ⟨o2'.rd.inb i0 (by omega), w1, .nil, fun h4 e4 _ => ?_⟩
    subst e4
    rw [set_mid _ _ _ _ (by simp; omega)] at w2
    rw [H.succ i0 hi]
    exact ⟨n - 1, by omega, by omega, by omega, by rw [toNat_succ i0]; exact w2, (f2.no_trans f3).fresh w3 fun k hk => by
      obtain ⟨ss, _, h5, _⟩ := o2'.out
      exact (h5.foot hk).1.1⟩
  · have hi := H.ge e
    have e4 : i = xss.length := by omega
    subst e4
    exact HK t h2 (by simpa using o2) f2

theorem k_toGraph {S : Nat → Prop} {h : Heap} {s : Sl} {xss : List (List Int)} (H : RdR S h s xss) (hn : xss.length ≤ 1000000000000) (hm : totR xss ≤ 1000000000000) (K : Value → Heap → Prop) (HK : ∀ t h', OwX h' (fun k => h.size ≤ k) t xss → Fr No h h' → K (.agg #[t.v]) h') : callM Try.prog 26 #[.agg #[s.v]] h K := by
  refine v26 s h K fun b1 b2 b3 h1 hb1 hb2 hb3 f1 hL1 => ?_
  have f1 := f1.in_nil
  refine k_toIntSS (H.no f1) hn hm _ fun t h2 o2 f2 => ⟨t, rfl, hL1.of_no f2, fun h3 f3 hL3 => ?_⟩
  have l3 : b3 < h1.size := hL1.head.lt
  have l2 : b2 < h1.size := hL1.tail.head.lt
  have s1 := f1.size
  refine HK t h3 ((o2.fr f3 fun k _ hk => In.off (n := h1.size) (by simp; omega) hk).mono fun k _ hk => by omega) ((f1.no_trans f2).fresh f3 (in_ge (by simp; omega)))

theorem k_toWalk {S : Nat → Prop} {h : Heap} {s : Sl} {xs : List Int} (H : RdI S h s xs) (p : Int) (hn : xs.length ≤ 1000000000000) (K : Value → Heap → Prop) (HK : ∀ t h', OwI h' (fun k => h.size ≤ k) t xs → Fr No h h' → K (.agg #[t.v, VI p]) h') : callM Try.prog 35 #[.agg #[s.v, VI p]] h K := by
  refine v35 s p h K fun b1 b2 b3 h1 hb1 hb2 hb3 f1 hL1 => ?_
  have f1 := f1.in_nil
  refine k_toIntS (H.no f1) hn _ fun t h2 o2 f2 => ⟨t, rfl, hL1.of_no f2, fun h3 f3 hL3 => ?_⟩
  have l3 : b3 < h1.size := hL1.head.lt
  have l2 : b2 < h1.size := hL1.tail.head.lt
  have s1 := f1.size
  refine HK t h3 ((Ow.fr o2 f3 fun k hk => In.off (n := h1.size) (by simp; omega) (o2.foot hk).1).mono fun k _ hk => by omega) ((f1.no_trans f2).fresh f3 (in_ge (by simp; omega)))

theorem k_toDesk {S S' : Nat → Prop} {h : Heap} {s t : Sl} {xss : List (List Int)} {xs : List Int} (G : RdR S h s xss) (H : RdI S' h t xs) (p : Int) (hn : xss.length ≤ 1000000000000) (hm : totR xss ≤ 1000000000000) (hk : xs.length ≤ 1000000000000) (K : Value → Heap → Prop)
    (HK : ∀ s' t' m h', OwX h' (fun k => h.size ≤ k ∧ k < m) s' xss → OwI h' (fun k => h.size ≤ k ∧ m ≤ k) t' xs → Fr No h h' → K (.agg #[s'.v, t'.v, VI p]) h') : callM Try.prog 22 #[.agg #[s.v, t.v, VI p]] h K := by
  refine v22 s t p h K fun b1 b2 b3 h1 hb1 hb2 hb3 f1 hL1 => ?_
  have f1 := f1.in_nil
  have l3 : b3 < h1.size := hL1.head.lt
  have l2 : b2 < h1.size := hL1.tail.head.lt
  have s1 := f1.size
  refine k_toGraph (G.no f1) hn hm _ fun s' h2 o2 f2 => ⟨s', rfl, hL1.of_no f2, fun h3 f3 hL3 => ?_⟩
  have s2 := f2.size
  have f03 : Fr No h h3 := (f1.no_trans f2).fresh f3 (in_ge (by simp; omega))
  have s3 := f3.size
  refine k_toWalk (H.no f03) p hk _ fun t' h4 o4 f4 => ⟨t', p, rfl, hL3.of_no f4, fun h5 f5 hL5 => ?_⟩
  have o3 := (o2.mono (F' := fun k => h1.size ≤ k ∧ k < h3.size) fun k hk hF => ⟨hF, by omega⟩).fr f3 fun k _ hk => In.off (n := h1.size) (by simp; omega) hk.1
  have s4 := f4.size
  refine HK s' t' h3.size h5 (((o3.no f4).fr f5 fun k _ hk => In.off (n := h1.size) (by simp; omega) hk.1).mono fun k _ hk => by omega) ((Ow.fr o4 f5 fun k hk => In.off (n := h1.size) (by simp; omega) (Nat.le_trans (by omega) (o4.foot hk).1)).mono fun k _ hk => by omega) ((f03.no_trans f4).fresh f5 (in_ge (by simp; omega)))

theorem k_lawIsDesk {S S' : Nat → Prop} {h : Heap} {g s : Sl} {xss : List (List Int)} {rs : List Int} (G : RdR S h g xss) (H : RdI S' h s rs) (p : Int) : Ret Try.prog 4 #[.agg #[g.v, s.v, VI p]] h (VB true) := by
  intro K HK
  refine v4 g s p h K fun b1 h1 hb1 f1 hL1 => ?_
  have f1 := f1.in_nil
  refine k_szDesk (G.no f1) (H.no f1) p _ (by omega) (by omega) _ fun h2 r f2 hr => ⟨r, rfl, hL1.of_no f2, fun e => HK _ (f1.no_trans f2), fun e => ?_⟩
  simp only [decide_eq_false_iff_not] at e
  have c1 : xss.length ≤ 1000000000000 := by omega
  have c2 : totR xss ≤ 1000000000000 := by omega
  have c3 : rs.length ≤ 1000000000000 := by omega
  have f := f1.no_trans f2
  have hL := hL1.of_no f2
  refine k_toDesk (G.no f) (H.no f) p c1 c2 c3 _ fun g3 s3 m3 h3 G3 H3 f3 => ⟨g3, s3, p, rfl, hL.of_no f3, ?_⟩
  have f := f.no_trans f3
  have hL := hL.of_no f3
  refine k_spec_IsDesk G3.rd H3.rd p _ fun h4 f4 => ⟨_, rfl, hL.of_no f4, ?_⟩
  have f := f.no_trans f4
  have hL := hL.of_no f4
  refine k_toDesk (G.no f) (H.no f) p c1 c2 c3 _ fun g5 s5 m5 h5 G5 H5 f5 => ⟨g5, s5, p, rfl, hL.of_no f5, fun b2 h6 hb2 f6 hL => ?_⟩
  have f6 := f6.in_nil
  have f := (f.no_trans f5).no_trans f6
  refine k_IsDesk (G5.rd.no f6) ((Ow.rd H5).no f6) p _ fun h7 f7 => ⟨_, rfl, hL.of_no f7, fun e => ?_, fun e => ?_⟩
  · simp at e
  have f := f.no_trans f7
  have hL := hL.of_no f7
  refine k_toDesk (G.no f) (H.no f) p c1 c2 c3 _ fun g8 s8 m8 h8 G8 H8 f8 => ⟨g8, s8, p, rfl, hL.of_no f8, ?_⟩
  have f58 := (f6.no_trans f7).no_trans f8
  have f := f.no_trans f8
  have hL := hL.of_no f8
  refine k_eqDesk (G5.rd.no f58) G8.rd ((Ow.rd H5).no f58) H8.rd p p _ fun h9 f9 => ⟨_, rfl, hL.of_no f9, fun e => ?_, fun e => ?_⟩
  · simp at e
  exact HK _ (f.no_trans f9)
end Go.Proofs.Ytkphbhochacllaa
