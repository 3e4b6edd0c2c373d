/-
  What each function that the law 'FnExactUsesOf' comes to does: the contracts.
-/
import Derived.Test.YtjinpagnbflmiaaUsesOfU
import Derived.Test.YtjinpagnbflmiaaM4
set_option linter.unusedVariables false
set_option linter.unusedSimpArgs false
namespace Go.Proofs.Ytjinpagnbflmiaa
open Go Go.Mx
@[reducible] def tI : TypeId := 3
@[reducible] def tIs : TypeId := 25
@[reducible] def tIss : TypeId := 22
theorem rIs : rowC Try.prog tIs = some (tI, 1, 8, [VI 0]) := by kernel_rfl
theorem rIss : rowC Try.prog tIss = some (tIs, 1, 24, [nilSl.v]) := by kernel_rfl
@[reducible] def OwI (h : Heap) (F : Nat → Prop) (s : Sl) (xs : List Int) : Prop := Ow h F tI 1 s (xs.map VI)
@[reducible] def OwX (h : Heap) (F : Nat → Prop) (s : Sl) (xss : List (List Int)) : Prop := OwR h F tIs tI s xss
theorem plainVI (xs : List Int) : (xs.map VI).all plainV = true := by simp [List.all_eq_true, plainV]

theorem k_bool {f : FuncId} {args : Array Value} {h : Heap} {v w : Value} (H : Ret Try.prog f args h v) (e : v = w) : Ret Try.prog f args h w := e ▸ H

theorem k_impl_in (n lo hi : Int) (h : Heap) (K : Value → Heap → Prop) (H : K (VB (decide (lo ≤ n) && decide (n ≤ hi))) h) : callM Try.prog 110 #[VI n, VI lo, VI hi] h K := by
  refine v110 n lo hi h K ⟨fun e => ?_, fun e => ?_⟩
  · rw [e, Bool.true_and] at H; exact H
  · rw [e, Bool.false_and] at H; exact H

theorem k_spec_l1In (n lo hi : Int) (h : Heap) (K : Value → Heap → Prop) (H : K (VB (decide (lo ≤ n) && decide (n ≤ hi))) h) : callM Try.prog 109 #[VI n, VI lo, VI hi] h K := by
  refine v109 n lo hi h K ⟨fun e => ?_, fun e => ?_⟩
  · rw [e, Bool.true_and] at H; exact H
  · rw [e, Bool.false_and] at H; exact H

def inR (lo hi x : Int) : Bool := decide (lo ≤ x) && decide (x ≤ hi)
def graphB (g : List (List Int)) : Bool := inR 1 8 g.length && g.all fun l => !decide (5 < (l.length : Int)) && l.all (inR 0 ((g.length : Int) - 1))
theorem not_t {b : Bool} (h : (!b) = true) : b = false := by simpa using h
theorem not_f {b : Bool} (h : (!b) = false) : b = true := by simpa using h

theorem k_spec_l1All {S : Nat → Prop} {h : Heap} {l : Sl} {xs : List Int} (H : RdI S h l xs) (lo hi_1 : Int) (K : Value → Heap → Prop) (HK : K (VB (xs.all (inR lo hi_1))) h) : callM Try.prog 97 #[l.v, VI lo, VI hi_1] h K := by
  refine v97 l lo hi_1 h K ?_
  refine ⟨fun n i h' => h' = h ∧ 0 ≤ i ∧ i + n = (xs.length : Int) ∧ xs.all (inR lo hi_1) = (xs.drop i.toNat).all (inR lo hi_1), ⟨xs.length, rfl, by omega, by omega, by simp⟩, ?_⟩
  rintro n i _ ⟨rfl, h0, h1, h2⟩ hL
  refine ⟨fun e => ?_, fun e => ?_⟩
  · have hi := H.lt e
    refine ⟨H.inb h0 hi, _, H.get h0 hi, ?_⟩
    rw [drop_cons xs h0 hi, List.all_cons] at h2
    refine k_spec_l1In _ _ _ _ _ ⟨_, rfl, hL, fun e2 => ?_, fun e2 => ?_⟩
    · have e3 : inR lo hi_1 (xs[i.toNat]'(by omega)) = false := not_t e2
      rw [h2, e3] at HK
      exact HK
    · have e3 : inR lo hi_1 (xs[i.toNat]'(by omega)) = true := not_f e2
      rw [e3, Bool.true_and] at h2
      rw [H.succ h0 hi]
      exact ⟨n - 1, by omega, rfl, by omega, by omega, h2⟩
  · have hi := H.ge e
    rw [List.drop_of_length_le (by omega)] at h2
    rw [h2] at HK
    exact HK

theorem k_spec_grGood {S : Nat → Prop} {h : Heap} {g : Sl} {xss : List (List Int)} (H : RdR S h g xss) : Ret Try.prog 119 #[.agg #[g.v]] h (VB (graphB xss)) := by
  intro K HK
  refine v119 g h K ?_
  intro b1 h1 hb1 hf1 hL1
  have f1 := hf1.in_nil
  have hlen := H.len
  refine k_spec_l1In _ _ _ _ _ ⟨_, rfl, hL1, fun e => ?_, fun e => ?_⟩
  · have e3 : inR 1 8 xss.length = false := by have := not_t e; rw [hlen] at this; exact this
    have : graphB xss = false := by unfold graphB; rw [e3]; rfl
    rw [← this]; exact HK _ f1
  · have e3 : inR 1 8 xss.length = true := by have := not_f e; rw [hlen] at this; exact this
    have hw : w64 ((g.n : Int) - 1) = (xss.length : Int) - 1 := by rw [hlen]; exact w64_eq _ (by omega) (by have := maxLen_lt H.big; omega)
    have hg : graphB xss = xss.all fun l => !decide (5 < (l.length : Int)) && l.all (inR 0 ((xss.length : Int) - 1)) := by unfold graphB; rw [e3]; rfl
    rw [hw]
    refine ⟨fun n i h' => Fr No h1 h' ∧ 0 ≤ i ∧ i + n = (xss.length : Int) ∧ graphB xss = (xss.drop i.toNat).all (fun l => !decide (5 < (l.length : Int)) && l.all (inR 0 ((xss.length : Int) - 1))), ⟨xss.length, Fr.refl _ _, by omega, by omega, by simp [hg]⟩, ?_⟩
    rintro n i h3 ⟨f3, h0, h2, h4⟩ hL
    have H3 := (H.no f1).no f3
    refine ⟨fun e => ?_, fun e => ?_⟩
    · have hi := H.lt e
      obtain ⟨si, hc, Hi⟩ := H3.get h0 hi
      refine ⟨H3.inb h0 hi, si, hc, fun e5 => ?_, fun e5 => ?_⟩
      · rw [drop_cons xss h0 hi, List.all_cons] at h4
        rw [Hi.len] at e5
        rw [e5] at h4
        have h5 : graphB xss = false := by rw [h4]; rfl
        rw [← h5]; exact HK _ (f1.trans f3)
      · rw [drop_cons xss h0 hi, List.all_cons] at h4
        rw [Hi.len] at e5
        rw [e5] at h4
        refine k_spec_l1All Hi _ _ _ ⟨_, rfl, hL, fun e6 => ?_, fun e6 => ?_⟩
        · rw [not_t e6] at h4
          have h5 : graphB xss = false := by rw [h4]; rfl
          rw [← h5]; exact HK _ (f1.trans f3)
        · rw [not_f e6] at h4
          rw [H.succ h0 hi]
          exact ⟨n - 1, by omega, f3, by omega, by omega, by rw [h4]; rfl⟩
    · have hi := H.ge e
      rw [List.drop_of_length_le (by omega)] at h4
      have h5 : graphB xss = true := by rw [h4]; rfl
      rw [← h5]; exact HK _ (f1.trans f3)

theorem k_IndexFunc {S : Nat → Prop} {h : Heap} {s : Sl} {xs : List Int} (H : RdI S h s xs) (f : Value) (p : Int → Bool) (hf : ∀ (x : Int) (K : Value → Heap → Prop), K (VB (p x)) h → callV Try.prog f [VI x] h K) (K : Value → Heap → Prop) (HK : ∀ r : Int, decide (0 ≤ r) = xs.any p → K (VI r) h) : callM Try.prog 138 #[s.v, f] h K := by
  refine v138 s f h K ⟨fun n i h' => h' = h ∧ 0 ≤ i ∧ i + n = (xs.length : Int) ∧ xs.any p = (xs.drop i.toNat).any p, ⟨xs.length, rfl, by omega, by omega, by simp⟩, ?_⟩
  rintro n i _ ⟨rfl, i0, i1, i2⟩ hL
  refine ⟨fun e => ?_, fun e => ?_⟩
  · have hi := H.lt e
    rw [drop_cons xs i0 hi, List.any_cons] at i2
    refine ⟨H.inb i0 hi, _, H.get i0 hi, hf _ _ ⟨_, rfl, .nil, fun e => ?_, fun e => ?_⟩⟩
    · rw [e, Bool.true_or] at i2
      exact HK _ (by rw [i2]; simpa using i0)
    · rw [e, Bool.false_or] at i2
      rw [H.succ i0 hi]
      exact ⟨n - 1, by omega, rfl, by omega, by omega, i2⟩
  · have hi := H.ge e
    rw [List.drop_of_length_le (by omega)] at i2
    exact HK _ (by rw [i2]; rfl)

theorem k_ContainsFunc {S : Nat → Prop} {h : Heap} {s : Sl} {xs : List Int} (H : RdI S h s xs) (f : Value) (p : Int → Bool) (hf : ∀ (x : Int) (K : Value → Heap → Prop), K (VB (p x)) h → callV Try.prog f [VI x] h K) (K : Value → Heap → Prop) (HK : K (VB (xs.any p)) h) : callM Try.prog 106 #[s.v, f] h K := by
  refine v106 s f h K (k_IndexFunc H f p hf _ fun r hr => ⟨r, rfl, .nil, ?_⟩)
  rw [hr]; exact HK

theorem k_isGraph1 {h : Heap} {b : Nat} {n : Int} (x : Int) {L : List (Nat × List Value)} (hL : Vars h ((b, [VI n]) :: L)) (K : Value → Heap → Prop) (HK : K (VB (!inR 0 (w64 (n - 1)) x)) h) : callV Try.prog (.func (.func 141) #[] #[VP b 0]) [VI x] h K := by
  refine v141 x b n h K (.cons hL.head (by simp) .nil) ?_
  refine k_impl_in _ _ _ _ _ ⟨_, rfl, .cons hL.head (by simp) .nil, ?_⟩
  exact HK

theorem k_has1 {h : Heap} {b : Nat} {g : Sl} (x : Int) {L : List (Nat × List Value)} (hL : Vars h ((b, [g.v]) :: L)) (K : Value → Heap → Prop) (HK : K (VB (!inR 0 (w64 (g.n - 1)) x)) h) : callV Try.prog (.func (.func 123) #[] #[VP b 0]) [VI x] h K := by
  refine v123 x b g h K (.cons hL.head (by simp) .nil) ?_
  refine k_impl_in _ _ _ _ _ ⟨_, rfl, .cons hL.head (by simp) .nil, ?_⟩
  exact HK

theorem graphB_eq {xss : List (List Int)} (e3 : inR 1 8 xss.length = true) : graphB xss = xss.all fun l => !decide (5 < (l.length : Int)) && l.all (inR 0 ((xss.length : Int) - 1)) := by unfold graphB; rw [e3]; rfl
theorem graphB_no {xss : List (List Int)} (e3 : inR 1 8 xss.length = false) : graphB xss = false := by unfold graphB; rw [e3]; rfl
theorem any_not {xs : List Int} {p : Int → Bool} : xs.any (fun x => !p x) = !xs.all p := by
  induction xs with
  | nil => rfl
  | cons x xs ih => simp only [List.any_cons, List.all_cons, ih, Bool.not_and]
theorem len_w64 {S : Nat → Prop} {h : Heap} {g : Sl} {xss : List (List Int)} (H : RdR S h g xss) : w64 ((g.n : Int) - 1) = (xss.length : Int) - 1 := by
  rw [H.len]
  have h1 := maxLen_lt H.big
  have h2 := H.len
  exact w64_eq _ (by omega) (by omega)

theorem k_isGraph {S : Nat → Prop} {h : Heap} {g : Sl} {xss : List (List Int)} (H : RdR S h g xss) : Ret Try.prog 122 #[.agg #[g.v]] h (VB (graphB xss)) := by
  intro K HK
  refine v122 g h K fun b1 b2 h1 hb1 hb2 hf1 hL1 => ?_
  have f1 := hf1.in_nil
  have hlen := H.len
  refine k_impl_in _ _ _ _ _ ⟨_, rfl, hL1, fun e => ?_, fun e => ?_⟩
  · have e3 : inR 1 8 xss.length = false := by have := not_t e; rw [hlen] at this; exact this
    rw [← graphB_no e3]; exact HK _ f1
  · have e3 : inR 1 8 xss.length = true := by have := not_f e; rw [hlen] at this; exact this
    have hg := graphB_eq e3
    refine ⟨fun n i x h' => h' = h1 ∧ x = (g.n : Int) ∧ 0 ≤ i ∧ i + n = (xss.length : Int) ∧ graphB xss = (xss.drop i.toNat).all (fun l => !decide (5 < (l.length : Int)) && l.all (inR 0 ((xss.length : Int) - 1))), ⟨xss.length, rfl, rfl, by omega, by omega, by simp [hg]⟩, ?_⟩
    rintro n i x _ ⟨rfl, rfl, h0, h2, h4⟩ hL
    have H3 := H.no f1
    refine ⟨fun e => ?_, fun e => ?_⟩
    · have hi := H.lt e
      obtain ⟨si, hc, Hi⟩ := H3.get h0 hi
      rw [drop_cons xss h0 hi, List.all_cons] at h4
      refine ⟨H3.inb h0 hi, si, hc, fun e5 => ?_, fun e5 => ?_⟩
      · rw [Hi.len] at e5
        rw [e5] at h4
        have h5 : graphB xss = false := by rw [h4]; rfl
        rw [← h5]; exact HK _ f1
      · rw [Hi.len] at e5
        rw [e5] at h4
        refine k_ContainsFunc Hi _ _ (fun x K HK => k_isGraph1 x hL K HK) _ ?_
        refine ⟨_, _, rfl, hL, fun e6 => ?_, fun e6 => ?_⟩
        · rw [any_not, len_w64 H] at e6
          rw [not_t e6] at h4
          have h5 : graphB xss = false := by rw [h4]; rfl
          rw [← h5]; exact HK _ f1
        · rw [any_not, len_w64 H] at e6
          rw [not_f e6] at h4
          rw [H.succ h0 hi]
          exact ⟨n - 1, by omega, rfl, rfl, by omega, by omega, by rw [h4]; rfl⟩
    · have hi := H.ge e
      rw [List.drop_of_length_le (by omega)] at h4
      have h5 : graphB xss = true := by rw [h4]; rfl
      rw [← h5]; exact HK _ f1

theorem k_has {S S' : Nat → Prop} {h : Heap} {g s : Sl} {xss : List (List Int)} {ps : List Int} (H : RdR S h g xss) (Hp : RdI S' h s ps) : Ret Try.prog 85 #[.agg #[g.v], s.v] h (VB (graphB xss && ps.all (inR 0 ((xss.length : Int) - 1)))) := by
  intro K HK
  refine v85 g s h K fun b1 h1 hb1 f1 hL1 => ?_
  have f1 := f1.in_nil
  refine k_isGraph (H.no f1) _ fun h2 f2 => ⟨_, rfl, hL1.of_no f2, fun e => ?_, fun e => ?_⟩
  · rw [e, Bool.true_and] at HK
    have hL2 := hL1.of_no f2
    refine k_ContainsFunc ((Hp.no f1).no f2) _ _ (fun x K HK => k_has1 x hL2 K HK) _ ?_
    refine ⟨_, _, rfl, hL2, ?_⟩
    rw [any_not, len_w64 H, Bool.not_not]
    exact HK _ (f1.trans f2)
  · rw [e, Bool.false_and] at HK
    exact HK _ (f1.trans f2)

theorem k_spec_grPlace {S : Nat → Prop} {h : Heap} {g : Sl} {xss : List (List Int)} (H : RdR S h g xss) (p : Int) : Ret Try.prog 81 #[.agg #[g.v], VI p] h (VB (graphB xss && inR 0 ((xss.length : Int) - 1) p)) := by
  intro K HK
  refine v81 g p h K fun b1 h1 hb1 f1 hL1 => ?_
  have f1 := f1.in_nil
  refine k_spec_grGood (H.no f1) _ fun h2 f2 => ⟨_, rfl, hL1.of_no f2, fun e => ?_, fun e => ?_⟩
  · rw [e, Bool.true_and] at HK
    refine k_spec_l1In _ _ _ _ _ ⟨_, rfl, hL1.of_no f2, ?_⟩
    rw [len_w64 H]
    exact HK _ (f1.trans f2)
  · rw [e, Bool.false_and] at HK
    exact HK _ (f1.trans f2)

theorem k_spec_l1Most (a b : Int) (h : Heap) (K : Value → Heap → Prop) (HK : K (VI (max a b)) h) : callM Try.prog 113 #[VI a, VI b] h K := by
  refine v113 a b h K ⟨fun e => ?_, fun e => ?_⟩
  · simp only [decide_eq_true_eq] at e
    rw [Int.max_eq_left (by omega)] at HK
    exact HK
  · simp only [decide_eq_false_iff_not] at e
    rw [Int.max_eq_right (by omega)] at HK
    exact HK

def rotB (l : List Int) (r : Int) : Bool := inR 0 (max ((l.length : Int) - 1) 0) r
def walkB (g : List (List Int)) (rs : List Int) (p : Int) : Bool := graphB g && inR 0 ((g.length : Int) - 1) p && decide (rs.length = g.length) && (g.zip rs).all fun q => rotB q.1 q.2
theorem walkB_no1 {g : List (List Int)} {rs : List Int} {p : Int} (e : (graphB g && inR 0 ((g.length : Int) - 1) p) = false) : walkB g rs p = false := by unfold walkB; rw [e]; rfl
theorem walkB_no2 {g : List (List Int)} {rs : List Int} {p : Int} (e : ¬ rs.length = g.length) : walkB g rs p = false := by unfold walkB; rw [decide_eq_false e]; simp
theorem walkB_eq {g : List (List Int)} {rs : List Int} {p : Int} (e : (graphB g && inR 0 ((g.length : Int) - 1) p) = true) (e2 : rs.length = g.length) : walkB g rs p = (g.zip rs).all fun q => rotB q.1 q.2 := by unfold walkB; rw [e, decide_eq_true e2]; rfl
theorem zip_drop (g : List (List Int)) (rs : List Int) {i : Int} (h0 : 0 ≤ i) (h1 : i < (g.length : Int)) (h2 : i < (rs.length : Int)) : (g.zip rs).drop i.toNat = (g[i.toNat]'(by omega), rs[i.toNat]'(by omega)) :: (g.zip rs).drop (i + 1).toNat := by
  have := drop_cons (g.zip rs) h0 (by simp; omega)
  simpa using this
theorem len_w64I {S : Nat → Prop} {h : Heap} {g : Sl} {xs : List Int} (H : RdI S h g xs) : w64 ((g.n : Int) - 1) = (xs.length : Int) - 1 := by
  rw [H.len]
  have h1 := maxLen_lt (RdV.big H)
  have h2 := H.len
  exact w64_eq _ (by omega) (by omega)

theorem k_isWalk {S S' : Nat → Prop} {h : Heap} {g s : Sl} {xss : List (List Int)} {rs : List Int} (G : RdR S h g xss) (H : RdI S' h s rs) (p : Int) : Ret Try.prog 77 #[.agg #[g.v], .agg #[s.v, VI p]] h (VB (walkB xss rs p)) := by
  intro K HK
  refine v77 g s p h K fun b1 b2 h1 hb1 hb2 f1 hL1 => ?_
  have f1 := f1.in_nil
  refine eop_lit rIs (fun k => h1.size ≤ k) (fun _ h => h) 1 (by omega) [VI p] rfl rfl fun t h2 n2 c2 o2 f2 l2 _ => ⟨t, rfl, hL1.of_no f2, ?_⟩
  have o2 : RdI (fun k => h1.size ≤ k) h2 t [p] := o2.rdF
  refine k_has ((G.no f1).no f2) o2 _ fun h3 f3 => ⟨_, rfl, (hL1.of_no f2).of_no f3, fun e => ?_, fun e => ?_⟩
  all_goals simp only [List.all_cons, List.all_nil, Bool.and_true] at e
  · rw [← walkB_no1 (rs := rs) (not_t e)]; exact HK _ ((f1.no_trans f2).no_trans f3)
  · have f13 := (f1.no_trans f2).no_trans f3
    rw [G.len, H.len]
    refine ⟨fun e2 => ?_, fun e2 => ?_⟩
    · have e3 := not_t e2
      simp only [decide_eq_false_iff_not] at e3
      rw [← walkB_no2 (g := xss) (rs := rs) (p := p) (by omega)]; exact HK _ f13
    · have e3 := not_f e2
      simp only [decide_eq_true_eq] at e3
      have e4 := walkB_eq (not_f e) (rs := rs) (by omega)
      have G3 := G.no f13
      have H3 := H.no f13
      refine ⟨fun n i h' => h' = h3 ∧ 0 ≤ i ∧ i + n = (xss.length : Int) ∧ walkB xss rs p = ((xss.zip rs).drop i.toNat).all fun q => rotB q.1 q.2, ⟨xss.length, rfl, by omega, by omega, by simpa using e4⟩, ?_⟩
      rintro n i _ ⟨rfl, i0, i1, i2⟩ hL
      refine ⟨fun e5 => ?_, fun e5 => ?_⟩
      · have hi : i < (rs.length : Int) := by simpa using e5
        have hi' : i < (xss.length : Int) := by omega
        obtain ⟨si, c1, c2⟩ := G3.get i0 hi'
        rw [zip_drop xss rs i0 hi' hi, List.all_cons] at i2
        refine ⟨H3.inb i0 hi, _, H3.get i0 hi, G3.inb i0 hi', si, c1, ?_⟩
        rw [len_w64I c2]
        refine pop_max _ _ _ _ ⟨_, rfl, k_impl_in _ _ _ _ _ ⟨_, rfl, hL, fun e6 => ?_, fun e6 => ?_⟩⟩
        · have e7 : rotB (xss[i.toNat]'(by omega)) (rs[i.toNat]'(by omega)) = false := not_t e6
          simp only at i2
          rw [e7] at i2
          have e8 : walkB xss rs p = false := by rw [i2]; rfl
          rw [← e8]; exact HK _ f13
        · have e7 : rotB (xss[i.toNat]'(by omega)) (rs[i.toNat]'(by omega)) = true := not_f e6
          simp only at i2
          rw [e7, Bool.true_and] at i2
          rw [H.succ i0 hi]
          exact ⟨n - 1, by omega, rfl, by omega, by omega, i2⟩
      · have hi : ¬ i < (rs.length : Int) := by simpa using e5
        rw [List.drop_of_length_le (by simp; omega)] at i2
        have e8 : walkB xss rs p = true := by rw [i2]; rfl
        rw [← e8]; exact HK _ f13

theorem k_spec_waGood {S S' : Nat → Prop} {h : Heap} {g s : Sl} {xss : List (List Int)} {rs : List Int} (G : RdR S h g xss) (H : RdI S' h s rs) (p : Int) : Ret Try.prog 74 #[.agg #[g.v], .agg #[s.v, VI p]] h (VB (walkB xss rs p)) := by
  intro K HK
  refine v74 g s p h K fun b1 b2 h1 hb1 hb2 f1 hL1 => ?_
  have f1 := f1.in_nil
  refine k_spec_grPlace (G.no f1) p _ fun h3 f3 => ⟨_, rfl, hL1.of_no f3, fun e => ?_, fun e => ?_⟩
  · rw [← walkB_no1 (rs := rs) (not_t e)]; exact HK _ (f1.no_trans f3)
  · have f13 := f1.no_trans f3
    rw [G.len, H.len]
    refine ⟨fun e2 => ?_, fun e2 => ?_⟩
    · have e3 := not_t e2
      simp only [decide_eq_false_iff_not] at e3
      rw [← walkB_no2 (g := xss) (rs := rs) (p := p) (by omega)]; exact HK _ f13
    · have e3 := not_f e2
      simp only [decide_eq_true_eq] at e3
      have e4 := walkB_eq (not_f e) (rs := rs) (by omega)
      have G3 := G.no f13
      have H3 := H.no f13
      refine ⟨fun n i h' => h' = h3 ∧ 0 ≤ i ∧ i + n = (xss.length : Int) ∧ walkB xss rs p = ((xss.zip rs).drop i.toNat).all fun q => rotB q.1 q.2, ⟨xss.length, rfl, by omega, by omega, by simpa using e4⟩, ?_⟩
      rintro n i _ ⟨rfl, i0, i1, i2⟩ hL
      refine ⟨fun e5 => ?_, fun e5 => ?_⟩
      · have hi' : i < (xss.length : Int) := by simpa using e5
        have hi : i < (rs.length : Int) := by omega
        obtain ⟨si, c1, c2⟩ := G3.get i0 hi'
        rw [zip_drop xss rs i0 hi' hi, List.all_cons] at i2
        refine ⟨G3.inb i0 hi', si, c1, H3.inb i0 hi, _, H3.get i0 hi, ?_⟩
        rw [len_w64I c2]
        refine k_spec_l1Most _ _ _ _ ⟨_, rfl, hL, H3.get i0 hi, ?_⟩
        rw [Int.max_comm]
        refine k_spec_l1In _ _ _ _ _ ⟨_, rfl, hL, fun e6 => ?_, fun e6 => ?_⟩
        · have e7 : rotB (xss[i.toNat]'(by omega)) (rs[i.toNat]'(by omega)) = false := not_t e6
          simp only at i2
          rw [e7] at i2
          have e8 : walkB xss rs p = false := by rw [i2]; rfl
          rw [← e8]; exact HK _ f13
        · have e7 : rotB (xss[i.toNat]'(by omega)) (rs[i.toNat]'(by omega)) = true := not_f e6
          simp only at i2
          rw [e7, Bool.true_and] at i2
          rw [G.succ i0 hi']
          exact ⟨n - 1, by omega, rfl, by omega, by omega, i2⟩
      · have hi : ¬ i < (xss.length : Int) := by simpa using e5
        rw [List.drop_of_length_le (by simp; omega)] at i2
        have e8 : walkB xss rs p = true := by rw [i2]; rfl
        rw [← e8]; exact HK _ f13

theorem loopI {S : Nat → Prop} {h : Heap} {s : Sl} {xs : List Int} (H : RdI S h s xs) : (xs.length : Int) ≤ maxLen := by have := H.len; have := H.big; omega

theorem k_eqIntS {S S' : Nat → Prop} {h : Heap} {a b : Sl} {xs ys : List Int} (H : RdI S h a xs) (H' : RdI S' h b ys) (K : Value → Heap → Prop) (HK : K (VB (decide (xs = ys))) h) : callM Try.prog 45 #[a.v, b.v] h K := by
  refine v45 a b h K ⟨fun e => ?_, fun e => ?_⟩
  · have e1 := not_t e
    rw [H.len, H'.len] at e1
    have : ¬ xs = ys := fun e2 => by subst e2; simp at e1
    rw [decide_eq_false this] at HK
    exact HK
  · have e1 := not_f e
    rw [H.len, H'.len] at e1
    have hl : xs.length = ys.length := by simp at e1; omega
    refine ⟨fun n i h' => h' = h ∧ 0 ≤ i ∧ i + n = (xs.length : Int) ∧ decide (xs = ys) = decide (xs.drop i.toNat = ys.drop i.toNat), ⟨xs.length, rfl, by omega, by omega, by simp⟩, ?_⟩
    rintro n i _ ⟨rfl, h0, h1, h2⟩ hL
    refine ⟨fun e => ?_, fun e => ?_⟩
    · have hi := H.lt e
      have hi' : i < (ys.length : Int) := by omega
      refine ⟨H.inb h0 hi, _, H.get h0 hi, H'.inb h0 hi', _, H'.get h0 hi', fun e => ?_, fun e => ?_⟩
      · rw [drop_cons xs h0 hi, drop_cons ys h0 hi'] at h2
        have e3 := not_t e
        simp only [decide_eq_false_iff_not] at e3
        rw [h2, decide_eq_false (fun e4 => e3 (List.cons.inj e4).1)] at HK
        exact HK
      · rw [drop_cons xs h0 hi, drop_cons ys h0 hi'] at h2
        have e3 := not_f e
        simp only [decide_eq_true_eq] at e3
        rw [H.succ h0 hi]
        refine ⟨n - 1, by omega, rfl, by omega, by omega, h2.trans ?_⟩
        rw [e3]
        simp
    · have hi := H.ge e
      rw [List.drop_of_length_le (by omega), List.drop_of_length_le (by omega)] at h2
      rw [h2] at HK
      exact HK

theorem k_eqIntSS {S S' : Nat → Prop} {h : Heap} {a b : Sl} {xs ys : List (List Int)} (H : RdR S h a xs) (H' : RdR S' h b ys) (K : Value → Heap → Prop) (HK : K (VB (decide (xs = ys))) h) : callM Try.prog 21 #[a.v, b.v] h K := by
  refine v21 a b h K ⟨fun e => ?_, fun e => ?_⟩
  · have e1 := not_t e
    rw [H.len, H'.len] at e1
    have : ¬ xs = ys := fun e2 => by subst e2; simp at e1
    rw [decide_eq_false this] at HK
    exact HK
  · have e1 := not_f e
    rw [H.len, H'.len] at e1
    have hl : xs.length = ys.length := by simp at e1; omega
    refine ⟨fun n i h' => h' = h ∧ 0 ≤ i ∧ i + n = (xs.length : Int) ∧ decide (xs = ys) = decide (xs.drop i.toNat = ys.drop i.toNat), ⟨xs.length, rfl, by omega, by omega, by simp⟩, ?_⟩
    rintro n i _ ⟨rfl, h0, h1, h2⟩ hL
    refine ⟨fun e => ?_, fun e => ?_⟩
    · have hi := H.lt e
      have hi' : i < (ys.length : Int) := by omega
      obtain ⟨x, cx, rx⟩ := H.get h0 hi
      obtain ⟨y, cy, ry⟩ := H'.get h0 hi'
      refine ⟨H.inb h0 hi, x, cx, H'.inb h0 hi', y, cy, k_eqIntS rx ry _ ⟨_, rfl, hL, fun e => ?_, fun e => ?_⟩⟩
      · rw [drop_cons xs h0 hi, drop_cons ys h0 hi'] at h2
        have e3 := not_t e
        simp only [decide_eq_false_iff_not] at e3
        rw [h2, decide_eq_false (fun e4 => e3 (List.cons.inj e4).1)] at HK
        exact HK
      · rw [drop_cons xs h0 hi, drop_cons ys h0 hi'] at h2
        have e3 := not_f e
        simp only [decide_eq_true_eq] at e3
        rw [H.succ h0 hi]
        refine ⟨n - 1, by omega, rfl, by omega, by omega, h2.trans ?_⟩
        rw [e3]
        simp
    · have hi := H.ge e
      rw [List.drop_of_length_le (by omega), List.drop_of_length_le (by omega)] at h2
      rw [h2] at HK
      exact HK

theorem k_eqGraph {S S' : Nat → Prop} {h : Heap} {a b : Sl} {xs ys : List (List Int)} (H : RdR S h a xs) (H' : RdR S' h b ys) : Ret Try.prog 22 #[.agg #[a.v], .agg #[b.v]] h (VB (decide (xs = ys))) := by
  intro K HK
  refine v22 a b h K fun b1 b2 h1 hb1 hb2 f1 hL1 => ?_
  refine k_eqIntSS (H.no f1.in_nil) (H'.no f1.in_nil) _ ⟨_, rfl, hL1, fun e => ?_, fun e => ?_⟩
  · rw [← not_t e]; exact HK _ f1.in_nil
  · rw [← not_f e]; exact HK _ f1.in_nil

theorem k_eqWalk {S S' : Nat → Prop} {h : Heap} {a b : Sl} {xs ys : List Int} (H : RdI S h a xs) (H' : RdI S' h b ys) (p q : Int) : Ret Try.prog 23 #[.agg #[a.v, VI p], .agg #[b.v, VI q]] h (VB (decide (xs = ys ∧ p = q))) := by
  intro K HK
  refine v23 a p b q h K fun b1 b2 h1 hb1 hb2 f1 hL1 => ?_
  refine k_eqIntS (H.no f1.in_nil) (H'.no f1.in_nil) _ ⟨_, rfl, hL1, fun e => ?_, fun e => ?_⟩
  · have e3 := not_t e
    simp only [decide_eq_false_iff_not] at e3
    rw [decide_eq_false fun e4 => e3 e4.1] at HK
    exact HK _ f1.in_nil
  · have e3 := not_f e
    simp only [decide_eq_true_eq] at e3
    refine ⟨fun e => ?_, fun e => ?_⟩
    · have e5 := not_t e
      simp only [decide_eq_false_iff_not] at e5
      rw [decide_eq_false fun e4 => e5 e4.2] at HK
      exact HK _ f1.in_nil
    · have e5 := not_f e
      simp only [decide_eq_true_eq] at e5
      rw [decide_eq_true ⟨e3, e5⟩] at HK
      exact HK _ f1.in_nil

def numI (k : Int) : List Int → List Int
  | [] => []
  | _ :: xs => k :: numI (k + 1) xs
theorem numI_length : ∀ (k : Int) (xs : List Int), (numI k xs).length = xs.length
  | _, [] => rfl
  | k, _ :: xs => by simp [numI, numI_length (k + 1) xs]
theorem numI_get : ∀ (xs : List Int) (k : Int) (i : Nat) (h : i < (numI k xs).length), (numI k xs)[i] = k + i
  | [], k, i, h => by simp [numI] at h
  | x :: xs, k, 0, h => by simp [numI]
  | x :: xs, k, i + 1, h => by
    simp only [numI, List.getElem_cons_succ]
    rw [numI_get xs (k + 1) i]
    omega
def totR (xss : List (List Int)) : Nat := (xss.map List.length).sum
def numR (k : Int) : List (List Int) → List (List Int)
  | [] => []
  | xs :: xss => numI k xs :: numR (k + xs.length) xss
theorem numR_length : ∀ (k : Int) (xss : List (List Int)), (numR k xss).length = xss.length
  | _, [] => rfl
  | k, xs :: xss => by simp [numR, numR_length (k + xs.length) xss]
theorem numR_get : ∀ (xss : List (List Int)) (k : Int) (i : Nat) (h : i < (numR k xss).length) (h' : i < xss.length), (numR k xss)[i] = numI (k + totR (xss.take i)) xss[i]
  | [], k, i, h, _ => by simp [numR] at h
  | x :: xs, k, 0, h, _ => by simp [numR, totR]
  | x :: xs, k, i + 1, h, h' => by
    simp only [numR, List.getElem_cons_succ]
    rw [numR_get xs _ i (by simpa [numR] using h) (by simpa using h')]
    congr 1
    simp [totR]
    omega
theorem totR_take_le : ∀ (xss : List (List Int)) (i : Nat), totR (xss.take i) ≤ totR xss
  | [], i => by simp [totR]
  | x :: xs, 0 => by simp [totR]
  | x :: xs, i + 1 => by
    have := totR_take_le xs i
    simp only [totR, List.take_succ_cons, List.map_cons, List.sum_cons] at *
    omega
theorem totR_snoc (xss : List (List Int)) (i : Nat) (h : i < xss.length) : totR (xss.take (i + 1)) = totR (xss.take i) + xss[i].length := by
  rw [List.take_succ_eq_append_getElem h]
  simp only [totR, List.map_append, List.sum_append, List.map_cons, List.map_nil, List.sum_cons, List.sum_nil]
  omega

theorem k_markIntS {F : Nat → Prop} {h : Heap} {s : Sl} {xs : List Int} (H : OwI h F s xs) (k : Int) (h0 : 0 ≤ k) (hk : k ≤ 1000000000000000) (hn : xs.length ≤ 1000000000000) (K : Value → Heap → Prop) (HK : ∀ h', OwI h' F s (numI k xs) → Fr s.own h h' → K (VI (k + xs.length)) h') : callM Try.prog 49 #[s.v, VI k] h K := by
  have hl : s.n = xs.length := by have := H.len; simp at this; omega
  refine v49 s k h K ⟨fun n k' i h' => 0 ≤ i ∧ i + n = (xs.length : Int) ∧ k' = k + i ∧ OwI h' F s ((numI k xs).take i.toNat ++ xs.drop i.toNat) ∧ Fr s.own h h', ⟨xs.length, by omega, by omega, by omega, by simpa using H, Fr.refl _ _⟩, ?_⟩
  rintro n k' i h' ⟨i0, i1, rfl, H', f⟩ hL
  refine ⟨fun e => ?_, fun e => ?_⟩
  · have hi : i < (s.n : Int) := by simpa using e
    have ws : w64 (i + 1) = i + 1 := w64_eq _ (by omega) (by omega)
    have wk : w64 (k + i + 1) = k + i + 1 := w64_eq _ (by omega) (by omega)
    obtain ⟨w1, w2, w3⟩ := H'.store1 i0 hi (VI (k + i))
    refine ⟨H'.inb i0 hi, w1, .nil, fun h2 e2 _ => ?_⟩
    rw [ws, wk]
    refine ⟨n - 1, by omega, by omega, by omega, by omega, ?_, ?_⟩
    · subst e2
      have e3 : VI (k + i) = VI ((numI k xs)[i.toNat]'(by rw [numI_length]; omega)) := by rw [numI_get]; congr 1; omega
      rw [e3] at w2 ⊢
      rw [← List.map_set, set_mid _ _ _ _ (by omega)] at w2
      rw [toNat_succ i0]
      exact w2
    · subst e2; exact f.trans w3
  · have hi : ¬ i < (s.n : Int) := by simpa using e
    have e4 : i = xs.length := by omega
    subst e4
    have := HK h' (by simpa [List.take_of_length_le, numI_length] using H') f
    exact this

theorem k_markIntSS {F : Nat → Prop} {h : Heap} {s : Sl} {xss : List (List Int)} (H : OwX h F s xss) (k : Int) (h0 : 0 ≤ k) (hk : k ≤ 100000000000) (hn : totR xss ≤ 100000000000) (K : Value → Heap → Prop) (HK : ∀ h', OwX h' F s (numR k xss) → Fr F h h' → K (VI (k + totR xss)) h') : callM Try.prog 26 #[s.v, VI k] h K := by
  have hl : s.n = xss.length := H.len
  have hbig := H.rd.big
  refine v26 s k h K ⟨fun n k' i h' => 0 ≤ i ∧ i + n = (xss.length : Int) ∧ k' = k + totR (xss.take i.toNat) ∧ OwX h' F s ((numR k xss).take i.toNat ++ xss.drop i.toNat) ∧ Fr F h h', ⟨xss.length, by omega, by omega, by simp [totR], by simpa using H, Fr.refl _ _⟩, ?_⟩
  rintro n k' i h' ⟨i0, i1, rfl, H', f⟩ hL
  refine ⟨fun e => ?_, fun e => ?_⟩
  · have hi : i < (s.n : Int) := by simpa using e
    have hlen : ((numR k xss).take i.toNat ++ xss.drop i.toNat).length = xss.length := by simp [numR_length]; omega
    have hlen2 : ((numR k xss).take i.toNat).length = i.toNat := by simp [numR_length]; omega
    obtain ⟨si, c1, c2, c3⟩ := H'.inner i0 (by omega)
    have e1 : ((numR k xss).take i.toNat ++ xss.drop i.toNat)[i.toNat]'(by omega) = xss[i.toNat]'(by omega) := by
      rw [List.getElem_append_right (by omega)]
      simp [hlen2]
    rw [e1] at c2
    have hle := totR_take_le xss i.toNat
    have hle2 := totR_take_le xss (i.toNat + 1)
    have hsn := totR_snoc xss i.toNat (by omega)
    refine ⟨H'.rd.inb i0 (by omega), si, c1, k_markIntS c2 _ (by omega) (by omega) (by omega) _ fun h2 o2 f2 => ⟨_, rfl, .nil, n - 1, by omega, ?_, ?_, ?_, ?_, ?_⟩⟩
    · rw [w64_succ i0 hi hbig]; omega
    · rw [w64_succ i0 hi hbig]; omega
    · rw [w64_succ i0 hi hbig, toNat_succ i0, hsn]; omega
    · rw [w64_succ i0 hi hbig]
      have := c3 h2 _ f2 o2
      rw [← numR_get xss k i.toNat (by rw [numR_length]; omega) (by omega), set_mid _ _ _ _ (by omega)] at this
      rw [toNat_succ i0]
      exact this
    · exact f.trans (f2.mono fun k _ hk => (c2.foot hk).1)
  · have hi : ¬ i < (s.n : Int) := by simpa using e
    have e4 : i = xss.length := by omega
    subst e4
    have := HK h' (by simpa [List.take_of_length_le, numR_length] using H') f
    simpa using this

theorem k_heldIntS {S : Nat → Prop} {h : Heap} {s : Sl} {xs : List Int} (k : Int) (H : RdI S h s (numI k xs)) (h0 : 0 ≤ k) (hk : k ≤ 1000000000000000) (hn : xs.length ≤ 1000000000000) (K : Value → Heap → Prop) (HK : K (VI (k + xs.length)) h) : callM Try.prog 57 #[s.v, VI k] h K := by
  have hl : s.n = xs.length := by have := H.len; rw [numI_length] at this; exact this
  refine v57 s k h K ⟨fun n k' i h' => h' = h ∧ 0 ≤ i ∧ i + n = (xs.length : Int) ∧ k' = k + i, ⟨xs.length, rfl, by omega, by omega, by omega⟩, ?_⟩
  rintro n k' i _ ⟨rfl, i0, i1, rfl⟩ hL
  refine ⟨fun e => ?_, fun e => ?_⟩
  · have hi := H.lt e
    refine ⟨H.inb i0 hi, _, H.get i0 hi, fun e => ?_, fun e => ?_⟩
    · have e5 := not_t e
      simp only [decide_eq_false_iff_not] at e5
      rw [numI_get] at e5
      omega
    · rw [H.succ i0 hi, w64_eq _ (by omega) (by rw [numI_length] at hi; omega)]
      rw [numI_length] at hi
      exact ⟨n - 1, by omega, rfl, by omega, by omega, by omega⟩
  · have hi := H.ge e
    rw [numI_length] at hi
    have e4 : i = xs.length := by omega
    rw [e4]
    exact HK

theorem k_heldIntSS {S : Nat → Prop} {h : Heap} {s : Sl} {xss : List (List Int)} (k : Int) (H : RdR S h s (numR k xss)) (h0 : 0 ≤ k) (hk : k ≤ 100000000000) (hn : totR xss ≤ 100000000000) (K : Value → Heap → Prop) (HK : K (VI (k + totR xss)) h) : callM Try.prog 27 #[s.v, VI k] h K := by
  have hl : s.n = xss.length := by have := H.len; rw [numR_length] at this; exact this
  refine v27 s k h K ⟨fun n k' i h' => h' = h ∧ 0 ≤ i ∧ i + n = (xss.length : Int) ∧ k' = k + totR (xss.take i.toNat), ⟨xss.length, rfl, by omega, by omega, by simp [totR]⟩, ?_⟩
  rintro n k' i _ ⟨rfl, i0, i1, rfl⟩ hL
  refine ⟨fun e => ?_, fun e => ?_⟩
  · have hi := H.lt e
    have hi' : i < (xss.length : Int) := by rw [numR_length] at hi; exact hi
    obtain ⟨si, c1, c2⟩ := H.get i0 hi
    rw [numR_get xss k i.toNat _ (by omega)] at c2
    have hle := totR_take_le xss i.toNat
    have hle2 := totR_take_le xss (i.toNat + 1)
    have hsn := totR_snoc xss i.toNat (by omega)
    refine ⟨H.inb i0 hi, si, c1, k_heldIntS _ c2 (by omega) (by omega) (by omega) _ ⟨_, rfl, .nil, fun e => ?_, fun e => ?_⟩⟩
    · simp only [decide_eq_true_eq] at e
      omega
    · rw [H.succ i0 hi]
      exact ⟨n - 1, by omega, rfl, by omega, by omega, by rw [toNat_succ i0, hsn]; omega⟩
  · have hi := H.ge e
    rw [numR_length] at hi
    have e4 : i = xss.length := by omega
    rw [e4]
    simpa using HK

theorem k_markGraph {F : Nat → Prop} {h : Heap} {s : Sl} {xss : List (List Int)} (H : OwX h F s xss) (k : Int) (h0 : 0 ≤ k) (hk : k ≤ 100000000000) (hn : totR xss ≤ 100000000000) (K : Value → Heap → Prop) (HK : ∀ h', OwX h' F s (numR k xss) → Fr F h h' → K (VI (k + totR xss)) h') : callM Try.prog 24 #[.agg #[s.v], VI k] h K := by
  refine v24 s k h K fun b1 h1 hb1 f1 hL1 => ?_
  have H1 : OwX h1 (fun k => F k ∧ k < h.size) s xss := (H.mono fun k hk hF => ⟨hF, hk⟩ : OwX h _ s xss).no f1.in_nil
  refine k_markIntSS H1 k h0 hk hn _ fun h2 o2 f2 => ?_
  refine ⟨_, rfl, hL1.fr f2 (fun p hp hk => ?_), ?_⟩
  · obtain rfl : p = (b1, [s.v]) := by simpa using hp
    have := hk.2
    simp only at this
    omega
  · exact HK _ (o2.mono fun k _ hk => hk.1) (f1.in_nil.of_no.trans (f2.mono fun k _ hk => hk.1))

theorem k_markWalk {F : Nat → Prop} {h : Heap} {s : Sl} {xs : List Int} (H : OwI h F s xs) (p k : Int) (h0 : 0 ≤ k) (hk : k ≤ 1000000000000000) (hn : xs.length ≤ 1000000000000) (K : Value → Heap → Prop) (HK : ∀ h', OwI h' F s (numI k xs) → Fr s.own h h' → K (VI (k + xs.length)) h') : callM Try.prog 25 #[.agg #[s.v, VI p], VI k] h K := by
  refine v25 s p k h K fun b1 h1 hb1 f1 hL1 => ?_
  refine k_markIntS (Ow.no H f1.in_nil) k h0 hk hn _ fun h2 o2 f2 => ?_
  refine ⟨_, rfl, hL1.fr f2 (fun p hp hk => ?_), ?_⟩
  · obtain rfl : p = (b1, [s.v, _]) := by simpa using hp
    have := (H.foot hk).2
    simp only at this
    omega
  · exact HK _ o2 (f1.in_nil.of_no.trans f2)

def firstXs : List (List Int) := [[1, 2], [0, 2], [0]]
def DeskIs (h h' : Heap) (v : Value) : Prop := ∃ (g w : Sl) (m : Nat), v = .agg #[g.v, w.v, VI 0] ∧ OwX h' (fun k => h.size ≤ k ∧ k < m) g firstXs ∧ OwI h' (fun k => h.size ≤ k ∧ m ≤ k) w [0, 0, 0] ∧ Fr No h h'
theorem own_lt {h : Heap} {F : Nat → Prop} {e : TypeId} {sz : Nat} {s : Sl} {vs : List Value} (H : Ow h F e sz s vs) {n : Nat} (hn : h.size ≤ n) : ∀ k, s.own k → k < n := fun k hk => Nat.lt_of_lt_of_le (H.foot hk).2 hn
theorem lit_first {h1 : Heap} {K : Value → Heap → Prop} (HK : ∀ (g : Sl) (h' : Heap), OwX h' (fun k => h1.size ≤ k) g firstXs → Fr No h1 h' → K g.v h') :
    eop Try.prog (Instr.buildSlice tIs 2 #[(0, VI 1), (1, VI 2)]) h1 fun rv_1 h_2 => ∃ t1_1 : Sl, rv_1 = t1_1.v ∧ Fr No h1 h_2 ∧
    eop Try.prog (Instr.buildSlice tIs 2 #[(0, VI 0), (1, VI 2)]) h_2 fun rv_2 h_3 => ∃ t2_1 : Sl, rv_2 = t2_1.v ∧ Fr No h_2 h_3 ∧
    eop Try.prog (Instr.buildSlice tIs 1 #[(0, VI 0)]) h_3 fun rv_3 h_4 => ∃ t3_1 : Sl, rv_3 = t3_1.v ∧ Fr No h_3 h_4 ∧
    eop Try.prog (Instr.buildSlice tIss 3 #[(0, t1_1.v), (1, t2_1.v), (2, t3_1.v)]) h_4 K := by
  refine eop_lit rIs (fun k => h1.size ≤ k) (fun _ h => h) 2 (by omega) [VI 1, VI 2] rfl rfl fun t1 h2 n1 c1 o1 f1 l1 _ => ⟨t1, rfl, f1, ?_⟩
  refine eop_lit rIs (fun k => h1.size ≤ k) (fun _ h => Nat.le_trans f1.size h) 2 (by omega) [VI 0, VI 2] rfl rfl fun t2 h3 n2 c2 o2 f2 l2 _ => ⟨t2, rfl, f2, ?_⟩
  have f13 := f1.no_trans f2
  refine eop_lit rIs (fun k => h1.size ≤ k) (fun _ h => Nat.le_trans f13.size h) 1 (by omega) [VI 0] rfl rfl fun t3 h4 n3 c3 o3 f3 l3 _ => ⟨t3, rfl, f3, ?_⟩
  have f14 := f13.no_trans f3
  refine eop_lit rIss (fun k => h1.size ≤ k) (fun _ h => Nat.le_trans f14.size h) 3 (by omega) [t1.v, t2.v, t3.v] rfl rfl fun t4 h5 n4 c4 o4 f4 l4 _ => ?_
  have g1 := own_lt o1 (Nat.le_refl _)
  have g2 := own_lt o2 (Nat.le_refl _)
  have g3 := own_lt o3 (Nat.le_refl _)
  have s3 := f2.size
  have s4 := f3.size
  refine HK t4 h5 (OwR.of [t1, t2, t3] rfl o4 ?_ ?_ ?_) (f14.trans f4)
  · intro p hp
    simp only [firstXs, List.zip_cons_cons, List.zip_nil_right, List.mem_cons, List.not_mem_nil, or_false] at hp
    rcases hp with rfl | rfl | rfl
    · exact ((o1.no f2).no f3).no f4
    · exact (o2.no f3).no f4
    · exact o3.no f4
  · simp only [List.pairwise_cons, List.mem_cons, List.not_mem_nil, or_false, forall_eq_or_imp, forall_eq, List.Pairwise.nil, and_true]
    refine ⟨⟨fun k a b => ?_, fun k a b => ?_⟩, fun k a b => ?_, by simp⟩
    · have := g1 k a; have := l2 k b; omega
    · have := g1 k a; have := l3 k b; omega
    · have := g2 k a; have := l3 k b; omega
  · intro a ha k hk hk2
    have := l4 k hk
    simp only [List.mem_cons, List.not_mem_nil, or_false] at ha
    rcases ha with rfl | rfl | rfl
    · have := g1 k hk2; omega
    · have := g2 k hk2; omega
    · have := g3 k hk2; omega

theorem k_szIntS {S : Nat → Prop} {h : Heap} {s : Sl} {xs : List Int} (H : RdI S h s xs) (left : Int) (h0 : 0 ≤ left) (h1 : left ≤ 1048576) (K : Value → Heap → Prop) (HK : ∀ r : Int, r = -1 ∨ (0 ≤ r ∧ r = left - xs.length) → K (VI r) h) : callM Try.prog 65 #[s.v, VI left] h K := by
  have hb := maxLen_lt (RdV.big H)
  have e := H.len
  have hw : w64 (left - s.n) = left - s.n := w64_eq _ (by omega) (by omega)
  refine v65 s left h K ⟨fun _ => HK _ (.inl rfl), fun e2 => HK _ (.inr ?_)⟩
  rw [hw] at e2 ⊢
  simp only [decide_eq_false_iff_not] at e2
  omega

theorem k_szIntSS {S : Nat → Prop} {h : Heap} {s : Sl} {xss : List (List Int)} (H : RdR S h s xss) (left : Int) (h0 : 0 ≤ left) (h1 : left ≤ 1048576) (K : Value → Heap → Prop) (HK : ∀ r : Int, r = -1 ∨ (0 ≤ r ∧ r = left - xss.length - totR xss) → K (VI r) h) : callM Try.prog 64 #[s.v, VI left] h K := by
  have hb := maxLen_lt H.big
  have e := H.len
  have hw : w64 (left - s.n) = left - s.n := w64_eq _ (by omega) (by omega)
  refine v64 s left h K ⟨fun _ => HK _ (.inl rfl), fun e2 => ?_⟩
  rw [hw] at e2 ⊢
  simp only [decide_eq_false_iff_not] at e2
  refine ⟨fun n l i h' => h' = h ∧ 0 ≤ i ∧ i + n = (xss.length : Int) ∧ l = left - xss.length - totR (xss.take i.toNat) ∧ 0 ≤ l, ⟨xss.length, rfl, by omega, by omega, by simp [totR]; omega, by omega⟩, ?_⟩
  rintro n l i _ ⟨rfl, i0, i1, rfl, l0⟩ hL
  refine ⟨fun e => ?_, fun e => ?_⟩
  · have hi := H.lt e
    obtain ⟨si, c1, c2⟩ := H.get i0 hi
    have hsn := totR_snoc xss i.toNat (by omega)
    refine ⟨H.inb i0 hi, si, c1, k_szIntS c2 _ l0 (by omega) _ fun r hr => ⟨r, rfl, .nil, fun _ => HK _ (.inl rfl), fun e3 => ?_⟩⟩
    simp only [decide_eq_false_iff_not] at e3
    rw [H.succ i0 hi]
    exact ⟨n - 1, by omega, rfl, by omega, by omega, by rw [toNat_succ i0, hsn]; omega, by omega⟩
  · have hi := H.ge e
    have e4 : i = xss.length := by omega
    refine HK _ (.inr ⟨l0, ?_⟩)
    rw [e4]
    simp

theorem k_szGraph {S : Nat → Prop} {h : Heap} {s : Sl} {xss : List (List Int)} (H : RdR S h s xss) (left : Int) (h0 : 0 ≤ left) (h1 : left ≤ 1048576) (K : Value → Heap → Prop) (HK : ∀ (h' : Heap) (r : Int), Fr No h h' → r = -1 ∨ (0 ≤ r ∧ r = left - xss.length - totR xss) → K (VI r) h') : callM Try.prog 15 #[.agg #[s.v], VI left] h K := by
  refine v15 s left h K fun b1 h1' hb1 f1 hL1 => ?_
  refine k_szIntSS (H.no f1.in_nil) left h0 h1 _ fun r hr => ⟨r, rfl, hL1, fun e => HK _ _ f1.in_nil (.inl rfl), fun e => HK _ _ f1.in_nil hr⟩

theorem k_szWalk {S : Nat → Prop} {h : Heap} {s : Sl} {xs : List Int} (H : RdI S h s xs) (p left : Int) (h0 : 0 ≤ left) (h1 : left ≤ 1048576) (K : Value → Heap → Prop) (HK : ∀ (h' : Heap) (r : Int), Fr No h h' → r = -1 ∨ (0 ≤ r ∧ r = left - xs.length) → K (VI r) h') : callM Try.prog 16 #[.agg #[s.v, VI p], VI left] h K := by
  refine v16 s p left h K fun b1 h1' hb1 f1 hL1 => ?_
  refine k_szIntS (H.no f1.in_nil) left h0 h1 _ fun r hr => ⟨r, rfl, hL1, fun e => HK _ _ f1.in_nil (.inl rfl), fun e => HK _ _ f1.in_nil hr⟩

theorem k_toIntS {S : Nat → Prop} {h : Heap} {s : Sl} {xs : List Int} (H : RdI S h s xs) (hn : xs.length ≤ 1000000000000) (K : Value → Heap → Prop) (HK : ∀ t h', OwI h' (fun k => h.size ≤ k) t xs → Fr No h h' → K t.v h') : callM Try.prog 42 #[s.v] h K := by
  have hl := H.len
  refine v42 s h K ?_
  refine eop_make rIs (fun k => h.size ≤ k) (fun _ h => h) .i64 .i64 s.n s.n (Nat.le_refl _) (by omega) fun t h1 n1 c1 o1 f1 l1 _ => ⟨t, rfl, .nil, ?_⟩
  have o1 : OwI h1 (fun k => h.size ≤ k) t (List.replicate xs.length 0) := by
    have e : (List.replicate s.n [VI 0]).flatten = (List.replicate xs.length (0 : Int)).map VI := by rw [H.len]; simp [List.flatten_replicate_singleton]
    rw [e] at o1; exact o1
  refine ⟨fun n i h' => 0 ≤ i ∧ i + n = (xs.length : Int) ∧ OwI h' (fun k => h.size ≤ k) t (xs.take i.toNat ++ (List.replicate xs.length (0 : Int)).drop i.toNat) ∧ Fr t.own h1 h', ⟨xs.length, by omega, by omega, by simpa using o1, Fr.refl _ _⟩, ?_⟩
  rintro n i h2 ⟨i0, i1, o2, f2⟩ hL
  have H2 := H.on f1 f2 l1
  refine ⟨fun e => ?_, fun e => ?_⟩
  · have hi := H.lt e
    obtain ⟨w1, w2, w3⟩ := o2.store1 i0 (by omega) (VI (xs[i.toNat]'(by omega)))
    refine ⟨H2.inb i0 hi, _, H2.get i0 hi, o2.inb i0 (by omega), w1, .nil, fun h3 e3 _ => ?_⟩
    subst e3
    rw [← List.map_set, set_mid _ _ _ _ (by simp; omega)] at w2
    rw [H.succ i0 hi]
    exact ⟨n - 1, by omega, by omega, by omega, by rw [toNat_succ i0]; exact w2, f2.trans w3⟩
  · have hi := H.ge e
    have e4 : i = xs.length := by omega
    subst e4
    exact HK t h2 (by simpa using o2) (f1.fresh f2 l1)

theorem k_toIntSS {S : Nat → Prop} {h : Heap} {s : Sl} {xss : List (List Int)} (H : RdR S h s xss) (hn : xss.length ≤ 1000000000000) (hm : totR xss ≤ 1000000000000) (K : Value → Heap → Prop) (HK : ∀ t h', OwX h' (fun k => h.size ≤ k) t xss → Fr No h h' → K t.v h') : callM Try.prog 68 #[s.v] h K := by
  have hl := H.len
  refine v68 s h K ?_
  refine eop_make rIss (fun k => h.size ≤ k) (fun _ h => h) .i64 .i64 s.n s.n (Nat.le_refl _) (by omega) fun t h1 n1 c1 o1 f1 l1 _ => ⟨t, rfl, .nil, ?_⟩
  have o1 : OwX h1 (fun k => h.size ≤ k) t (List.replicate xss.length []) := OwR.zeros _ (by rw [hl] at o1; exact o1)
  refine ⟨fun n i h' => 0 ≤ i ∧ i + n = (xss.length : Int) ∧ OwX h' (fun k => h.size ≤ k) t (xss.take i.toNat ++ (List.replicate xss.length []).drop i.toNat) ∧ Fr No h h', ⟨xss.length, by omega, by omega, by simpa using o1, f1⟩, ?_⟩
  rintro n i h2 ⟨i0, i1, o2, f2⟩ hL
  have H2 := H.no f2
  refine ⟨fun e => ?_, fun e => ?_⟩
  · have hi := H.lt e
    obtain ⟨si, c1, c2⟩ := H2.get i0 hi
    have hlen : (xss.take i.toNat ++ (List.replicate xss.length ([] : List Int)).drop i.toNat).length = xss.length := by simp; omega
    have hsz : (xss[i.toNat]'(by omega)).length ≤ totR xss := by
      have h1 := totR_snoc xss i.toNat (by omega)
      have h2 := totR_take_le xss (i.toNat + 1)
      omega
    refine ⟨H2.inb i0 hi, si, c1, k_toIntS c2 (by omega) _ fun x h3 o3 f3 => ⟨x, rfl, .nil, ?_⟩⟩
    have o2' := (o2.mono (F' := fun k => h.size ≤ k ∧ k < h2.size) fun k hk hF => ⟨hF, hk⟩).no f3
    obtain ⟨sj, d1, d2, _⟩ := o2'.inner i0 (by omega)
    have s2 := f2.size
    obtain ⟨w1, w2, w3⟩ := o2'.outer i0 (by omega) d1 (F' := fun k => h.size ≤ k) (o3.mono fun k _ hk => by omega) (fun k _ hk => hk.1) (fun k hk => .inr fun hk2 => by have := (o3.foot hk).1; omega)
    refine ⟨o2'.rd.inb i0 (by omega), w1, .nil, fun h4 e4 _ => ?_⟩
    subst e4
    rw [set_mid _ _ _ _ (by simp; omega)] at w2
    rw [H.succ i0 hi]
    exact ⟨n - 1, by omega, by omega, by omega, by rw [toNat_succ i0]; exact w2, (f2.no_trans f3).fresh w3 fun k hk => by
      obtain ⟨ss, _, h5, _⟩ := o2'.out
      exact (h5.foot hk).1.1⟩
  · have hi := H.ge e
    have e4 : i = xss.length := by omega
    subst e4
    exact HK t h2 (by simpa using o2) f2

theorem k_toGraph {S : Nat → Prop} {h : Heap} {s : Sl} {xss : List (List Int)} (H : RdR S h s xss) (hn : xss.length ≤ 1000000000000) (hm : totR xss ≤ 1000000000000) (K : Value → Heap → Prop) (HK : ∀ t h', OwX h' (fun k => h.size ≤ k) t xss → Fr No h h' → K (.agg #[t.v]) h') : callM Try.prog 18 #[.agg #[s.v]] h K := by
  refine v18 s h K fun b1 b2 b3 h1 hb1 hb2 hb3 f1 hL1 => ?_
  have f1 := f1.in_nil
  refine k_toIntSS (H.no f1) hn hm _ fun t h2 o2 f2 => ⟨t, rfl, hL1.of_no f2, fun h3 f3 hL3 => ?_⟩
  have l3 : b3 < h1.size := hL1.head.lt
  have l2 : b2 < h1.size := hL1.tail.head.lt
  have s1 := f1.size
  refine HK t h3 ((o2.fr f3 fun k _ hk => In.off (n := h1.size) (by simp; omega) hk).mono fun k _ hk => by omega) ((f1.no_trans f2).fresh f3 (in_ge (by simp; omega)))

theorem k_toWalk {S : Nat → Prop} {h : Heap} {s : Sl} {xs : List Int} (H : RdI S h s xs) (p : Int) (hn : xs.length ≤ 1000000000000) (K : Value → Heap → Prop) (HK : ∀ t h', OwI h' (fun k => h.size ≤ k) t xs → Fr No h h' → K (.agg #[t.v, VI p]) h') : callM Try.prog 19 #[.agg #[s.v, VI p]] h K := by
  refine v19 s p h K fun b1 b2 b3 h1 hb1 hb2 hb3 f1 hL1 => ?_
  have f1 := f1.in_nil
  refine k_toIntS (H.no f1) hn _ fun t h2 o2 f2 => ⟨t, rfl, hL1.of_no f2, fun h3 f3 hL3 => ?_⟩
  have l3 : b3 < h1.size := hL1.head.lt
  have l2 : b2 < h1.size := hL1.tail.head.lt
  have s1 := f1.size
  refine HK t h3 ((Ow.fr o2 f3 fun k hk => In.off (n := h1.size) (by simp; omega) (o2.foot hk).1).mono fun k _ hk => by omega) ((f1.no_trans f2).fresh f3 (in_ge (by simp; omega)))

theorem frOwn {h h' : Heap} {F : Nat → Prop} {e : TypeId} {sz : Nat} {s : Sl} {vs : List Value} {b : Heap} (H : Ow h F e sz s vs) (f : Fr s.own h h') : Fr F h h' := f.mono fun _ _ hk => (H.foot hk).1

theorem g_szIntS {S : Nat → Prop} {h : Heap} {s : Sl} {xs : List Int} (H : RdI S h s xs) (left : Int) (h0 : 0 ≤ left) (h1 : left ≤ 1048576) (K : Value → Heap → Prop) (HK : ∀ (h' : Heap) (r : Int), Fr No h h' → r = -1 ∨ (0 ≤ r ∧ r = left - xs.length) → K (VI r) h') : callM Try.prog 65 #[s.v, VI left] h K := k_szIntS H left h0 h1 K fun r hr => HK h r (Fr.refl _ _) hr

theorem g_szGraph {S : Nat → Prop} {h : Heap} {s : Sl} {xss : List (List Int)} (H : RdR S h s xss) (left : Int) (h0 : 0 ≤ left) (h1 : left ≤ 1048576) (K : Value → Heap → Prop) (HK : ∀ (h' : Heap) (r : Int), Fr No h h' → r = -1 ∨ (0 ≤ r ∧ r = left - xss.length - totR xss) → K (VI r) h') : callM Try.prog 15 #[.agg #[s.v], VI left] h K := k_szGraph H left h0 h1 K HK

theorem g_szWalk {S : Nat → Prop} {h : Heap} {s : Sl} {xs : List Int} (H : RdI S h s xs) (p left : Int) (h0 : 0 ≤ left) (h1 : left ≤ 1048576) (K : Value → Heap → Prop) (HK : ∀ (h' : Heap) (r : Int), Fr No h h' → r = -1 ∨ (0 ≤ r ∧ r = left - xs.length) → K (VI r) h') : callM Try.prog 16 #[.agg #[s.v, VI p], VI left] h K := k_szWalk H p left h0 h1 K HK

theorem g_toIntS {S : Nat → Prop} {h : Heap} {s : Sl} {xs : List Int} (H : RdI S h s xs) (hn : xs.length ≤ 1048576) (K : Value → Heap → Prop) (HK : ∀ t h', OwI h' (Iv h.size h'.size) t xs → Fr No h h' → K t.v h') : callM Try.prog 42 #[s.v] h K := k_toIntS H (by omega) K fun t h' o f => HK t h' o.toIv f

theorem g_toGraph {S : Nat → Prop} {h : Heap} {s : Sl} {xss : List (List Int)} (H : RdR S h s xss) (hn : xss.length + totR xss ≤ 1048576) (K : Value → Heap → Prop) (HK : ∀ t h', OwX h' (Iv h.size h'.size) t xss → Fr No h h' → K (.agg #[t.v]) h') : callM Try.prog 18 #[.agg #[s.v]] h K := k_toGraph H (by omega) (by omega) K fun t h' o f => HK t h' o.toIv f

theorem g_toWalk {S : Nat → Prop} {h : Heap} {s : Sl} {xs : List Int} (H : RdI S h s xs) (p : Int) (hn : xs.length ≤ 1048576) (K : Value → Heap → Prop) (HK : ∀ t h', OwI h' (Iv h.size h'.size) t xs → Fr No h h' → K (.agg #[t.v, VI p]) h') : callM Try.prog 19 #[.agg #[s.v, VI p]] h K := k_toWalk H p (by omega) K fun t h' o f => HK t h' o.toIv f

theorem g_eqIntS {S S' : Nat → Prop} {h : Heap} {a b : Sl} {xs : List Int} (H : RdI S h a xs) (H' : RdI S' h b xs) : Ret Try.prog 45 #[a.v, b.v] h (VB true) := fun K HK => k_eqIntS H H' K (by rw [decide_eq_true rfl]; exact HK h (Fr.refl _ _))

theorem g_eqIntSS {S S' : Nat → Prop} {h : Heap} {a b : Sl} {xs : List (List Int)} (H : RdR S h a xs) (H' : RdR S' h b xs) : Ret Try.prog 21 #[a.v, b.v] h (VB true) := fun K HK => k_eqIntSS H H' K (by rw [decide_eq_true rfl]; exact HK h (Fr.refl _ _))

theorem g_eqGraph {S S' : Nat → Prop} {h : Heap} {a b : Sl} {xs : List (List Int)} (H : RdR S h a xs) (H' : RdR S' h b xs) : Ret Try.prog 22 #[.agg #[a.v], .agg #[b.v]] h (VB true) := by have := k_eqGraph H H'; rwa [decide_eq_true rfl] at this

theorem g_eqWalk {S S' : Nat → Prop} {h : Heap} {a b : Sl} {xs : List Int} {p : Int} (H : RdI S h a xs) (H' : RdI S' h b xs) : Ret Try.prog 23 #[.agg #[a.v, VI p], .agg #[b.v, VI p]] h (VB true) := by have := k_eqWalk H H' p p; rwa [decide_eq_true ⟨rfl, rfl⟩] at this

theorem g_markIntS {a b : Nat} {h : Heap} {s : Sl} {xs : List Int} (H : OwI h (Iv a b) s xs) (hn : xs.length ≤ 1048576) (k : Int) (h0 : 1 ≤ k) (hk : k ≤ 10000000000) (K : Value → Heap → Prop) (HK : ∀ h', OwI h' (Iv a b) s (numI k xs) → Fr (Iv a b) h h' → K (VI (k + xs.length)) h') : callM Try.prog 49 #[s.v, VI k] h K := k_markIntS H k (by omega) (by omega) (by omega) K fun h' o f => HK h' o (f.mono fun _ _ hk => (H.foot hk).1)

theorem g_markIntSS {a b : Nat} {h : Heap} {s : Sl} {xss : List (List Int)} (H : OwX h (Iv a b) s xss) (hn : totR xss ≤ 1048576) (k : Int) (h0 : 1 ≤ k) (hk : k ≤ 10000000000) (K : Value → Heap → Prop) (HK : ∀ h', OwX h' (Iv a b) s (numR k xss) → Fr (Iv a b) h h' → K (VI (k + totR xss)) h') : callM Try.prog 26 #[s.v, VI k] h K := k_markIntSS H k (by omega) (by omega) (by omega) K HK

theorem g_markGraph {a b : Nat} {h : Heap} {s : Sl} {xss : List (List Int)} (H : OwX h (Iv a b) s xss) (hn : totR xss ≤ 1048576) (k : Int) (h0 : 1 ≤ k) (hk : k ≤ 10000000000) (K : Value → Heap → Prop) (HK : ∀ h', OwX h' (Iv a b) s (numR k xss) → Fr (Iv a b) h h' → K (VI (k + totR xss)) h') : callM Try.prog 24 #[.agg #[s.v], VI k] h K := k_markGraph H k (by omega) (by omega) (by omega) K HK

theorem g_markWalk {a b : Nat} {h : Heap} {s : Sl} {xs : List Int} (H : OwI h (Iv a b) s xs) (hn : xs.length ≤ 1048576) (p k : Int) (h0 : 1 ≤ k) (hk : k ≤ 10000000000) (K : Value → Heap → Prop) (HK : ∀ h', OwI h' (Iv a b) s (numI k xs) → Fr (Iv a b) h h' → K (VI (k + xs.length)) h') : callM Try.prog 25 #[.agg #[s.v, VI p], VI k] h K := k_markWalk H p k (by omega) (by omega) (by omega) K fun h' o f => HK h' o (f.mono fun _ _ hk => (H.foot hk).1)

theorem g_heldIntS {S : Nat → Prop} {h : Heap} {s : Sl} {k : Int} {xs : List Int} (H : RdI S h s (numI k xs)) (hn : xs.length ≤ 1048576) (h0 : 1 ≤ k) (hk : k ≤ 10000000000) : Ret Try.prog 57 #[s.v, VI k] h (VI (k + xs.length)) := fun K HK => k_heldIntS k H (by omega) (by omega) (by omega) K (HK h (Fr.refl _ _))

theorem g_heldIntSS {S : Nat → Prop} {h : Heap} {s : Sl} {k : Int} {xss : List (List Int)} (H : RdR S h s (numR k xss)) (hn : totR xss ≤ 1048576) (h0 : 1 ≤ k) (hk : k ≤ 10000000000) : Ret Try.prog 27 #[s.v, VI k] h (VI (k + totR xss)) := fun K HK => k_heldIntSS k H (by omega) (by omega) (by omega) K (HK h (Fr.refl _ _))

theorem nil_of_none {S : Nat → Prop} {h : Heap} {s : Sl} {xs : List Int} (H : RdI S h s xs) (hn : s.a = none) : xs = [] := by
  cases xs with
  | nil => rfl
  | cons x xs =>
    obtain ⟨a, ha, _⟩ := RdV.cell H 0 (by simp)
    rw [hn] at ha
    cases ha

theorem k_Clone {S : Nat → Prop} {h : Heap} {s : Sl} {xs : List Int} (H : RdI S h s xs) (hn : xs.length ≤ 1000000000) (K : Value → Heap → Prop) (HK : ∀ t h', OwI h' (Iv h.size h'.size) t xs → Fr No h h' → K t.v h') : callM Try.prog 111 #[s.v] h K := by
  refine v111 s h K (pop_isnil rIs _ _ ⟨_, rfl, fun e => ?_, fun e => ?_⟩)
  · have : xs = [] := nil_of_none H (by simpa using e)
    subst this
    exact HK nilSl h (Ow.nil _ _ _ _) (Fr.refl _ _)
  · refine eop_lit rIs (fun k => h.size ≤ k) (fun _ h => h) 0 (by omega) [] rfl rfl fun t h1 n1 c1 o1 f1 l1 _ => ⟨t, rfl, .nil, ?_⟩
    refine eop_append rIs o1 (fun k hk => Nat.le_trans f1.size hk) (H.no f1) (plainVI _) (by have := H.len; omega) fun t' h2 n2 o2 f2 l2 => ⟨t', rfl, .nil, ?_⟩
    exact HK t' h2 (Ow.toIv (by simpa using o2)) (f1.fresh f2 l1)

theorem k_l1Own {S : Nat → Prop} {h : Heap} {s : Sl} {xs : List Int} (H : RdI S h s xs) (hn : xs.length ≤ 1000000000) (K : Value → Heap → Prop) (HK : ∀ t h', OwI h' (Iv h.size h'.size) t xs → Fr No h h' → K t.v h') : callM Try.prog 116 #[s.v] h K := by
  refine v116 s h K ?_
  refine eop_lit rIs (fun k => h.size ≤ k) (fun _ h => h) 0 (by omega) [] rfl rfl fun t h1 n1 c1 o1 f1 l1 _ => ⟨t, rfl, .nil, ?_⟩
  refine eop_append rIs o1 (fun k hk => Nat.le_trans f1.size hk) (H.no f1) (plainVI _) (by have := H.len; omega) fun t' h2 n2 o2 f2 l2 => ⟨t', rfl, .nil, ?_⟩
  exact HK t' h2 (Ow.toIv (by simpa using o2)) (f1.fresh f2 l1)

/-- Every list of these is short. -/
def shortR (n : Nat) (xss : List (List Int)) : Prop := xss.length ≤ n ∧ ∀ l, l ∈ xss → l.length ≤ n
theorem tot_short {n : Nat} : ∀ {xss : List (List Int)} {m : Nat}, xss.length ≤ m → (∀ l, l ∈ xss → l.length ≤ n) → totR xss ≤ m * n
  | [], m, _, _ => by simp [totR]
  | x :: xs, 0, h, _ => by simp at h
  | x :: xs, m + 1, h, h2 => by
    have h3 := tot_short (n := n) (xss := xs) (m := m) (by simpa using h) fun l hl => h2 l (List.mem_cons_of_mem _ hl)
    have h4 := h2 x (by simp)
    have h5 : totR (x :: xs) = x.length + totR xs := by simp [totR]
    rw [h5, Nat.add_mul]
    omega
theorem short_of_tot {xss : List (List Int)} : ∀ l, l ∈ xss → l.length ≤ totR xss := by
  induction xss with
  | nil => intro l h; simp at h
  | cons x xs ih =>
    intro l hl
    have h5 : totR (x :: xs) = x.length + totR xs := by simp [totR]
    rcases List.mem_cons.1 hl with rfl | hl
    · omega
    · have := ih l hl; omega

def toldP (xss : List (List Int)) : List (List Int) := if graphB xss then xss else []
def addP (g : List (List Int)) (p q : Int) : List (List Int) × Bool :=
  if graphB g && inR 0 ((g.length : Int) - 1) p && inR 0 ((g.length : Int) - 1) q then (toldP (g.set p.toNat (g.getD p.toNat [] ++ [q])), graphB (g.set p.toNat (g.getD p.toNat [] ++ [q]))) else ([], false)
theorem inR_iff {lo hi x : Int} : inR lo hi x = true ↔ lo ≤ x ∧ x ≤ hi := by simp [inR]
theorem graph_len {g : List (List Int)} (h : graphB g = true) : 1 ≤ g.length ∧ g.length ≤ 8 := by
  unfold graphB at h
  rw [Bool.and_eq_true, inR_iff] at h
  omega
theorem graph_mem {g : List (List Int)} (h : graphB g = true) {l : List Int} (hl : l ∈ g) : l.length ≤ 5 ∧ ∀ x, x ∈ l → 0 ≤ x ∧ x < (g.length : Int) := by
  unfold graphB at h
  rw [Bool.and_eq_true] at h
  have := List.all_eq_true.1 h.2 l hl
  rw [Bool.and_eq_true] at this
  obtain ⟨h1, h2⟩ := this
  simp only [Bool.not_eq_true', decide_eq_false_iff_not] at h1
  refine ⟨by omega, fun x hx => ?_⟩
  have := List.all_eq_true.1 h2 x hx
  rw [inR_iff] at this
  omega
theorem graph_tot {g : List (List Int)} (h : graphB g = true) : totR g ≤ 40 := by
  have := tot_short (n := 5) (xss := g) (m := 8) (graph_len h).2 fun l hl => (graph_mem h hl).1
  omega
theorem toldP_tot (g : List (List Int)) : (toldP g).length + totR (toldP g) ≤ 48 := by
  unfold toldP
  split
  · rename_i h
    have := graph_tot h
    have := graph_len h
    omega
  · simp [totR]
theorem addP_tot (g : List (List Int)) (p q : Int) : (addP g p q).1.length + totR (addP g p q).1 ≤ 48 := by
  unfold addP
  split
  · exact toldP_tot _
  · simp [totR]
theorem getD_get {g : List (List Int)} {i : Nat} (h : i < g.length) : g.getD i [] = g[i] := by simp [List.getD, List.getElem?_eq_getElem h]

theorem totR_flat (xss : List (List Int)) : xss.flatten.length = totR xss := by simp [totR, List.length_flatten]

def rotL (l : List Int) (k : Nat) : List Int := l.drop (k % l.length) ++ l.take (k % l.length)
def turnP (g : List (List Int)) (p k : Int) : List (List Int) × Bool :=
  if graphB g && inR 0 ((g.length : Int) - 1) p && inR 0 1000 k then (g.set p.toNat (rotL (g.getD p.toNat []) k.toNat), true) else ([], false)
theorem rotL_length (l : List Int) (k : Nat) : (rotL l k).length = l.length := by
  unfold rotL
  simp
  rcases Nat.eq_zero_or_pos l.length with h | h
  · simp [h]
  · have := Nat.mod_lt k h
    omega
theorem rot_get (l : List Int) (j i : Nat) (h : i < l.length) (hj : j < l.length) : (l.drop j ++ l.take j)[i]? = l[(i + j) % l.length]? := by
  by_cases h1 : i < (l.drop j).length
  · rw [List.getElem?_append_left h1]
    simp only [List.length_drop] at h1
    rw [Nat.mod_eq_of_lt (by omega), List.getElem?_drop]
    congr 1
    omega
  · rw [List.getElem?_append_right (by omega)]
    simp only [List.length_drop] at h1 ⊢
    rw [Nat.mod_eq_sub_mod (by omega), Nat.mod_eq_of_lt (by omega), List.getElem?_take, if_pos (by omega)]
    congr 1
    omega
theorem rotL_get (l : List Int) (k i : Nat) (h : i < l.length) : (rotL l k)[i]'(by rw [rotL_length]; exact h) = l[(i + k) % l.length]'(Nat.mod_lt _ (by omega)) := by
  have hm := Nat.mod_lt k (show 0 < l.length by omega)
  have := rot_get l (k % l.length) i h hm
  rw [Nat.add_mod_mod, List.getElem?_eq_getElem (by simp; omega), List.getElem?_eq_getElem (Nat.mod_lt _ (by omega))] at this
  exact Option.some.inj this
theorem totR_set (xss : List (List Int)) (i : Nat) (ys : List Int) : totR (xss.set i ys) ≤ totR xss + ys.length := by
  induction xss generalizing i with
  | nil => simp [totR]
  | cons x xs ih =>
    cases i with
    | zero => simp [totR]; omega
    | succ i =>
      have := ih i
      simp only [totR, List.set_cons_succ, List.map_cons, List.sum_cons] at *
      omega
theorem turnP_tot (g : List (List Int)) (p k : Int) : (turnP g p k).1.length + totR (turnP g p k).1 ≤ 100 := by
  unfold turnP
  split
  · rename_i h
    rw [Bool.and_eq_true, Bool.and_eq_true, inR_iff, inR_iff] at h
    obtain ⟨⟨h1, h2, h3⟩, _⟩ := h
    have a := graph_tot h1
    have b := graph_len h1
    have c := totR_set g p.toNat (rotL (g.getD p.toNat []) k.toNat)
    rw [rotL_length, getD_get (by omega)] at c
    have d := (graph_mem h1 (List.getElem_mem (show p.toNat < g.length by omega))).1
    simp only [List.length_set]
    rw [getD_get (by omega)]
    omega
  · simp [totR]
theorem tmod_nat {k n : Int} (h0 : 0 ≤ k) (hn : 0 ≤ n) : Int.tmod k n = ((k.toNat % n.toNat : Nat) : Int) := by
  obtain ⟨a, rfl⟩ := Int.eq_ofNat_of_zero_le h0
  obtain ⟨b, rfl⟩ := Int.eq_ofNat_of_zero_le hn
  rfl

/-- A walk's state: its rotors and its place. -/
abbrev St := List Int × Int
def stepP (g : List (List Int)) (w : St) : Option St :=
  if (g.getD w.2.toNat []).length = 0 then none
  else some (w.1.set w.2.toNat ((((w.1.getD w.2.toNat 0).toNat + 1) % (g.getD w.2.toNat []).length : Nat) : Int), (g.getD w.2.toNat []).getD (((w.1.getD w.2.toNat 0).toNat + 1) % (g.getD w.2.toNat []).length) 0)
structure WOK (g : List (List Int)) (w : St) : Prop where
  graph : graphB g = true
  len : w.1.length = g.length
  lo : 0 ≤ w.2
  hi : w.2 < (g.length : Int)
  rot : ∀ i (h : i < w.1.length) (h' : i < g.length), 0 ≤ w.1[i] ∧ w.1[i] ≤ max ((g[i].length : Int) - 1) 0
theorem wok_of {g : List (List Int)} {rs : List Int} {p : Int} (h : walkB g rs p = true) : WOK g (rs, p) := by
  unfold walkB at h
  simp only [Bool.and_eq_true, decide_eq_true_eq] at h
  obtain ⟨⟨⟨h1, h2⟩, h3⟩, h4⟩ := h
  rw [inR_iff] at h2
  refine ⟨h1, h3, h2.1, by simp only; omega, fun i a b => ?_⟩
  have := List.all_eq_true.1 h4 (g[i], rs[i]) (by
    rw [show (g[i], rs[i]) = (g.zip rs)[i]'(by simp only [List.length_zip]; simp only at a; omega) by simp]
    exact List.getElem_mem _)
  unfold rotB at this
  rw [inR_iff] at this
  exact this
theorem stepP_none {g : List (List Int)} {w : St} (W : WOK g w) (hp : w.2.toNat < g.length) : (g[w.2.toNat]).length = 0 → stepP g w = none := fun h => by
  unfold stepP
  rw [getD_get hp, if_pos h]
theorem getD_getI {xs : List Int} {i : Nat} (h : i < xs.length) : xs.getD i 0 = xs[i] := by simp [List.getD, List.getElem?_eq_getElem h]
theorem stepP_some {g : List (List Int)} {w : St} (W : WOK g w) (hp : w.2.toNat < g.length) (hr : w.2.toNat < w.1.length) (h : (g[w.2.toNat]).length ≠ 0) :
    stepP g w = some (w.1.set w.2.toNat ((((w.1[w.2.toNat]).toNat + 1) % (g[w.2.toNat]).length : Nat) : Int), (g[w.2.toNat])[((w.1[w.2.toNat]).toNat + 1) % (g[w.2.toNat]).length]'(Nat.mod_lt _ (by omega))) := by
  unfold stepP
  rw [getD_get hp, if_neg h, getD_getI hr, getD_getI (Nat.mod_lt _ (by omega))]
theorem WOK.step {g : List (List Int)} {w w' : St} (W : WOK g w) (h : stepP g w = some w') : WOK g w' := by
  have hp : w.2.toNat < g.length := by have := W.hi; have := W.lo; omega
  have hr : w.2.toNat < w.1.length := by rw [W.len]; exact hp
  by_cases h0 : (g[w.2.toNat]).length = 0
  · rw [stepP_none W hp h0] at h; cases h
  · rw [stepP_some W hp hr h0] at h
    have hm := Nat.mod_lt ((w.1[w.2.toNat]).toNat + 1) (show 0 < (g[w.2.toNat]).length by omega)
    simp only [Option.some.injEq] at h
    subst h
    have hmem := (graph_mem W.graph (List.getElem_mem hp)).2 _ (List.getElem_mem hm)
    refine ⟨W.graph, by simpa using W.len, hmem.1, hmem.2, fun i a b => ?_⟩
    simp only [List.length_set] at a
    simp only [List.getElem_set]
    split
    · rename_i e
      subst e
      omega
    · exact W.rot i a b

theorem k_copiedW {S : Nat → Prop} {h : Heap} {s : Sl} {xs : List Int} (H : RdI S h s xs) (p : Int) (hn : xs.length ≤ 1000000000) (K : Value → Heap → Prop) (HK : ∀ t h', OwI h' (Iv h.size h'.size) t xs → Fr No h h' → K (.agg #[t.v, VI p]) h') : callM Try.prog 70 #[.agg #[s.v, VI p]] h K := by
  refine v70 s p h K fun b1 b2 h2 hb1 hb2 f2 hL2 => ?_
  have f2 := f2.in_nil
  have l2 : b2 < h2.size := hL2.head.lt
  have s2 := f2.size
  refine k_Clone (H.no f2) hn _ fun t h3 o3 f3 => ⟨t, rfl, hL2.of_no f3, fun h4 f4 hL4 => ?_⟩
  have f4 := f4.inIv (lo := h.size) (hi := h2.size) ⟨⟨hb2, l2⟩, trivial⟩
  exact HK t h4 ((Ow.iv o3 f4 (.inr (Nat.le_refl _))).mono fun k hk hF => ⟨Nat.le_trans s2 hF.1, Nat.lt_of_lt_of_le hF.2 f4.size⟩) ((f2.no_trans f3).ivFresh f4 (Nat.le_refl _))

theorem k_stepF {F S : Nat → Prop} {b : Nat} {h : Heap} {g w : Sl} {xss : List (List Int)} {s : St} (G : RdR S h g xss) (V : IsVar h b [w.v, VI s.2]) (H : OwI h F w s.1) (hS : ∀ k, S k → ¬ F k) (hFb : F b) (hbw : ¬ w.own b) (W : WOK xss s) (K : Value → Heap → Prop)
    (HN : stepP xss s = none → ∀ h', Fr No h h' → K (VB false) h') (HS : ∀ s', stepP xss s = some s' → ∀ h', OwI h' F w s'.1 → IsVar h' b [w.v, VI s'.2] → Fr F h h' → K (VB true) h') :
    callM Try.prog 112 #[.agg #[g.v], VP b 0] h K := by
  have hp : s.2.toNat < xss.length := by have := W.hi; have := W.lo; omega
  have hr : s.2.toNat < s.1.length := by rw [W.len]; exact hp
  have hlo := W.lo
  refine v112 g b w s.2 h K (.cons V (by simp) .nil) ⟨G.inb W.lo W.hi, fun b2 h1 hb2 f1 hL1 => ?_⟩
  have f1 := f1.in_nil
  obtain ⟨si, c1, c2⟩ := (G.no f1).get W.lo W.hi
  have H1 := Ow.no H f1
  have hn1 : w.n = s.1.length := RdI.len H.rdF
  refine ⟨si, c1, fun e => ?_, fun e => ?_⟩
  · simp only [decide_eq_true_eq] at e
    exact HN (stepP_none W hp (by have := c2.len; omega)) h1 f1
  · simp only [decide_eq_false_iff_not] at e
    have h0 : (xss[s.2.toNat]'hp).length ≠ 0 := by have := c2.len; omega
    have hst := stepP_some W hp hr h0
    have hm := Nat.mod_lt ((s.1[s.2.toNat]'hr).toNat + 1) (show 0 < (xss[s.2.toNat]'hp).length by omega)
    have hrot := W.rot _ hr hp
    have hbig := (graph_mem W.graph (List.getElem_mem hp)).1
    have hw : w64 (s.1[s.2.toNat]'hr + 1) = s.1[s.2.toNat]'hr + 1 := w64_eq _ (by omega) (by omega)
    have hm2 : Int.tmod (s.1[s.2.toNat]'hr + 1) (si.n : Int) = ((((s.1[s.2.toNat]'hr).toNat + 1) % (xss[s.2.toNat]'hp).length : Nat) : Int) := by
      rw [tmod_nat (by omega) (by omega), c2.len]
      congr 2
      omega
    have R1 : RdI F h1 w s.1 := H1.rdF
    refine ⟨R1.inb hlo (by omega), _, R1.get hlo (by omega), by omega, R1.inb hlo (by omega), ?_⟩
    rw [hw, hm2]
    obtain ⟨w1, w2, w3⟩ := H1.store1 hlo (by omega) (VI ((((s.1[s.2.toNat]'hr).toNat + 1) % (xss[s.2.toNat]'hp).length : Nat) : Int))
    have w3' : Fr F h1 _ := w3.mono fun k _ hk => (H1.foot hk).1
    have hbl := V.lt
    have hL2 := hL1.fr w3 fun p hp => by
      simp only [List.mem_cons, List.not_mem_nil, or_false] at hp
      rcases hp with rfl | rfl
      · exact fun hk => by have := (H.foot hk).2; simp only at this; omega
      · exact hbw
    refine ⟨w1, hL2, fun h2 e2 _ => ?_⟩
    subst e2
    rw [← List.map_set] at w2
    have R2 : RdI F _ w _ := w2.rdF
    have c2' := RdI.fr c2 w3' hS
    have hv : hcell (hset h1 (w.at s.2 1) (VI ((((s.1[s.2.toNat]'hr).toNat + 1) % (xss[s.2.toNat]'hp).length : Nat) : Int))) (w.at s.2 1) = some (VI ((((s.1[s.2.toNat]'hr).toNat + 1) % (xss[s.2.toNat]'hp).length : Nat) : Int)) := by
      have := R2.get (i := s.2) hlo (by simp; omega)
      simpa using this
    have hq := c2'.get (i := ((((s.1[s.2.toNat]'hr).toNat + 1) % (xss[s.2.toNat]'hp).length : Nat) : Int)) (by omega) (by omega)
    simp only [Int.toNat_natCast] at hq
    refine ⟨R2.inb hlo (by simp; omega), _, hv, c2'.inb (by omega) (by omega), _, hq, fun h3 f3 hL3 => ?_⟩
    have f3' : Fr F _ h3 := f3.mono fun k _ hk => by simp only [In, List.mem_cons, List.not_mem_nil, or_false] at hk; subst hk; exact hFb
    refine HS _ hst h3 ?_ ?_ ((f1.of_no.trans w3').trans f3')
    · exact Ow.fr w2 f3 fun k hk hk2 => by
        simp only [In, List.mem_cons, List.not_mem_nil, or_false] at hk2
        subst hk2
        exact hbw hk
    · exact hL3.tail.head

theorem k_step {a c b : Nat} {h : Heap} {g w : Sl} {xss : List (List Int)} {s : St} (G : RdR (Iv 0 a) h g xss) (V : IsVar h b [w.v, VI s.2]) (H : OwI h (Iv a c) w s.1) (hb0 : a ≤ b) (hb1 : b < c) (hbw : ¬ w.own b) (W : WOK xss s) (K : Value → Heap → Prop)
    (HN : stepP xss s = none → ∀ h', Fr No h h' → K (VB false) h') (HS : ∀ s', stepP xss s = some s' → ∀ h', OwI h' (Iv a c) w s'.1 → IsVar h' b [w.v, VI s'.2] → Fr (Iv a c) h h' → K (VB true) h') :
    callM Try.prog 112 #[.agg #[g.v], VP b 0] h K :=
  k_stepF G V H (fun k hk hk2 => by have := hk.2; have := hk2.1; omega) ⟨hb0, hb1⟩ hbw W K HN HS

theorem k_waStep {S S' : Nat → Prop} {h : Heap} {g w : Sl} {xss : List (List Int)} {s : St} (G : RdR S h g xss) (H : RdI S' h w s.1) (W : WOK xss s) (K : Value → Heap → Prop)
    (HN : stepP xss s = none → ∀ h', Fr No h h' → K (.tuple #[.agg #[w.v, VI s.2], VB false]) h') (HS : ∀ s', stepP xss s = some s' → ∀ t h', OwI h' (Iv h.size h'.size) t s'.1 → Fr No h h' → K (.tuple #[.agg #[t.v, VI s'.2], VB true]) h') :
    callM Try.prog 76 #[.agg #[g.v], .agg #[w.v, VI s.2]] h K := by
  have hp : s.2.toNat < xss.length := by have := W.hi; have := W.lo; omega
  have hr : s.2.toNat < s.1.length := by rw [W.len]; exact hp
  have hlo := W.lo
  refine v76 g w s.2 h K ⟨G.inb W.lo W.hi, fun b1 b2 b3 h3 hb1 hb2 hb3 f3 hL3 => ?_⟩
  have f3 := f3.in_nil
  have l3 : b3 < h3.size := hL3.head.lt
  have l2 : b2 < h3.size := hL3.tail.head.lt
  have l1 : b1 < h3.size := hL3.tail.tail.head.lt
  have s3 := f3.size
  have G3 := G.low.no f3
  obtain ⟨si, c1, c2⟩ := G3.get W.lo W.hi
  refine ⟨si, c1, fun e h4 f4 hL4 => ?_, fun e => ?_⟩
  · simp only [decide_eq_true_eq] at e
    have f4 := f4.inIv (lo := h.size) (hi := h3.size) ⟨⟨hb3, l3⟩, trivial⟩
    exact HN (stepP_none W hp (by have := c2.len; omega)) h4 (f3.ivFresh f4 (Nat.le_refl _))
  · simp only [decide_eq_false_iff_not] at e
    have h0 : (xss[s.2.toNat]'hp).length ≠ 0 := by have := c2.len; omega
    have hst := stepP_some W hp hr h0
    have hm := Nat.mod_lt ((s.1[s.2.toNat]'hr).toNat + 1) (show 0 < (xss[s.2.toNat]'hp).length by omega)
    have hrot := W.rot _ hr hp
    have hbig := (graph_mem W.graph (List.getElem_mem hp)).1
    have hglen := graph_len W.graph
    have hw : w64 (s.1[s.2.toNat]'hr + 1) = s.1[s.2.toNat]'hr + 1 := w64_eq _ (by omega) (by omega)
    have hm2 : Int.tmod (s.1[s.2.toNat]'hr + 1) (si.n : Int) = ((((s.1[s.2.toNat]'hr).toNat + 1) % (xss[s.2.toNat]'hp).length : Nat) : Int) := by
      rw [tmod_nat (by omega) (by omega), c2.len]
      congr 2
      omega
    refine k_l1Own (H.no f3) (by have := W.len; omega) _ fun t h5 o5 f5 => ⟨t, rfl, hL3.of_no f5, (H.inb hlo (by omega)), fun b4 h7 hb4 f7 hL7 => ?_⟩
    have f7 := f7.in_nil
    have s5 := f5.size
    have s7 := f7.size
    have l4 : b4 < h7.size := hL7.head.lt
    have f07 := (f3.no_trans f5).no_trans f7
    have H7 := H.no f07
    have o7 := Ow.no o5 f7
    have hn7 : t.n = s.1.length := RdI.len o7.rdF
    refine ⟨_, H7.get hlo (by omega), by omega, o7.inb hlo (by omega), ?_⟩
    rw [hw, hm2]
    obtain ⟨w1, w2, w3⟩ := o7.store1 hlo (by omega) (VI ((((s.1[s.2.toNat]'hr).toNat + 1) % (xss[s.2.toNat]'hp).length : Nat) : Int))
    have w3' : Fr (Iv h3.size h5.size) h7 _ := w3.mono fun k _ hk => (o7.foot hk).1
    have hL8 := hL7.iv w3' ⟨.inr hb4, .inl l3, .inl l2, .inl l1, trivial⟩
    refine ⟨w1, hL8, fun h8 e8 _ => ?_⟩
    subst e8
    rw [← List.map_set] at w2
    have c2' := ((c2.no f5).no f7).fr w3' fun k hk hk2 => by have := hk2.1; omega
    have hq := c2'.get (i := ((((s.1[s.2.toNat]'hr).toNat + 1) % (xss[s.2.toNat]'hp).length : Nat) : Int)) (by omega) (by omega)
    simp only [Int.toNat_natCast] at hq
    refine ⟨c2'.inb (by omega) (by omega), _, hq, fun h10 f10 hL10 => ?_⟩
    have s8 := w3'.size
    have e1 : Fr No h h10 := by
      refine (f07.ivFresh w3' (by omega)).fresh f10 fun k hk => ?_
      simp only [In, List.mem_cons, List.not_mem_nil, or_false] at hk
      rcases hk with rfl | rfl <;> omega
    refine HS _ hst t h10 ?_ e1
    have s10 := f10.size
    refine (Ow.fr w2 f10 fun k hk hk2 => ?_).mono fun k _ hk => ⟨by have := hk.1; omega, by have := hk.2; omega⟩
    have := (o7.foot hk).1
    have h1 := this.1
    have h2 := this.2
    simp only [In, List.mem_cons, List.not_mem_nil, or_false] at hk2
    rcases hk2 with rfl | rfl <;> omega

def firstGo {τ : Type} (g : List (List Int)) (test : τ → St → Bool × τ) (frm : Int) : Nat → Int → τ → St → Int × Bool
  | 0, _, _, _ => (0, false)
  | f + 1, n, t, s =>
    if frm ≤ n then
      if (test t s).1 then (n, true)
      else match stepP g s with
        | none => (0, false)
        | some s' => firstGo g test frm f (n + 1) (test t s).2 s'
    else match stepP g s with
      | none => (0, false)
      | some s' => firstGo g test frm f (n + 1) t s'

def hitP (g : List (List Int)) (rs : List Int) (p q : Int) : Int × Bool :=
  if walkB g rs p && (graphB g && inR 0 ((g.length : Int) - 1) q) then firstGo g (fun (_ : Unit) s => (decide (s.2 = q), ())) 0 2001 0 () (rs, p) else (0, false)
theorem rdI_not {S : Nat → Prop} {h : Heap} {s : Sl} {xs : List Int} (H : RdI S h s xs) {b : Nat} (hb : h.size ≤ b) : RdI (fun k => k ≠ b) h s xs := H.low.mono fun k hk => by omega

def metT (met : List Bool) (s : St) : Bool × List Bool := (!((met.set s.2.toNat true).any (false == ·)), met.set s.2.toNat true)
def coverP (g : List (List Int)) (rs : List Int) (p : Int) : Int × Bool :=
  if walkB g rs p then firstGo g metT 0 2001 0 (List.replicate g.length false) (rs, p) else (0, false)

def sameT (rs : List Int) (p : Int) (_ : Unit) (s : St) : Bool × Unit := (decide (p = s.2 ∧ rs = s.1), ())
def recP (g : List (List Int)) (rs : List Int) (p : Int) : Bool × Bool :=
  if walkB g rs p then ((firstGo g (sameT rs p) 1 2001 0 () (rs, p)).2, true) else (false, false)
theorem first_pos (g : List (List Int)) (test : Unit → St → Bool × Unit) : ∀ (f : Nat) (n : Int) (s : St), 0 ≤ n → (firstGo g test 1 f n () s).2 = decide (0 < (firstGo g test 1 f n () s).1)
  | 0, n, s, _ => by simp [firstGo]
  | f + 1, n, s, h => by
    rw [firstGo]
    split
    · split
      · have : 0 < n := by omega
        simp [this]
      · split
        · simp
        · exact first_pos g test f (n + 1) _ (by omega)
    · split
      · simp
      · exact first_pos g test f (n + 1) _ (by omega)

def runT {τ : Type} (g : List (List Int)) (upd : τ → St → St → τ) : Nat → τ → St → Option (τ × St)
  | 0, t, s => some (t, s)
  | n + 1, t, s => match stepP g s with
    | none => none
    | some s' => runT g upd n (upd t s s') s'

theorem runT_snoc {τ : Type} {g : List (List Int)} {upd : τ → St → St → τ} {s'' : St} : ∀ (n : Nat) (t : τ) (s : St) (t' : τ) (s' : St), runT g upd n t s = some (t', s') → stepP g s' = some s'' → runT g upd (n + 1) t s = some (upd t' s' s'', s'')
  | 0, t, s, t', s', h, hs => by
    simp only [runT, Option.some.injEq, Prod.mk.injEq] at h
    obtain ⟨rfl, rfl⟩ := h
    rw [runT, hs]
    rfl
  | n + 1, t, s, t', s', h, hs => by
    rw [runT] at h
    rw [runT]
    split at h
    · cases h
    · rename_i s2 h2
      exact runT_snoc n _ _ _ _ h hs

theorem k_run {τ : Type} (upd : τ → St → St → τ) (C : Nat → τ → Heap → Prop) (T0 : Nat → Prop) {F S : Nat → Prop} {b : Nat} {h : Heap} {g w : Sl} {xss : List (List Int)} {s0 : St} (G : RdR S h g xss) (V : IsVar h b [w.v, VI s0.2]) (H : OwI h F w s0.1) (hS : ∀ k, S k → ¬ F k ∧ ¬ T0 k) (hFb : F b) (hbw : ¬ w.own b) (W : WOK xss s0) (n : Int) (hn0 : 0 ≤ n) (hn1 : n ≤ 1000000) (wt : Value) (t0 : τ)
    (hF : ∀ k, F k → k < h.size) (hT0 : ∀ k, T0 k → ¬ F k ∧ k < h.size) (hC0 : ∀ N, h.size ≤ N → C N t0 h) (hC : ∀ N t h1 h2 (U : Nat → Prop), C N t h1 → Fr U h1 h2 → (∀ k, U k → ¬ T0 k ∧ k < N) → C N t h2)
    (hw : ∀ N t s s' h1 (K : Value → Heap → Prop), h.size ≤ N → N ≤ h1.size → C N t h1 → IsVar h1 b [w.v, VI s'.2] → OwI h1 F w s'.1 → WOK xss s → stepP xss s = some s' → (∃ m : Nat, (m : Int) < n ∧ runT xss upd m t0 s0 = some (t, s)) → (∀ h2 v, C N (upd t s s') h2 → Fr (fun k => T0 k ∨ N ≤ k) h1 h2 → K v h2) → callV Try.prog wt [VI s.2] h1 K)
    (K : Value → Heap → Prop)
    (HN : runT xss upd n.toNat t0 s0 = none → ∀ N t' h' p, h.size ≤ N → C N t' h' → IsVar h' b [w.v, VI p] → Fr (fun k => F k ∨ T0 k) h h' → K (VB false) h')
    (HS : ∀ t' s', runT xss upd n.toNat t0 s0 = some (t', s') → ∀ N h', h.size ≤ N → C N t' h' → OwI h' F w s'.1 → WOK xss s' → IsVar h' b [w.v, VI s'.2] → Fr (fun k => F k ∨ T0 k) h h' → K (VB true) h') :
    callM Try.prog 72 #[.agg #[g.v], VP b 0, VI n, wt] h K := by
  have hbl := V.lt
  refine v72 g b w s0.2 n wt h K (.cons V (by simp) .nil) fun b2 h1 hb2 f1 hL1 => ?_
  have f1 := f1.in_nil
  have l2 : b2 < h1.size := hL1.head.lt
  have z1 := f1.size
  have dis : ∀ k, F k → ¬ T0 k := fun k hk hk2 => (hT0 k hk2).1 hk
  refine ⟨fun m i x p h' => ∃ (t : τ) (s' : St), x = w ∧ p = s'.2 ∧ 0 ≤ i ∧ i + m = n ∧ C h1.size t h' ∧ OwI h' F w s'.1 ∧ WOK xss s' ∧ Fr (fun k => F k ∨ T0 k) h h' ∧ h1.size ≤ h'.size ∧ runT xss upd i.toNat t0 s0 = some (t, s') ∧ runT xss upd n.toNat t0 s0 = runT xss upd m t s', ⟨n.toNat, t0, s0, rfl, rfl, by omega, by omega, hC _ _ _ _ _ (hC0 _ z1) f1 (fun k hk => hk.elim), Ow.no H f1, W, f1.of_no, Nat.le_refl _, rfl, rfl⟩, ?_⟩
  rintro m i x p h2 ⟨t, s', rfl, rfl, i0, i1, c2, o2, W2, f2, z2, hm, eq⟩ hL2
  refine ⟨fun e => ?_, fun e => ?_⟩
  · simp only [decide_eq_true_eq] at e
    obtain ⟨m, rfl⟩ : ∃ q, m = q + 1 := ⟨m - 1, by omega⟩
    rw [runT] at eq
    have G2 : RdR S h2 g xss := G.fr f2 fun k hk hk2 => by
      rcases hk2 with hk2 | hk2
      · exact (hS k hk).1 hk2
      · exact (hS k hk).2 hk2
    refine k_stepF G2 hL2.tail.head o2 (fun k hk => (hS k hk).1) hFb hbw W2 _ (fun hs h3 f3 => ?_) fun s3 hs h3 o3 v3 f3 => ?_
    · rw [hs] at eq
      have hL3 := hL2.of_no f3
      exact ⟨x, s'.2, _, rfl, hL3, fun _ => HN eq _ _ h3 _ z1 (hC _ _ _ _ _ c2 f3 fun k hk => hk.elim) hL3.tail.head (f2.trans f3.of_no), fun e => by simp at e⟩
    · rw [hs] at eq
      have hL3 : Vars h3 [(b2, [g.v]), (b, [x.v, VI s3.2])] := .cons (hL2.head.fr f3 fun hk => by have := hF _ hk; omega) (fun p hp => by simp only [List.mem_cons, List.not_mem_nil, or_false] at hp; subst hp; simp only; omega) (.cons v3 (by simp) .nil)
      have c3 := hC _ _ _ _ _ c2 f3 fun k hk => ⟨dis k hk, by have := hF k hk; omega⟩
      have z3 := f3.size
      refine ⟨x, s3.2, _, rfl, hL3, fun e => by simp at e, fun _ => ?_⟩
      refine hw h1.size t s' s3 h3 _ z1 (by omega) c3 v3 o3 W2 hs ⟨i.toNat, by omega, hm⟩ fun h4 v c4 f4 => ?_
      have hL4 : Vars h4 [(b2, [g.v]), (b, [x.v, VI s3.2])] := hL3.fr f4 fun p hp hk => by
        simp only [List.mem_cons, List.not_mem_nil, or_false] at hp
        rcases hp with rfl | rfl <;> simp only at hk
        · rcases hk with hk | hk
          · have := (hT0 _ hk).2; omega
          · omega
        · rcases hk with hk | hk
          · exact (hT0 _ hk).1 hFb
          · have := hF _ hFb; omega
      rw [w64_eq (i + 1) (by omega) (by omega)]
      refine ⟨hL4, m, by omega, _, s3, rfl, rfl, by omega, by omega, c4, Ow.fr o3 f4 fun k hk hk2 => ?_, W2.step hs, ?_, by have := f4.size; omega, by rw [toNat_succ i0]; exact runT_snoc _ _ _ _ _ hm hs, eq⟩
      · have h5 := (o3.foot hk).1
        rcases hk2 with hk2 | hk2
        · exact (hT0 _ hk2).1 h5
        · have := hF _ h5; omega
      · refine ⟨by have := f2.size; have := f4.size; omega, fun k hk ht => ?_⟩
        rw [f4.same k (by have := f2.size; omega) fun h => by
          rcases h with h | h
          · exact ht (.inr h)
          · omega]
        rw [f3.same k (by have := f2.size; omega) fun h => ht (.inl h)]
        exact f2.same k hk ht
  · simp only [decide_eq_false_iff_not] at e
    obtain rfl : m = 0 := by omega
    rw [runT] at eq
    exact HS t s' eq h1.size h2 z1 c2 o2 W2 hL2.tail.head f2

theorem k_isRun {S S' : Nat → Prop} {h : Heap} {g s : Sl} {xss : List (List Int)} {rs : List Int} (G : RdR S h g xss) (H : RdI S' h s rs) (p n most : Int) : Ret Try.prog 69 #[.agg #[g.v], .agg #[s.v, VI p], VI n, VI most] h (VB (walkB xss rs p && inR 0 most n)) := by
  intro K HK
  refine v69 g s p n most h K fun b1 b2 h2 hb1 hb2 f2 hL2 => ?_
  have f2 := f2.in_nil
  refine k_isWalk (G.no f2) (H.no f2) p _ fun h3 f3 => ⟨_, rfl, hL2.of_no f3, fun e => ?_, fun e => ?_⟩
  · rw [e, Bool.true_and] at HK
    exact k_impl_in _ _ _ _ _ ⟨_, rfl, hL2.of_no f3, HK _ (f2.no_trans f3)⟩
  · rw [e, Bool.false_and] at HK
    exact HK _ (f2.no_trans f3)

theorem k_waAsked {S S' : Nat → Prop} {h : Heap} {g s : Sl} {xss : List (List Int)} {rs : List Int} (G : RdR S h g xss) (H : RdI S' h s rs) (p n : Int) : Ret Try.prog 66 #[.agg #[g.v], .agg #[s.v, VI p], VI n] h (VB (walkB xss rs p && inR 0 2000 n)) := by
  intro K HK
  refine v66 g s p n h K fun b1 b2 h2 hb1 hb2 f2 hL2 => ?_
  have f2 := f2.in_nil
  refine k_spec_waGood (G.no f2) (H.no f2) p _ fun h3 f3 => ⟨_, rfl, hL2.of_no f3, fun e => ?_, fun e => ?_⟩
  · rw [e, Bool.true_and] at HK
    exact k_spec_l1In _ _ _ _ _ ⟨_, rfl, hL2.of_no f3, HK _ (f2.no_trans f3)⟩
  · rw [e, Bool.false_and] at HK
    exact HK _ (f2.no_trans f3)

def runOfP (g : List (List Int)) (rs : List Int) (p n : Int) : St × Bool :=
  if walkB g rs p && inR 0 2000 n then match runT g (fun (_ : Unit) _ _ => ()) n.toNat () (rs, p) with
    | none => (([], 0), false)
    | some (_, s) => (s, true)
  else (([], 0), false)
theorem run_len {τ : Type} {g : List (List Int)} {upd : τ → St → St → τ} : ∀ (n : Nat) (t : τ) (s : St), WOK g s → ∀ t' s', runT g upd n t s = some (t', s') → WOK g s'
  | 0, t, s, W, t', s', h => by
    simp only [runT, Option.some.injEq, Prod.mk.injEq] at h
    rw [← h.2]; exact W
  | n + 1, t, s, W, t', s', h => by
    rw [runT] at h
    split at h
    · cases h
    · rename_i s2 hs
      exact run_len n _ s2 (W.step hs) t' s' h
theorem runOfP_len (g : List (List Int)) (rs : List Int) (p n : Int) : (runOfP g rs p n).1.1.length ≤ 8 := by
  unfold runOfP
  split
  · rename_i h
    rw [Bool.and_eq_true] at h
    have W := wok_of h.1
    split
    · simp
    · rename_i s hs
      have W2 := run_len _ _ _ W _ _ hs
      have := graph_len W2.graph
      have := W2.len
      simp only
      omega
  · simp

/-- A run: its end, what was passed, visits, uses. -/
structure Rn where
  s : St
  ps : List Int
  vs : List Int
  us : List (List Int)
def bump (l : List Int) (i : Nat) : List Int := l.set i (l.getD i 0 + 1)
def goP (g : List (List Int)) : Nat → Rn → Option Rn
  | 0, r => some r
  | n + 1, r => match stepP g r.s with
    | none => none
    | some s' => goP g n ⟨s', r.ps ++ [s'.2], bump r.vs s'.2.toNat, r.us.set r.s.2.toNat (bump (r.us.getD r.s.2.toNat []) (s'.1.getD r.s.2.toNat 0).toNat)⟩
def zerosR (g : List (List Int)) : List (List Int) := g.map fun l => List.replicate l.length 0
def go0 (g : List (List Int)) (s : St) : Rn := ⟨s, [s.2], List.replicate g.length 0, zerosR g⟩
/-- What holds of a run on its way. -/
structure RnOK (g : List (List Int)) (m : Nat) (r : Rn) : Prop where
  w : WOK g r.s
  ps : r.ps.length = m + 1
  vs : r.vs.length = g.length
  us : r.us.length = g.length
  row : ∀ i (h : i < r.us.length) (h' : i < g.length), r.us[i].length = g[i].length
  vb : ∀ x, x ∈ r.vs → 0 ≤ x ∧ x ≤ m
  ub : ∀ l, l ∈ r.us → ∀ x, x ∈ l → 0 ≤ x ∧ x ≤ m
theorem bump_length (l : List Int) (i : Nat) : (bump l i).length = l.length := by simp [bump]
theorem bump_mem {l : List Int} {i m : Nat} (h : ∀ x, x ∈ l → 0 ≤ x ∧ x ≤ (m : Int)) : ∀ x, x ∈ bump l i → 0 ≤ x ∧ x ≤ ((m + 1 : Nat) : Int) := by
  intro x hx
  unfold bump at hx
  rcases List.mem_or_eq_of_mem_set hx with hx | rfl
  · have := h x hx; omega
  · by_cases hi : i < l.length
    · rw [getD_getI hi]
      have := h _ (List.getElem_mem hi)
      omega
    · rw [show l.getD i 0 = 0 by simp [List.getD, List.getElem?_eq_none (by omega : l.length ≤ i)]]
      omega
theorem RnOK.step {g : List (List Int)} {m : Nat} {r : Rn} (R : RnOK g m r) {s' : St} (hs : stepP g r.s = some s') : RnOK g (m + 1) ⟨s', r.ps ++ [s'.2], bump r.vs s'.2.toNat, r.us.set r.s.2.toNat (bump (r.us.getD r.s.2.toNat []) (s'.1.getD r.s.2.toNat 0).toNat)⟩ := by
  have hp : r.s.2.toNat < r.us.length := by rw [R.us]; have := R.w.hi; have := R.w.lo; omega
  refine ⟨R.w.step hs, by simp [R.ps], by simp [bump_length, R.vs], by simp [R.us], fun i a b => ?_, bump_mem R.vb, fun l hl => ?_⟩
  · simp only [List.length_set] at a
    simp only [List.getElem_set]
    split
    · rename_i e
      subst e
      rw [bump_length, getD_get hp]
      exact R.row _ a b
    · exact R.row i a b
  · rcases List.mem_or_eq_of_mem_set hl with hl | rfl
    · exact fun x hx => by have := R.ub l hl x hx; omega
    · rw [getD_get hp]
      exact bump_mem (R.ub _ (List.getElem_mem hp))
theorem go0_ok {g : List (List Int)} {s : St} (W : WOK g s) : RnOK g 0 (go0 g s) := by
  refine ⟨W, rfl, by simp [go0], by simp [go0, zerosR], fun i a b => by simp [go0, zerosR], fun x hx => ?_, fun l hl x hx => ?_⟩
  · simp only [go0, List.mem_replicate] at hx
    omega
  · simp only [go0, zerosR, List.mem_map] at hl
    obtain ⟨l', _, rfl⟩ := hl
    simp only [List.mem_replicate] at hx
    omega

theorem k_waGo {S S' : Nat → Prop} {h : Heap} {g w : Sl} {xss : List (List Int)} {rs : List Int} (G : RdR S h g xss) (H : RdI S' h w rs) (p n : Int) (W : WOK xss (rs, p)) (hn0 : 0 ≤ n) (hn1 : n ≤ 2000) (K : Value → Heap → Prop)
    (HN : goP xss n.toNat (go0 xss (rs, p)) = none → ∀ h', Fr No h h' → K (.tuple #[.agg #[nilSl.v, VI 0, nilSl.v, nilSl.v, nilSl.v], VB false]) h')
    (HS : ∀ r, goP xss n.toNat (go0 xss (rs, p)) = some r → RnOK xss n.toNat r → ∀ e ps vs us h', RdI (fun _ => True) h' e r.s.1 → RdI (fun k => h.size ≤ k) h' ps r.ps → RdI (fun k => h.size ≤ k) h' vs r.vs → RdR (fun k => h.size ≤ k) h' us r.us → Fr No h h' → K (.tuple #[.agg #[e.v, VI r.s.2, ps.v, vs.v, us.v], VB true]) h') :
    callM Try.prog 67 #[.agg #[g.v], .agg #[w.v, VI p], VI n] h K := by
  refine v67 g w p n h K fun b1 b2 b3 h3 hb1 hb2 hb3 f3 hL3 => ?_
  have f3 := f3.in_nil
  have l3 : b3 < h3.size := hL3.head.lt
  have l2 : b2 < h3.size := hL3.tail.head.lt
  have l1 : b1 < h3.size := hL3.tail.tail.head.lt
  have z3 := f3.size
  have hgl := graph_len W.graph
  have hgt := graph_tot W.graph
  have lit : ∀ {h1 : Heap} {K : Value → Heap → Prop}, (∀ t h2, OwI h2 (Iv h1.size h2.size) t [p] → Fr No h1 h2 → K t.v h2) → eop Try.prog (Instr.buildSlice tIs 1 #[(0, VI p)]) h1 K := fun HK => eop_lit rIs (fun k => _ ≤ k) (fun _ h => h) 1 (by omega) [VI p] rfl rfl fun t h2 n2 c2 o2 f2 m2 _ => HK t h2 (Ow.toIv o2) f2
  have mk : ∀ {h1 : Heap} {K : Value → Heap → Prop}, (∀ t h2, OwI h2 (Iv h1.size h2.size) t (List.replicate xss.length 0) → Fr No h1 h2 → K t.v h2) → eop Try.prog (Instr.makeSlice tIs (VI (g.n : Int)) (VI (g.n : Int))) h1 K := fun HK => eop_make rIs (fun k => _ ≤ k) (fun _ h => h) .i64 .i64 g.n g.n (Nat.le_refl _) (by rw [G.len]; omega) fun t h2 n2 c2 o2 f2 m2 _ => HK t h2 (Ow.toIv (by
    have e : (List.replicate g.n [VI 0]).flatten = (List.replicate xss.length (0 : Int)).map VI := by rw [G.len]; simp [List.flatten_replicate_singleton]
    rw [e] at o2; exact o2)) f2
  refine ⟨fun b x1 x2 x3 x4 x5 h' => x1 = w ∧ x2 = p ∧ x5 = nilSl ∧ ∃ i1 j1 i2 j2, OwI h' (Iv i1 j1) x3 [p] ∧ OwI h' (Iv i2 j2) x4 (List.replicate xss.length 0) ∧ (j1 ≤ i2 ∨ j2 ≤ i1) ∧ (b < i1 ∨ j1 ≤ b) ∧ (b < i2 ∨ j2 ≤ b) ∧ h3.size ≤ i1 ∧ h3.size ≤ i2 ∧ h3.size ≤ b ∧ j1 ≤ h'.size ∧ j2 ≤ h'.size ∧ Fr No h3 h', ⟨?_, ?_, ?_⟩, ?_⟩
  · refine lit fun t h4 o4 f4 => ⟨t, rfl, hL3.of_no f4, ?_⟩
    have z4 := f4.size
    have hL4 := hL3.of_no f4
    refine ⟨mk fun u h5 o5 f5 => ⟨u, rfl, hL4.of_no f5, fun b5 h6 hb5 f6 hL6 h7 f7 hL7 => ?_⟩, fun b6 h8 hb6 f8 hL8 => mk fun u h9 o9 f9 => ⟨u, rfl, hL8.of_no f9, fun h10 f10 hL10 => ?_⟩⟩
    · have f6 := f6.in_nil
      have z5 := f5.size
      have z6 := f6.size
      have lb := hL6.head.lt
      have f7 := f7.inIv (lo := h5.size) (hi := h6.size) ⟨⟨hb5, lb⟩, trivial⟩
      have z7 := f7.size
      exact ⟨rfl, rfl, rfl, h3.size, h4.size, h4.size, h5.size, ((Ow.no o4 f5).no f6).iv f7 (by omega), (Ow.no o5 f6).iv f7 (by omega), by omega, by omega, by omega, by omega, by omega, by omega, by omega, by omega, ((f4.no_trans f5).no_trans f6).ivFresh f7 (by omega)⟩
    · have f8 := f8.in_nil
      have z8 := f8.size
      have z9 := f9.size
      have lb := hL8.head.lt
      have f10 := f10.inIv (lo := h4.size) (hi := h8.size) ⟨⟨hb6, lb⟩, trivial⟩
      have z10 := f10.size
      exact ⟨rfl, rfl, rfl, h3.size, h4.size, h8.size, h9.size, ((Ow.no o4 f8).no f9).iv f10 (by omega), Ow.iv o9 f10 (by omega), by omega, by omega, by omega, by omega, by omega, by omega, by omega, by omega, ((f4.no_trans f8).no_trans f9).ivFresh f10 (by omega)⟩
  · refine mk fun u h4 o4 f4 => ⟨u, rfl, hL3.of_no f4, ?_⟩
    have z4 := f4.size
    have hL4 := hL3.of_no f4
    refine ⟨lit fun t h5 o5 f5 => ⟨t, rfl, hL4.of_no f5, fun b5 h6 hb5 f6 hL6 h7 f7 hL7 => ?_⟩, fun b6 h8 hb6 f8 hL8 => lit fun t h9 o9 f9 => ⟨t, rfl, hL8.of_no f9, fun h10 f10 hL10 => ?_⟩⟩
    · have f6 := f6.in_nil
      have z5 := f5.size
      have z6 := f6.size
      have lb := hL6.head.lt
      have f7 := f7.inIv (lo := h5.size) (hi := h6.size) ⟨⟨hb5, lb⟩, trivial⟩
      have z7 := f7.size
      exact ⟨rfl, rfl, rfl, h4.size, h5.size, h3.size, h4.size, (Ow.no o5 f6).iv f7 (by omega), ((Ow.no o4 f5).no f6).iv f7 (by omega), by omega, by omega, by omega, by omega, by omega, by omega, by omega, by omega, ((f4.no_trans f5).no_trans f6).ivFresh f7 (by omega)⟩
    · have f8 := f8.in_nil
      have z8 := f8.size
      have z9 := f9.size
      have lb := hL8.head.lt
      have f10 := f10.inIv (lo := h4.size) (hi := h8.size) ⟨⟨hb6, lb⟩, trivial⟩
      have z10 := f10.size
      exact ⟨rfl, rfl, rfl, h8.size, h9.size, h3.size, h4.size, Ow.iv o9 f10 (by omega), ((Ow.no o4 f8).no f9).iv f10 (by omega), by omega, by omega, by omega, by omega, by omega, by omega, by omega, by omega, ((f4.no_trans f8).no_trans f9).ivFresh f10 (by omega)⟩
  · intro b9 h4 hb9 f4 hL4
    have f4 := f4.in_nil
    have z4 := f4.size
    have lb := hL4.head.lt
    refine ⟨lit fun t h5 o5 f5 => ⟨t, rfl, hL4.of_no f5, mk fun u h6 o6 f6 => ⟨u, rfl, (hL4.of_no f5).of_no f6, fun h7 f7 hL7 => ?_⟩⟩, mk fun u h5 o5 f5 => ⟨u, rfl, hL4.of_no f5, lit fun t h6 o6 f6 => ⟨t, rfl, (hL4.of_no f5).of_no f6, fun h7 f7 hL7 => ?_⟩⟩⟩
    · have z5 := f5.size
      have z6 := f6.size
      have f7 := f7.inIv (lo := h3.size) (hi := h4.size) ⟨⟨hb9, lb⟩, trivial⟩
      have z7 := f7.size
      exact ⟨rfl, rfl, rfl, h4.size, h5.size, h5.size, h6.size, (Ow.no o5 f6).iv f7 (by omega), Ow.iv o6 f7 (by omega), by omega, by omega, by omega, by omega, by omega, by omega, by omega, by omega, ((f4.no_trans f5).no_trans f6).ivFresh f7 (by omega)⟩
    · have z5 := f5.size
      have z6 := f6.size
      have f7 := f7.inIv (lo := h3.size) (hi := h4.size) ⟨⟨hb9, lb⟩, trivial⟩
      have z7 := f7.size
      exact ⟨rfl, rfl, rfl, h5.size, h6.size, h4.size, h5.size, Ow.iv o6 f7 (by omega), (Ow.no o5 f6).iv f7 (by omega), by omega, by omega, by omega, by omega, by omega, by omega, by omega, by omega, ((f4.no_trans f5).no_trans f6).ivFresh f7 (by omega)⟩
  rintro b4 x1 x2 ps0 vs0 x5 h25 ⟨rfl, rfl, rfl, i1, j1, i2, j2, o1, o2, d12, d1, d2, e1, e2, e3, e4, e5, f25⟩ hL25
  have f025 := f3.no_trans f25
  have z25 := f25.size
  have lb4 : b4 < h25.size := hL25.head.lt
  refine ⟨fun m i x6 x7 x8 x9 x10 h' => x6 = x1 ∧ x7 = x2 ∧ x8 = ps0 ∧ x9 = vs0 ∧ 0 ≤ i ∧ i + m = (xss.length : Int) ∧ OwX h' (fun k => h25.size ≤ k) x10 (zerosR (xss.take i.toNat)) ∧ Fr (Iv b4 (b4 + 1)) h25 h' ∧ h25.size ≤ h'.size, ⟨xss.length, rfl, rfl, rfl, rfl, by omega, by omega, by simpa [zerosR] using OwR.nil _ _ _ _, Fr.refl _ _, Nat.le_refl _⟩, ?_⟩
  rintro m i x6 x7 x8 x9 x10 h26 ⟨rfl, rfl, rfl, rfl, i0, im, o10, f26, z26⟩ hL26
  have f026 : Fr No h h26 := f025.ivFresh f26 (by omega)
  refine ⟨fun e => ?_, fun e => ?_⟩
  · have hi := G.lt e
    obtain ⟨si, c1, c2⟩ := (G.no f026).get i0 hi
    have hsi := (graph_mem W.graph (List.getElem_mem (show i.toNat < xss.length by omega))).1
    refine ⟨(G.no f026).inb i0 hi, si, c1, ?_⟩
    refine eop_make rIs (fun k => h26.size ≤ k) (fun _ h => h) .i64 .i64 si.n si.n (Nat.le_refl _) (by have := c2.len; omega) fun t h27 n27 c27 o27 f27 m27 _ => ⟨t, rfl, hL26.of_no f27, ?_⟩
    have o27 : OwI h27 (fun k => h26.size ≤ k) t (List.replicate (xss[i.toNat]'(by omega)).length 0) := by
      have e : (List.replicate si.n [VI 0]).flatten = (List.replicate (xss[i.toNat]'(by omega)).length (0 : Int)).map VI := by rw [c2.len]; simp [List.flatten_replicate_singleton]
      rw [e] at o27; exact o27
    refine eop_lit rIss (fun k => h27.size ≤ k) (fun _ h => h) 1 (by omega) [t.v] rfl rfl fun u h28 n28 c28 o28 f28 m28 _ => ⟨u, rfl, (hL26.of_no f27).of_no f28, ?_⟩
    have z27 := f27.size
    have z28 := f28.size
    refine OwR.snoc rIss ((o10.toIv.no f27).no f28) (F' := fun k => h25.size ≤ k) (fun k _ hk => hk.1) (fun k hk => by omega) ((Ow.no o27 f28).mono fun k _ hk => Nat.le_trans z26 hk) (fun k hk hk2 => by have := (o27.foot hk).1; have := hk2.2; omega) o28.rd (by simp [zerosR]; omega) fun y h29 o29 f29 => ⟨y, rfl, ((hL26.of_no f27).of_no f28).iv f29 ⟨.inl lb4, .inl (by omega), .inl (by omega), .inl (by omega), trivial⟩, fun h30 f30 hL30 => ?_⟩
    have z29 := f29.size
    have f30 := f30.inIv (lo := b4) (hi := b4 + 1) ⟨⟨Nat.le_refl _, Nat.lt_succ_self _⟩, trivial⟩
    have z30 := f30.size
    rw [G.succ i0 hi]
    refine ⟨m - 1, by omega, rfl, rfl, rfl, rfl, by omega, by omega, ?_, ?_, by omega⟩
    · rw [take_snoc xss i0 hi]
      have : zerosR (xss.take i.toNat ++ [xss[i.toNat]'(by omega)]) = zerosR (xss.take i.toNat) ++ [List.replicate (xss[i.toNat]'(by omega)).length 0] := by simp only [zerosR, List.map_append, List.map_cons, List.map_nil]
      rw [this]
      exact (o29.toIv.iv f30 (.inr (by omega))).mono fun k _ hk => hk.1
    · exact (f26.fresh2 (f27.no_trans f28).of_no (fun k (hk : Iv h25.size h26.size k) => hk.1)).fresh2 f29 (fun k hk => hk.1) |>.trans f30
  have hi := G.ge e
  rw [List.take_of_length_le (by omega)] at o10
  -- the rounds
  generalize hR : goP xss n.toNat (go0 xss (rs, x7)) = R at HN HS
  have o1' := Ow.iv o1 f26 (by omega)
  have o2' := Ow.iv o2 f26 (by omega)
  refine ⟨fun q n2 x11 x12 x13 x14 x15 h' => ∃ (r : Rn) (m : Nat) (E : Nat → Prop), RnOK xss m r ∧ n2 = q ∧ m + q = n.toNat ∧ x12 = r.s.2 ∧ x14 = x9 ∧ x15 = x10 ∧ RdI E h' x11 r.s.1 ∧ (∀ k, E k → (k < h.size ∨ h26.size ≤ k) ∧ k < h'.size ∧ ¬ x13.own k) ∧ OwI h' (fun k => h3.size ≤ k) x13 r.ps ∧ (∀ k, x13.own k → Iv i1 j1 k ∨ h26.size ≤ k) ∧ OwI h' (Iv i2 j2) x9 r.vs ∧ OwX h' (Iv h25.size h26.size) x10 r.us ∧ Fr No h h' ∧ h26.size ≤ h'.size ∧ R = goP xss q r,
    ⟨n.toNat, go0 xss (rs, x7), 0, fun k => k < h.size, go0_ok W, by omega, by omega, rfl, rfl, rfl, H.low.no f026, fun k hk => ⟨.inl hk, by have := f026.size; omega, fun hk2 => by have := (o1'.foot hk2).1.1; omega⟩, o1'.mono fun k _ hk => by have := hk.1; omega, fun k hk => .inl (o1'.foot hk).1, o2', o10.toIv, f026, Nat.le_refl _, hR.symm⟩, ?_⟩
  rintro q n2 x11 x12 x13 x14 x15 h31 ⟨r, m', E, ok, rfl, hm, rfl, rfl, rfl, rE, hE, oP, hP, oV, oU, f31, z31, eq⟩ hL31
  refine ⟨fun e => ?_, fun e => ?_⟩
  · simp only [decide_eq_true_eq] at e
    obtain ⟨q, rfl⟩ : ∃ q', q = q' + 1 := ⟨q - 1, by omega⟩
    rw [goP] at eq
    refine k_waStep (G.no f31) rE ok.w _ (fun hs h32 f32 => ⟨x11, r.s.2, false, rfl, hL31.of_no f32, fun _ b10 h35 hb10 f35 hL35 => ?_, fun e => by simp at e⟩) fun s' hs t h32 o32 f32 => ⟨t, s'.2, true, rfl, hL31.of_no f32, fun e => by simp at e, fun _ => ?_⟩
    · rw [hs] at eq
      have f35 := f35.inIv (lo := h.size) (hi := h3.size) ⟨⟨hb3, l3⟩, trivial⟩
      exact HN eq h35 ((f31.no_trans f32).ivFresh f35 (Nat.le_refl _))
    · rw [hs] at eq
      simp only at eq
      have z32 := f32.size
      have hp : r.s.2.toNat < r.us.length := by rw [ok.us]; have := ok.w.hi; have := ok.w.lo; omega
      have hlo := ok.w.lo
      have W' := ok.w.step hs
      have hlo' := W'.lo
      have hhi' := W'.hi
      have hgl' := ok.us
      have oP2 := Ow.no oP f32
      have oV2 := Ow.no oV f32
      have oU2 := oU.no f32
      have f032 := f31.no_trans f32
      refine ⟨oU2.rd.inb hlo (by omega), fun b10 h34 hb10 f34 hL34 => ?_⟩
      have f34 := f34.in_nil
      have z34 := f34.size
      have oP4 := Ow.no oP2 f34
      have oV4 := Ow.no oV2 f34
      have oU4 := oU2.no f34
      have oT4 := Ow.no o32 f34
      obtain ⟨si, d1', d2', d3'⟩ := oU4.inner hlo (by omega)
      have hrow : (r.us[r.s.2.toNat]'hp).length = (xss[r.s.2.toNat]'(by omega)).length := ok.row _ hp (by omega)
      have hsl : si.n = (r.us[r.s.2.toNat]'hp).length := RdI.len d2'.rdF
      have hTl : r.s.2.toNat < s'.1.length := by rw [W'.len]; omega
      have hrot := W'.rot _ hTl (by omega)
      have hne : (xss[r.s.2.toNat]'(by omega)).length ≠ 0 := fun h0 => by rw [stepP_none ok.w (by omega) h0] at hs; cases hs
      have hr0 : 0 ≤ s'.1[r.s.2.toNat]'hTl := hrot.1
      have hr1 : s'.1[r.s.2.toNat]'hTl < ((r.us[r.s.2.toNat]'hp).length : Int) := by omega
      have RT : RdI (Iv h31.size h32.size) h34 t s'.1 := oT4.rdI
      have RU : RdI (Iv h25.size h26.size) h34 si (r.us[r.s.2.toNat]'hp) := d2'.rdI
      have hub := ok.ub _ (List.getElem_mem hp) _ (List.getElem_mem (show (s'.1[r.s.2.toNat]'hTl).toNat < (r.us[r.s.2.toNat]'hp).length by omega))
      have hwu : w64 ((r.us[r.s.2.toNat]'hp)[(s'.1[r.s.2.toNat]'hTl).toNat]'(by omega) + 1) = (r.us[r.s.2.toNat]'hp)[(s'.1[r.s.2.toNat]'hTl).toNat]'(by omega) + 1 := w64_eq _ (by omega) (by omega)
      refine ⟨si, d1', RT.inb hlo (by omega), _, RT.get hlo (by omega), RU.inb hr0 hr1, _, RU.get hr0 hr1, RU.inb hr0 hr1, ?_⟩
      rw [hwu]
      obtain ⟨w1, w2, w3⟩ := d2'.store1 hr0 (by omega) (VI ((r.us[r.s.2.toNat]'hp)[(s'.1[r.s.2.toNat]'hTl).toNat]'(by omega) + 1))
      have w3' : Fr (Iv h25.size h26.size) h34 _ := w3.mono fun k _ hk => (d2'.foot hk).1
      have hL36 := hL34.iv w3' ⟨.inr (by omega), .inl lb4, .inl (by omega), .inl (by omega), .inl (by omega), trivial⟩
      refine ⟨w1, hL36, fun h36 e36 _ => ?_⟩
      subst e36
      rw [← List.map_set] at w2
      have oU6 := d3' _ _ w3 w2
      have oV6 := Ow.iv oV4 w3' (by omega)
      have hvl := ok.vs
      have hV : s'.2.toNat < r.vs.length := by omega
      have RV : RdI (Iv i2 j2) _ x14 r.vs := oV6.rdI
      have hvb := ok.vb _ (List.getElem_mem hV)
      have hwv : w64 ((r.vs[s'.2.toNat]'hV) + 1) = (r.vs[s'.2.toNat]'hV) + 1 := w64_eq _ (by omega) (by omega)
      refine ⟨RV.inb hlo' (by omega), _, RV.get hlo' (by omega), RV.inb hlo' (by omega), ?_⟩
      rw [hwv]
      have hvn : x14.n = r.vs.length := RdI.len RV
      obtain ⟨y1, y2, y3⟩ := oV6.store1 hlo' (by omega) (VI ((r.vs[s'.2.toNat]'hV) + 1))
      have y3' : Fr (Iv i2 j2) _ _ := y3.mono fun k _ hk => (oV6.foot hk).1
      have hL37 := hL36.iv y3' ⟨.inr (by omega), (by have h1 := d2; exact h1.elim .inl .inr), .inl (by omega), .inl (by omega), .inl (by omega), trivial⟩
      refine ⟨y1, hL37, fun h37 e37 _ => ?_⟩
      subst e37
      rw [← List.map_set] at y2
      have z36 := w3'.size
      have z37 := y3'.size
      have offU : ∀ k, x13.own k → ¬ Iv h25.size h26.size k := fun k hk hk2 => by
        have h1 := hk2.1
        have h2 := hk2.2
        rcases hP k hk with h3 | h3
        · have := h3.2; omega
        · omega
      have offV : ∀ k, x13.own k → ¬ Iv i2 j2 k := fun k hk hk2 => by
        have h1 := hk2.1
        have h2 := hk2.2
        rcases hP k hk with h3 | h3
        · have := h3.1; have := h3.2; omega
        · omega
      have oP7 := (Ow.fr oP4 w3' offU).fr y3' offV
      refine eop_lit rIs (fun k => _ ≤ k) (fun _ h => h) 1 (by omega) [VI s'.2] rfl rfl fun v h38 n38 c38 o38 f38 m38 _ => ⟨v, rfl, hL37.of_no f38, ?_⟩
      have z38 := f38.size
      have o38 : RdI v.own h38 v [s'.2] := o38.rd
      have hpn : x13.n = r.ps.length := RdI.len oP7.rdF
      have hvn1 : v.n = 1 := o38.len
      refine eop_append rIs (oP7.no f38) (fun k hk => by omega) o38 (plainVI _) (by have := ok.ps; omega) fun y h39 n39 o39 f39 d39 => ?_
      have z39 := f39.size
      have hL39 := (hL37.of_no f38).fr f39 fun p hp hk => by
        have h1 := (oP.foot hk).2
        have h2 := (oP.foot hk).1
        simp only [List.mem_cons, List.not_mem_nil, or_false] at hp
        rcases hp with rfl | rfl | rfl | rfl | rfl <;> simp only at h1 h2 hk
        · omega
        · rcases hP _ hk with h3 | h3
          · have := h3.1; have := h3.2; omega
          · omega
        · omega
        · omega
        · omega
      refine ⟨y, rfl, hL39, fun h41 f41 hL41 => ?_⟩
      have f41 := f41.inIv (lo := b4) (hi := b4 + 1) ⟨⟨Nat.le_refl _, Nat.lt_succ_self _⟩, ⟨Nat.le_refl _, Nat.lt_succ_self _⟩, trivial⟩
      have z41 := f41.size
      have hb4 : ∀ k, x13.own k → ¬ k = b4 := fun k hk e => by
        subst e
        rcases hP _ hk with h3 | h3
        · have := h3.1; have := h3.2; omega
        · omega
      rw [w64_eq _ (by omega) (by omega)]
      rw [← List.map_append] at o39
      have eV : r.vs.set s'.2.toNat ((r.vs[s'.2.toNat]'hV) + 1) = bump r.vs s'.2.toNat := by unfold bump; rw [getD_getI hV]
      have eU : (r.us[r.s.2.toNat]'hp).set (s'.1[r.s.2.toNat]'hTl).toNat ((r.us[r.s.2.toNat]'hp)[(s'.1[r.s.2.toNat]'hTl).toNat]'(by omega) + 1) = bump (r.us.getD r.s.2.toNat []) (s'.1.getD r.s.2.toNat 0).toNat := by unfold bump; rw [getD_get hp, getD_getI hTl, getD_getI (by omega)]
      rw [eV] at y2
      rw [eU] at oU6
      have offE : ∀ k, x13.own k → ¬ Iv h31.size h32.size k := fun k hk hk2 => by have := (oP.foot hk).2; have := hk2.1; omega
      refine ⟨q, by omega, _, m' + 1, Iv h31.size h32.size, ok.step hs, by omega, by omega, rfl, rfl, rfl, ?_, fun k hk => ⟨.inr (by have := hk.1; omega), by have := hk.2; omega, fun hk2 => ?_⟩, ?_, fun k hk => ?_, ?_, ?_, ?_, by omega, eq⟩
      · exact (((((oT4.iv w3' (by omega)).iv y3' (by omega)).no f38).fr f39 fun k hk hk2 => offE k hk2 (oT4.foot hk).1).iv f41 (by omega)).rdI
      · rcases d39 k hk2 with h1 | h1
        · exact offE k h1 hk
        · have := hk.2; omega
      · exact Ow.fr o39 f41 fun k hk hk2 => by
          have h1 := hk2.1
          have h2 := hk2.2
          rcases d39 k hk with h3 | h3
          · exact hb4 k h3 (by omega)
          · omega
      · rcases d39 k hk with h1 | h1
        · exact hP k h1
        · exact .inr (by omega)
      · exact ((Ow.no y2 f38).fr f39 fun k hk hk2 => offV k hk2 (y2.foot hk).1).iv f41 (by omega)
      · exact (((oU6.iv y3' (by omega)).no f38).fr f39 fun k _ hk hk2 => offU k hk2 hk).iv f41 (by omega)
      · exact ((((((f032.no_trans f34).ivFresh w3' (by omega)).ivFresh y3' (by omega)).no_trans f38).fresh f39 fun k hk => by have := (oP.foot hk).1; omega).ivFresh f41 (by omega))
  · simp only [decide_eq_false_iff_not] at e
    obtain rfl : q = 0 := by omega
    rw [goP] at eq
    intro h42 f42 hL42
    have f42 := f42.inIv (lo := h.size) (hi := h3.size) ⟨⟨hb3, l3⟩, trivial⟩
    have em : m' = n.toNat := by omega
    subst em
    refine HS r eq ok x11 x13 x14 x15 h42 ?_ ?_ ?_ ?_ (f31.ivFresh f42 (Nat.le_refl _))
    · exact (RdI.fr rE f42 fun k hk hk2 => by have := (hE k hk).1; have := hk2.1; have := hk2.2; omega).mono fun _ _ => trivial
    · exact (RdI.fr oP.rd f42 fun k hk hk2 => by
        have h1 := hk2.1
        have h2 := hk2.2
        rcases hP k hk with h3 | h3
        · have := h3.1; omega
        · omega).mono fun k hk => by have := (oP.foot hk).1; omega
    · exact (RdI.iv oV.rdI f42 (by omega)).mono fun k hk => by have := hk.1; omega
    · exact (RdR.iv oU.rdI f42 (by omega)).mono fun k hk => by have := hk.1; omega

def nextR (r : Rn) (s' : St) : Rn := ⟨s', r.ps ++ [s'.2], bump r.vs s'.2.toNat, r.us.set r.s.2.toNat (bump (r.us.getD r.s.2.toNat []) (s'.1.getD r.s.2.toNat 0).toNat)⟩
/-- A run that keeps one thing is the run that keeps all of them, seen from there. -/
theorem go_run {τ : Type} (g : List (List Int)) (f : Rn → τ) (upd : τ → St → St → τ) (hf : ∀ r s', f (nextR r s') = upd (f r) r.s s') : ∀ (n : Nat) (r : Rn), runT g upd n (f r) r.s = (goP g n r).map fun r => (f r, r.s)
  | 0, r => by simp [runT, goP]
  | n + 1, r => by
    rw [runT, goP]
    cases stepP g r.s with
    | none => rfl
    | some s' =>
      show runT g upd n (upd (f r) r.s s') s' = (goP g n (nextR r s')).map _
      rw [← go_run g f upd hf n (nextR r s'), hf]
      rfl

def passU (t : List Int) (_ s' : St) : List Int := t ++ [s'.2]
def passP (g : List (List Int)) (rs : List Int) (p n : Int) : List Int × Bool :=
  if walkB g rs p && inR 0 200 n then match runT g passU n.toNat [p] (rs, p) with
    | none => ([], false)
    | some (t, _) => (t, true)
  else ([], false)
def visU (t : List Int) (_ s' : St) : List Int := bump t s'.2.toNat
def visP (g : List (List Int)) (rs : List Int) (p n : Int) : List Int × Bool :=
  if walkB g rs p && inR 0 2000 n then match runT g visU n.toNat (List.replicate g.length 0) (rs, p) with
    | none => ([], false)
    | some (t, _) => (t, true)
  else ([], false)
def useU (t : List (List Int)) (s s' : St) : List (List Int) := t.set s.2.toNat (bump (t.getD s.2.toNat []) (s'.1.getD s.2.toNat 0).toNat)
def useP (g : List (List Int)) (rs : List Int) (p n : Int) : List (List Int) × Bool :=
  if walkB g rs p && inR 0 2000 n then match runT g useU n.toNat (zerosR g) (rs, p) with
    | none => ([], false)
    | some (t, _) => (t, true)
  else ([], false)

theorem passP_len (g : List (List Int)) (rs : List Int) (p n : Int) : (passP g rs p n).1.length ≤ 201 := by
  unfold passP
  split
  · rename_i h
    rw [Bool.and_eq_true, inR_iff] at h
    have key : ∀ (m : Nat) (t : List Int) (s : St) (t' : List Int) (s' : St), runT g passU m t s = some (t', s') → t'.length = t.length + m := by
      intro m
      induction m with
      | zero =>
        intro t s t' s' h
        simp only [runT, Option.some.injEq, Prod.mk.injEq] at h
        rw [h.1]
        rfl
      | succ m ih =>
        intro t s t' s' h
        rw [runT] at h
        split at h
        · cases h
        · have := ih _ _ _ _ h
          simp [passU] at this
          omega
    split
    · simp
    · rename_i t s hs
      have := key _ _ _ _ _ hs
      simp at this
      simp only
      omega
  · simp

theorem goP_ok {g : List (List Int)} : ∀ (n m : Nat) (r r' : Rn), RnOK g m r → goP g n r = some r' → RnOK g (m + n) r'
  | 0, m, r, r', R, h => by
    simp only [goP, Option.some.injEq] at h
    rw [← h]; exact R
  | n + 1, m, r, r', R, h => by
    rw [goP] at h
    split at h
    · cases h
    · rename_i s' hs
      have := goP_ok n (m + 1) _ _ (R.step hs) h
      rw [show m + (n + 1) = m + 1 + n by omega]
      exact this
theorem use_ok {g : List (List Int)} {s : St} (W : WOK g s) (m : Nat) (t : List (List Int)) (s' : St) (h : runT g useU m (zerosR g) s = some (t, s')) : ∃ r, RnOK g m r ∧ t = r.us ∧ s' = r.s := by
  have h2 := go_run g Rn.us useU (fun _ _ => rfl) m (go0 g s)
  rw [show (go0 g s).us = zerosR g from rfl, show (go0 g s).s = s from rfl, h] at h2
  cases hg : goP g m (go0 g s) with
  | none => rw [hg] at h2; cases h2
  | some r =>
    rw [hg] at h2
    simp only [Option.map_some, Option.some.injEq, Prod.mk.injEq] at h2
    exact ⟨r, by have := goP_ok m 0 _ _ (go0_ok W) hg; simpa using this, h2.1, h2.2⟩
theorem zerosR_tot (g : List (List Int)) : totR (zerosR g) = totR g := by
  unfold totR zerosR
  rw [List.map_map]
  congr 1
  apply List.map_congr_left
  intro l _
  simp
theorem totR_eq {a b : List (List Int)} (hl : a.length = b.length) (h : ∀ i (h : i < a.length) (h' : i < b.length), a[i].length = b[i].length) : totR a = totR b := by
  unfold totR
  congr 1
  apply List.ext_getElem
  · simp [hl]
  · intro i h1 h2
    simp only [List.getElem_map]
    exact h i (by simpa using h1) (by simpa using h2)
theorem useP_tot (g : List (List Int)) (rs : List Int) (p n : Int) : (useP g rs p n).1.length + totR (useP g rs p n).1 ≤ 48 := by
  unfold useP
  split
  · rename_i h
    rw [Bool.and_eq_true, inR_iff] at h
    have W := wok_of h.1
    have h1 := graph_len W.graph
    have h2 := graph_tot W.graph
    split
    · simp [totR]
    · rename_i t s hs
      obtain ⟨r, R, rfl, _⟩ := use_ok W _ _ _ hs
      have h3 := totR_eq R.us R.row
      have h4 := R.us
      simp only
      omega
  · simp [totR]

theorem k_spec_UsesOf {S S' : Nat → Prop} {h : Heap} {g w : Sl} {xss : List (List Int)} {rs : List Int} (G : RdR S h g xss) (H : RdI S' h w rs) (p n : Int) (K : Value → Heap → Prop) (HK : ∀ t h', RdR (Iv h.size h'.size) h' t (useP xss rs p n).1 → Fr No h h' → K (.tuple #[t.v, VB (useP xss rs p n).2]) h') : callM Try.prog 17 #[.agg #[g.v], .agg #[w.v, VI p], VI n] h K := by
  refine v17 g w p n h K fun b1 b2 h2 hb1 hb2 f2 hL2 => ?_
  have f2 := f2.in_nil
  have no : useP xss rs p n = ([], false) → ∀ h', Fr No h h' → K (.tuple #[nilSl.v, VB false]) h' := fun e h' f => by
    have := HK nilSl h' (by rw [e]; exact ⟨[], rfl, RdV.nil _ _ _, fun i h1 => by simp at h1⟩) f
    rw [e] at this
    exact this
  refine k_waAsked (G.no f2) (H.no f2) p n _ fun h3 f3 => ⟨_, rfl, hL2.of_no f3, fun e => ?_, fun e => ?_⟩
  · exact no (by unfold useP; rw [if_neg (by rw [not_t e]; simp)]) _ (f2.no_trans f3)
  have e := not_f e
  have f03 := f2.no_trans f3
  have hL3 := hL2.of_no f3
  have e2 : useP xss rs p n = match runT xss useU n.toNat (zerosR xss) (rs, p) with
    | none => ([], false)
    | some (t, _) => (t, true) := by unfold useP; exact if_pos e
  rw [show runT xss useU n.toNat (zerosR xss) (rs, p) = _ from go_run xss Rn.us useU (fun _ _ => rfl) n.toNat (go0 xss (rs, p))] at e2
  rw [Bool.and_eq_true, inR_iff] at e
  have z03 := f03.size
  refine k_waGo (G.no f03) (H.no f03) p n (wok_of e.1) e.2.1 e.2.2 _ (fun hr h6 f6 => ⟨nilSl, 0, nilSl, nilSl, nilSl, false, rfl, hL3.of_no f6, fun b3 h7 hb3 f7 hL7 => ?_⟩) fun r hr ok e' ps vs us h6 r1 r2 r3 r4 f6 => ⟨e', r.s.2, ps, vs, us, true, rfl, hL3.of_no f6, fun b3 h7 hb3 f7 hL7 => ?_⟩
  · rw [hr] at e2
    exact no e2 _ ((f03.no_trans f6).no_trans f7.in_nil)
  · rw [hr] at e2
    have z7 := f7.in_nil.size
    have := HK us h7 (by rw [e2]; exact (r4.lowS.mono fun k hk => ⟨by have := hk.1; omega, by have := hk.2; omega⟩ : RdR _ h6 us _).no f7.in_nil) ((f03.no_trans f6).no_trans f7.in_nil)
    rw [e2] at this
    exact this

theorem k_zeros {S : Nat → Prop} {h : Heap} {g : Sl} {xss : List (List Int)} (G : RdR S h g xss) (hn : xss.length + totR xss ≤ 1000000000) (K : Value → Heap → Prop) (HK : ∀ t h', OwX h' (Iv h.size h'.size) t (zerosR xss) → Fr No h h' → K t.v h') : callM Try.prog 71 #[.agg #[g.v]] h K := by
  refine v71 g h K fun b1 h1 hb1 f1 hL1 => ?_
  have f1 := f1.in_nil
  have z1 := f1.size
  have l1 : b1 < h1.size := hL1.head.lt
  refine eop_lit rIss (fun k => h1.size ≤ k) (fun _ h => h) 0 (by omega) [] rfl rfl fun t0 h2 n2 c2 o2 f2 m2 _ => ⟨t0, rfl, hL1.of_no f2, ?_⟩
  have o2 : OwX h2 (fun k => h1.size ≤ k) t0 [] := ⟨[], rfl, o2, fun i a => by simp at a, fun i j a => by simp at a, fun i a => by simp at a⟩
  refine ⟨fun n x i h' => 0 ≤ i ∧ i + n = (xss.length : Int) ∧ OwX h' (fun k => h1.size ≤ k) x (zerosR (xss.take i.toNat)) ∧ Fr No h h' ∧ h1.size ≤ h'.size, ⟨xss.length, by omega, by omega, by simpa [zerosR] using o2, f1.no_trans f2, f2.size⟩, ?_⟩
  rintro n x i h3 ⟨i0, i1, o3, f3, z3⟩ hL3
  have G3 := G.no f3
  refine ⟨fun e => ?_, fun e => ?_⟩
  · have hi := G3.lt e
    obtain ⟨si, c1, r1⟩ := G3.get i0 hi
    have hsi := short_of_tot (xss[i.toNat]'(by omega)) (List.getElem_mem (by omega))
    refine ⟨G3.inb i0 hi, si, c1, ?_⟩
    refine eop_make rIs (fun k => h3.size ≤ k) (fun _ h => h) .i64 .i64 si.n si.n (Nat.le_refl _) (by have := r1.len; omega) fun t h4 n4 c4 o4 f4 m4 _ => ⟨t, rfl, hL3.of_no f4, ?_⟩
    have o4 : OwI h4 (fun k => h3.size ≤ k) t (List.replicate (xss[i.toNat]'(by omega)).length 0) := by
      have e : (List.replicate si.n [VI 0]).flatten = (List.replicate (xss[i.toNat]'(by omega)).length (0 : Int)).map VI := by rw [r1.len]; simp [List.flatten_replicate_singleton]
      rw [e] at o4; exact o4
    refine eop_lit rIss (fun k => h4.size ≤ k) (fun _ h => h) 1 (by omega) [t.v] rfl rfl fun u h5 n5 c5 o5 f5 m5 _ => ⟨u, rfl, (hL3.of_no f4).of_no f5, ?_⟩
    have z4 := f4.size
    have z5 := f5.size
    refine OwR.snoc rIss ((o3.toIv.no f4).no f5) (F' := fun k => h1.size ≤ k) (fun k _ hk => hk.1) (fun k hk => by omega) ((Ow.no o4 f5).mono fun k _ hk => Nat.le_trans z3 hk) (fun k hk hk2 => by have := (o4.foot hk).1; have := hk2.2; omega) o5.rd (by simp [zerosR]; omega) fun y h6 o6 f6 => ⟨y, rfl, ((hL3.of_no f4).of_no f5).iv f6 ⟨.inl l1, trivial⟩, ?_⟩
    have z6 := f6.size
    rw [G3.succ i0 hi]
    refine ⟨n - 1, by omega, by omega, by omega, ?_, ((f3.no_trans f4).no_trans f5).ivFresh f6 (by omega), by omega⟩
    rw [take_snoc xss i0 hi]
    have : zerosR (xss.take i.toNat ++ [xss[i.toNat]'(by omega)]) = zerosR (xss.take i.toNat) ++ [List.replicate (xss[i.toNat]'(by omega)).length 0] := by simp only [zerosR, List.map_append, List.map_cons, List.map_nil]
    rw [this]
    exact o6
  · have hi := G3.ge e
    rw [List.take_of_length_le (by omega)] at o3
    exact HK x h3 (o3.toIv.ivs z1 (Nat.le_refl _)) f3

theorem k_use1 {F F' : Nat → Prop} {b b' : Nat} {h : Heap} {o w : Sl} {us : List (List Int)} {rs : List Int} {q : Int} (V : IsVar h b [o.v]) (V' : IsVar h b' [w.v, VI q]) (hbb : b' ≠ b) (O : OwX h F o us) (R : OwI h F' w rs) (hb : ¬ F b) (hb' : ¬ F b') (x : Int) (h0 : 0 ≤ x) (h1 : x < (us.length : Int)) (h2 : x < (rs.length : Int))
    (r0 : 0 ≤ rs.getD x.toNat 0) (r1 : rs.getD x.toNat 0 < ((us.getD x.toNat []).length : Int)) (hv : ∀ y, y ∈ us.getD x.toNat [] → 0 ≤ y ∧ y ≤ 1000000) (K : Value → Heap → Prop)
    (HK : ∀ h' v, IsVar h' b [o.v] → OwX h' F o (us.set x.toNat (bump (us.getD x.toNat []) (rs.getD x.toNat 0).toNat)) → Fr F h h' → K v h') : callV Try.prog (.func (.func 73) #[] #[VP b 0, VP b' 0]) [VI x] h K := by
  have RR : RdI F' h w rs := R.rdF
  rw [getD_get (by omega)] at r1 hv HK
  rw [getD_getI (by omega)] at r0 r1 HK
  obtain ⟨si, c1, c2, c3⟩ := O.inner h0 h1
  have RS : RdI F h si _ := c2.rdF
  have hm := hv _ (List.getElem_mem (show (rs[x.toNat]'(by omega)).toNat < (us[x.toNat]'(by omega)).length by omega))
  refine v73 x b o b' w q h K (.cons V (by simpa using hbb) (.cons V' (by simp) .nil)) ⟨O.rd.inb h0 h1, si, c1, RR.inb h0 h2, _, RR.get h0 h2, RS.inb r0 r1, _, RS.get r0 r1, RS.inb r0 r1, ?_⟩
  rw [w64_eq _ (by omega) (by omega)]
  obtain ⟨w1, w2, w3⟩ := c2.store1 r0 (by have := RS.len; omega) (VI ((us[x.toNat]'(by omega))[(rs[x.toNat]'(by omega)).toNat]'(by omega) + 1))
  have w3' : Fr F h _ := w3.mono fun k _ hk => (c2.foot hk).1
  have hL : Vars _ [(b, [o.v]), (b', [w.v, VI q])] := .cons (V.fr w3' hb) (by simpa using hbb) (.cons (V'.fr w3' hb') (by simp) .nil)
  refine ⟨w1, hL, fun h2 e2 _ => ?_⟩
  subst e2
  rw [← List.map_set] at w2
  have w2 := c3 _ _ w3 w2
  have e : (us[x.toNat]'(by omega)).set (rs[x.toNat]'(by omega)).toNat ((us[x.toNat]'(by omega))[(rs[x.toNat]'(by omega)).toNat]'(by omega) + 1) = bump (us[x.toNat]'(by omega)) (rs[x.toNat]'(by omega)).toNat := by unfold bump; rw [getD_getI (by omega)]
  rw [e] at w2
  exact HK _ _ hL.head w2 w3'

theorem k_UsesOf {S S' : Nat → Prop} {h : Heap} {g w : Sl} {xss : List (List Int)} {rs : List Int} (G : RdR S h g xss) (H : RdI S' h w rs) (p n : Int) (K : Value → Heap → Prop) (HK : ∀ t h', OwX h' (Iv h.size h'.size) t (useP xss rs p n).1 → Fr No h h' → K (.tuple #[t.v, VB (useP xss rs p n).2]) h') : callM Try.prog 20 #[.agg #[g.v], .agg #[w.v, VI p], VI n] h K := by
  refine v20 g w p n h K fun b1 b2 h2 hb1 hb2 f2 hL2 => ?_
  have f2 := f2.in_nil
  have no : useP xss rs p n = ([], false) → ∀ h', Fr No h h' → K (.tuple #[nilSl.v, VB false]) h' := fun e h' f => by
    have := HK nilSl h' (by rw [e]; exact OwR.nil _ _ _ _) f
    rw [e] at this
    exact this
  refine k_isRun (G.no f2) (H.no f2) p n 2000 _ fun h3 f3 => ⟨_, rfl, hL2.of_no f3, fun e => ?_, fun e => ?_⟩
  · exact no (by unfold useP; rw [if_neg (by rw [not_t e]; simp)]) _ (f2.no_trans f3)
  have e := not_f e
  have e2 : useP xss rs p n = match runT xss useU n.toNat (zerosR xss) (rs, p) with
    | none => ([], false)
    | some (t, _) => (t, true) := by unfold useP; exact if_pos e
  rw [Bool.and_eq_true, inR_iff] at e
  have W := wok_of e.1
  have hgl := graph_len W.graph
  have hgt := graph_tot W.graph
  have f03 := f2.no_trans f3
  have z03 := f03.size
  have hL := hL2.of_no f3
  have l2 : b2 < h3.size := hL.head.lt
  have l1 : b1 < h3.size := hL.tail.head.lt
  have fj : Fr No h3 h3 := Fr.refl _ _
  have cp : ∀ {h1 : Heap} {K : Value → Heap → Prop}, Fr No h3 h1 → (∀ t h2, OwI h2 (Iv h1.size h2.size) t rs → Fr No h1 h2 → K (.agg #[t.v, VI p]) h2) → callM Try.prog 70 #[.agg #[w.v, VI p]] h1 K := fun f HK => k_copiedW ((H.no f03).no f) p (by have := W.len; simp only at this; omega) _ HK
  have zr : ∀ {h1 : Heap} {K : Value → Heap → Prop}, Fr No h3 h1 → (∀ t h2, OwX h2 (Iv h1.size h2.size) t (zerosR xss) → Fr No h1 h2 → K t.v h2) → callM Try.prog 71 #[.agg #[g.v]] h1 K := fun f HK => k_zeros ((G.no f03).no f) (by omega) _ HK
  refine ⟨fun bN xw xp bO xo h' => xp = p ∧ ∃ i1 j1 i2 j2, OwI h' (Iv i1 j1) xw rs ∧ OwX h' (Iv i2 j2) xo (zerosR xss) ∧ (j1 ≤ i2 ∨ j2 ≤ i1) ∧ (bN < i1 ∨ j1 ≤ bN) ∧ (bN < i2 ∨ j2 ≤ bN) ∧ (bO < i1 ∨ j1 ≤ bO) ∧ (bO < i2 ∨ j2 ≤ bO) ∧ h3.size ≤ i1 ∧ h3.size ≤ i2 ∧ h3.size ≤ bN ∧ h3.size ≤ bO ∧ j1 ≤ h'.size ∧ j2 ≤ h'.size ∧ bN ≠ bO ∧ Fr No h3 h', ?_, ?_⟩
  · refine ⟨?_, ?_, ?_⟩
    · refine cp fj fun u_1 h_4 o_1 f_1 => ⟨u_1, _, rfl, hL.of_no f_1, ?_⟩
      replace hL := hL.of_no f_1
      have z_f_1 := f_1.size
      replace fj := fj.no_trans f_1
      refine ⟨?_, ?_, ?_⟩
      · refine zr fj fun u_2 h_5 o_2 f_2 => ⟨u_2, rfl, hL.of_no f_2, ?_⟩
        replace hL := hL.of_no f_2
        have z_f_2 := f_2.size
        replace o_1 := o_1.no f_2
        replace fj := fj.no_trans f_2
        refine ⟨?_, ?_⟩
        · intro b_5 b_6 h_9 hb_b_5 hb_b_6 f_3 hL
          have lt_b_5 : b_5 < h_9.size := (hL.tail).head.lt
          have lt_b_6 : b_6 < h_9.size := (hL).head.lt
          have ne_b_5 : b_5 ≠ b_6 := hL.ne (b_5, _) List.mem_cons_self
          replace f_3 := f_3.in_nil
          have z_f_3 := f_3.size
          replace o_1 := o_1.no f_3
          replace o_2 := o_2.no f_3
          replace fj := fj.no_trans f_3
          exact ⟨rfl, h3.size, h_4.size, h_4.size, h_5.size, o_1, o_2, by omega, by omega, by omega, by omega, by omega, by omega, by omega, by omega, by omega, by omega, by omega, by omega, fj⟩
        · intro b_7 b_8 h_13 hb_b_7 hb_b_8 f_4 hL
          have lt_b_7 : b_7 < h_13.size := (hL.tail).head.lt
          have lt_b_8 : b_8 < h_13.size := (hL).head.lt
          have ne_b_7 : b_7 ≠ b_8 := hL.ne (b_7, _) List.mem_cons_self
          replace f_4 := f_4.in_nil
          have z_f_4 := f_4.size
          replace o_1 := o_1.no f_4
          replace o_2 := o_2.no f_4
          replace fj := fj.no_trans f_4
          exact ⟨rfl, h3.size, h_4.size, h_4.size, h_5.size, o_1, o_2, by omega, by omega, by omega, by omega, by omega, by omega, by omega, by omega, by omega, by omega, by omega, by omega, fj⟩
      · intro b_9 h_14 hb_b_9 f_5 hL
        have lt_b_9 : b_9 < h_14.size := (hL).head.lt
        replace f_5 := f_5.in_nil
        have z_f_5 := f_5.size
        replace o_1 := o_1.no f_5
        replace fj := fj.no_trans f_5
        refine ⟨?_, ?_⟩
        · refine zr fj fun u_6 h_15 o_6 f_6 => ⟨u_6, rfl, hL.of_no f_6, ?_⟩
          replace hL := hL.of_no f_6
          have z_f_6 := f_6.size
          replace o_1 := o_1.no f_6
          replace fj := fj.no_trans f_6
          intro b_10 h_18 hb_b_10 f_7 hL
          have lt_b_10 : b_10 < h_18.size := (hL).head.lt
          replace f_7 := f_7.inIv (lo := h_4.size) (hi := h_14.size) ⟨⟨by omega, by omega⟩, trivial⟩
          have z_f_7 := f_7.size
          replace o_1 := o_1.iv f_7 (by omega)
          replace o_6 := o_6.iv f_7 (by omega)
          replace fj := fj.ivFresh f_7 (by omega)
          exact ⟨rfl, h3.size, h_4.size, h_14.size, h_15.size, o_1, o_6, by omega, by omega, by omega, by omega, by omega, by omega, by omega, by omega, by omega, by omega, by omega, by omega, fj⟩
        · intro b_11 h_19 hb_b_11 f_8 hL
          have lt_b_11 : b_11 < h_19.size := (hL).head.lt
          replace f_8 := f_8.in_nil
          have z_f_8 := f_8.size
          replace o_1 := o_1.no f_8
          replace fj := fj.no_trans f_8
          refine zr fj fun u_9 h_20 o_9 f_9 => ⟨u_9, rfl, hL.of_no f_9, ?_⟩
          replace hL := hL.of_no f_9
          have z_f_9 := f_9.size
          replace o_1 := o_1.no f_9
          replace fj := fj.no_trans f_9
          intro  h_22  f_10 hL
          have z_f_10 := f_10.size
          replace o_1 := o_1.fr f_10 fun k hk hk2 => by have h1 := (o_1.foot hk).1; have h2 := h1.1; have h3 := h1.2; simp only [In, List.mem_cons, List.not_mem_nil, or_false] at hk2; omega
          replace o_9 := o_9.fr f_10 fun k hk h1 hk2 => by have h2 := h1.1; have h3 := h1.2; simp only [In, List.mem_cons, List.not_mem_nil, or_false] at hk2; omega
          replace fj := fj.fresh f_10 fun k hk => by simp only [In, List.mem_cons, List.not_mem_nil, or_false] at hk; omega
          exact ⟨rfl, h3.size, h_4.size, h_19.size, h_20.size, o_1, o_9, by omega, by omega, by omega, by omega, by omega, by omega, by omega, by omega, by omega, by omega, by omega, by omega, fj⟩
      · intro b_12 h_23 hb_b_12 f_11 hL
        have lt_b_12 : b_12 < h_23.size := (hL).head.lt
        replace f_11 := f_11.in_nil
        have z_f_11 := f_11.size
        replace o_1 := o_1.no f_11
        replace fj := fj.no_trans f_11
        refine ⟨?_, ?_⟩
        · refine zr fj fun u_12 h_24 o_12 f_12 => ⟨u_12, rfl, hL.of_no f_12, ?_⟩
          replace hL := hL.of_no f_12
          have z_f_12 := f_12.size
          replace o_1 := o_1.no f_12
          replace fj := fj.no_trans f_12
          intro b_13 h_27 hb_b_13 f_13 hL
          have lt_b_13 : b_13 < h_27.size := (hL).head.lt
          replace f_13 := f_13.inIv (lo := h_4.size) (hi := h_23.size) ⟨⟨by omega, by omega⟩, trivial⟩
          have z_f_13 := f_13.size
          replace o_1 := o_1.iv f_13 (by omega)
          replace o_12 := o_12.iv f_13 (by omega)
          replace fj := fj.ivFresh f_13 (by omega)
          exact ⟨rfl, h3.size, h_4.size, h_23.size, h_24.size, o_1, o_12, by omega, by omega, by omega, by omega, by omega, by omega, by omega, by omega, by omega, by omega, by omega, by omega, fj⟩
        · intro b_14 h_28 hb_b_14 f_14 hL
          have lt_b_14 : b_14 < h_28.size := (hL).head.lt
          replace f_14 := f_14.in_nil
          have z_f_14 := f_14.size
          replace o_1 := o_1.no f_14
          replace fj := fj.no_trans f_14
          refine zr fj fun u_15 h_29 o_15 f_15 => ⟨u_15, rfl, hL.of_no f_15, ?_⟩
          replace hL := hL.of_no f_15
          have z_f_15 := f_15.size
          replace o_1 := o_1.no f_15
          replace fj := fj.no_trans f_15
          intro  h_31  f_16 hL
          have z_f_16 := f_16.size
          replace o_1 := o_1.fr f_16 fun k hk hk2 => by have h1 := (o_1.foot hk).1; have h2 := h1.1; have h3 := h1.2; simp only [In, List.mem_cons, List.not_mem_nil, or_false] at hk2; omega
          replace o_15 := o_15.fr f_16 fun k hk h1 hk2 => by have h2 := h1.1; have h3 := h1.2; simp only [In, List.mem_cons, List.not_mem_nil, or_false] at hk2; omega
          replace fj := fj.fresh f_16 fun k hk => by simp only [In, List.mem_cons, List.not_mem_nil, or_false] at hk; omega
          exact ⟨rfl, h3.size, h_4.size, h_28.size, h_29.size, o_1, o_15, by omega, by omega, by omega, by omega, by omega, by omega, by omega, by omega, by omega, by omega, by omega, by omega, fj⟩
    · intro b_15 h_32 hb_b_15 f_17 hL
      have lt_b_15 : b_15 < h_32.size := (hL).head.lt
      replace f_17 := f_17.in_nil
      have z_f_17 := f_17.size
      replace fj := fj.no_trans f_17
      refine ⟨?_, ?_⟩
      · refine cp fj fun u_18 h_33 o_18 f_18 => ⟨u_18, _, rfl, hL.of_no f_18, ?_⟩
        replace hL := hL.of_no f_18
        have z_f_18 := f_18.size
        replace fj := fj.no_trans f_18
        refine ⟨?_, ?_⟩
        · refine zr fj fun u_19 h_34 o_19 f_19 => ⟨u_19, rfl, hL.of_no f_19, ?_⟩
          replace hL := hL.of_no f_19
          have z_f_19 := f_19.size
          replace o_18 := o_18.no f_19
          replace fj := fj.no_trans f_19
          intro b_16 h_37 hb_b_16 f_20 hL
          have lt_b_16 : b_16 < h_37.size := (hL).head.lt
          replace f_20 := f_20.inIv (lo := h3.size) (hi := h_32.size) ⟨⟨by omega, by omega⟩, trivial⟩
          have z_f_20 := f_20.size
          replace o_18 := o_18.iv f_20 (by omega)
          replace o_19 := o_19.iv f_20 (by omega)
          replace fj := fj.ivFresh f_20 (by omega)
          exact ⟨rfl, h_32.size, h_33.size, h_33.size, h_34.size, o_18, o_19, by omega, by omega, by omega, by omega, by omega, by omega, by omega, by omega, by omega, by omega, by omega, by omega, fj⟩
        · intro b_17 h_38 hb_b_17 f_21 hL
          have lt_b_17 : b_17 < h_38.size := (hL).head.lt
          replace f_21 := f_21.in_nil
          have z_f_21 := f_21.size
          replace o_18 := o_18.no f_21
          replace fj := fj.no_trans f_21
          refine zr fj fun u_22 h_39 o_22 f_22 => ⟨u_22, rfl, hL.of_no f_22, ?_⟩
          replace hL := hL.of_no f_22
          have z_f_22 := f_22.size
          replace o_18 := o_18.no f_22
          replace fj := fj.no_trans f_22
          intro  h_41  f_23 hL
          have z_f_23 := f_23.size
          replace o_18 := o_18.fr f_23 fun k hk hk2 => by have h1 := (o_18.foot hk).1; have h2 := h1.1; have h3 := h1.2; simp only [In, List.mem_cons, List.not_mem_nil, or_false] at hk2; omega
          replace o_22 := o_22.fr f_23 fun k hk h1 hk2 => by have h2 := h1.1; have h3 := h1.2; simp only [In, List.mem_cons, List.not_mem_nil, or_false] at hk2; omega
          replace fj := fj.fresh f_23 fun k hk => by simp only [In, List.mem_cons, List.not_mem_nil, or_false] at hk; omega
          exact ⟨rfl, h_32.size, h_33.size, h_38.size, h_39.size, o_18, o_22, by omega, by omega, by omega, by omega, by omega, by omega, by omega, by omega, by omega, by omega, by omega, by omega, fj⟩
      · intro b_18 h_42 hb_b_18 f_24 hL
        have lt_b_18 : b_18 < h_42.size := (hL).head.lt
        replace f_24 := f_24.in_nil
        have z_f_24 := f_24.size
        replace fj := fj.no_trans f_24
        refine cp fj fun u_25 h_43 o_25 f_25 => ⟨u_25, _, rfl, hL.of_no f_25, ?_⟩
        replace hL := hL.of_no f_25
        have z_f_25 := f_25.size
        replace fj := fj.no_trans f_25
        refine zr fj fun u_26 h_44 o_26 f_26 => ⟨u_26, rfl, hL.of_no f_26, ?_⟩
        replace hL := hL.of_no f_26
        have z_f_26 := f_26.size
        replace o_25 := o_25.no f_26
        replace fj := fj.no_trans f_26
        intro  h_46  f_27 hL
        have z_f_27 := f_27.size
        replace o_25 := o_25.fr f_27 fun k hk hk2 => by have h1 := (o_25.foot hk).1; have h2 := h1.1; have h3 := h1.2; simp only [In, List.mem_cons, List.not_mem_nil, or_false] at hk2; omega
        replace o_26 := o_26.fr f_27 fun k hk h1 hk2 => by have h2 := h1.1; have h3 := h1.2; simp only [In, List.mem_cons, List.not_mem_nil, or_false] at hk2; omega
        replace fj := fj.fresh f_27 fun k hk => by simp only [In, List.mem_cons, List.not_mem_nil, or_false] at hk; omega
        exact ⟨rfl, h_42.size, h_43.size, h_43.size, h_44.size, o_25, o_26, by omega, by omega, by omega, by omega, by omega, by omega, by omega, by omega, by omega, by omega, by omega, by omega, fj⟩
    · intro b_19 h_47 hb_b_19 f_28 hL
      have lt_b_19 : b_19 < h_47.size := (hL).head.lt
      replace f_28 := f_28.in_nil
      have z_f_28 := f_28.size
      replace fj := fj.no_trans f_28
      refine ⟨?_, ?_⟩
      · refine cp fj fun u_29 h_48 o_29 f_29 => ⟨u_29, _, rfl, hL.of_no f_29, ?_⟩
        replace hL := hL.of_no f_29
        have z_f_29 := f_29.size
        replace fj := fj.no_trans f_29
        refine ⟨?_, ?_⟩
        · refine zr fj fun u_30 h_49 o_30 f_30 => ⟨u_30, rfl, hL.of_no f_30, ?_⟩
          replace hL := hL.of_no f_30
          have z_f_30 := f_30.size
          replace o_29 := o_29.no f_30
          replace fj := fj.no_trans f_30
          intro b_20 h_52 hb_b_20 f_31 hL
          have lt_b_20 : b_20 < h_52.size := (hL).head.lt
          replace f_31 := f_31.inIv (lo := h3.size) (hi := h_47.size) ⟨⟨by omega, by omega⟩, trivial⟩
          have z_f_31 := f_31.size
          replace o_29 := o_29.iv f_31 (by omega)
          replace o_30 := o_30.iv f_31 (by omega)
          replace fj := fj.ivFresh f_31 (by omega)
          exact ⟨rfl, h_47.size, h_48.size, h_48.size, h_49.size, o_29, o_30, by omega, by omega, by omega, by omega, by omega, by omega, by omega, by omega, by omega, by omega, by omega, by omega, fj⟩
        · intro b_21 h_53 hb_b_21 f_32 hL
          have lt_b_21 : b_21 < h_53.size := (hL).head.lt
          replace f_32 := f_32.in_nil
          have z_f_32 := f_32.size
          replace o_29 := o_29.no f_32
          replace fj := fj.no_trans f_32
          refine zr fj fun u_33 h_54 o_33 f_33 => ⟨u_33, rfl, hL.of_no f_33, ?_⟩
          replace hL := hL.of_no f_33
          have z_f_33 := f_33.size
          replace o_29 := o_29.no f_33
          replace fj := fj.no_trans f_33
          intro  h_56  f_34 hL
          have z_f_34 := f_34.size
          replace o_29 := o_29.fr f_34 fun k hk hk2 => by have h1 := (o_29.foot hk).1; have h2 := h1.1; have h3 := h1.2; simp only [In, List.mem_cons, List.not_mem_nil, or_false] at hk2; omega
          replace o_33 := o_33.fr f_34 fun k hk h1 hk2 => by have h2 := h1.1; have h3 := h1.2; simp only [In, List.mem_cons, List.not_mem_nil, or_false] at hk2; omega
          replace fj := fj.fresh f_34 fun k hk => by simp only [In, List.mem_cons, List.not_mem_nil, or_false] at hk; omega
          exact ⟨rfl, h_47.size, h_48.size, h_53.size, h_54.size, o_29, o_33, by omega, by omega, by omega, by omega, by omega, by omega, by omega, by omega, by omega, by omega, by omega, by omega, fj⟩
      · intro b_22 h_57 hb_b_22 f_35 hL
        have lt_b_22 : b_22 < h_57.size := (hL).head.lt
        replace f_35 := f_35.in_nil
        have z_f_35 := f_35.size
        replace fj := fj.no_trans f_35
        refine cp fj fun u_36 h_58 o_36 f_36 => ⟨u_36, _, rfl, hL.of_no f_36, ?_⟩
        replace hL := hL.of_no f_36
        have z_f_36 := f_36.size
        replace fj := fj.no_trans f_36
        refine zr fj fun u_37 h_59 o_37 f_37 => ⟨u_37, rfl, hL.of_no f_37, ?_⟩
        replace hL := hL.of_no f_37
        have z_f_37 := f_37.size
        replace o_36 := o_36.no f_37
        replace fj := fj.no_trans f_37
        intro  h_61  f_38 hL
        have z_f_38 := f_38.size
        replace o_36 := o_36.fr f_38 fun k hk hk2 => by have h1 := (o_36.foot hk).1; have h2 := h1.1; have h3 := h1.2; simp only [In, List.mem_cons, List.not_mem_nil, or_false] at hk2; omega
        replace o_37 := o_37.fr f_38 fun k hk h1 hk2 => by have h2 := h1.1; have h3 := h1.2; simp only [In, List.mem_cons, List.not_mem_nil, or_false] at hk2; omega
        replace fj := fj.fresh f_38 fun k hk => by simp only [In, List.mem_cons, List.not_mem_nil, or_false] at hk; omega
        exact ⟨rfl, h_57.size, h_58.size, h_58.size, h_59.size, o_36, o_37, by omega, by omega, by omega, by omega, by omega, by omega, by omega, by omega, by omega, by omega, by omega, by omega, fj⟩
  rintro bN x1 x2 bO x3 h134 ⟨rfl, i1, j1, i2, j2, o1, o2, d12, dN1, dN2, dO1, dO2, e1, e2', e3, e4, e5, e6, hne, f134⟩ hL134
  have f0 := f03.no_trans f134
  have z134 := f134.size
  have lO : bO < h134.size := hL134.head.lt
  have lN : bN < h134.size := hL134.tail.head.lt
  have G134 : RdR (fun k => k < h3.size) h134 g xss := (G.no f03).low.no f134
  have xN : ¬ x1.own bN := fun hk => by have h1 := (o1.foot hk).1.1; have h2 := (o1.foot hk).1.2; omega
  have x1O : ¬ x1.own bO := fun hk => by have h1 := (o1.foot hk).1.1; have h2 := (o1.foot hk).1.2; omega
  have x13 : ∀ k, x1.own k → ¬ Iv i2 j2 k := fun k h1 h3 => by have a1 := (o1.foot h1).1.1; have a2 := (o1.foot h1).1.2; have a3 := h3.1; have a4 := h3.2; omega
  have x1g : ∀ k, x1.own k → h3.size ≤ k ∧ k < h134.size := fun k hk => ⟨by have := (o1.foot hk).1.1; omega, (o1.foot hk).2⟩
  have x3g : ∀ k, Iv i2 j2 k → h3.size ≤ k ∧ k < h134.size := fun k hk => ⟨by have := hk.1; omega, by have := hk.2; omega⟩
  have offV : ∀ k, (k = bN ∨ x1.own k) ∨ (k = bO ∨ Iv i2 j2 k) → h3.size ≤ k := fun k hk => by
    rcases hk with (rfl | hk) | (rfl | hk)
    · omega
    · exact (x1g k hk).1
    · omega
    · exact (x3g k hk).1
  have ob : ¬ Iv i2 j2 bO := fun hk => by have a3 := hk.1; have a4 := hk.2; omega
  have ob' : ¬ Iv i2 j2 bN := fun hk => by have a3 := hk.1; have a4 := hk.2; omega
  refine k_run (s0 := (rs, x2)) (F := fun k => k = bN ∨ x1.own k) (S := fun k => k < h3.size) useU
    (fun N t h' => IsVar h' bO [x3.v] ∧ OwX h' (Iv i2 j2) x3 t) (fun k => k = bO ∨ Iv i2 j2 k)
    G134 hL134.tail.head (o1.mono fun k hk _ => .inr hk) (fun k hk => ⟨fun h => by have := offV k (.inl h); omega, fun h => by have := offV k (.inr h); omega⟩) (.inl rfl) xN W n (by omega) (by omega) _ (zerosR xss)
    (fun k hk => by rcases hk with rfl | hk; exact lN; exact (x1g k hk).2)
    (fun k hk => ⟨fun h => by
      rcases hk with rfl | hk <;> rcases h with rfl | h
      · exact hne rfl
      · exact x1O h
      · exact ob' hk
      · exact x13 k h hk, by rcases hk with rfl | hk; exact lO; exact (x3g k hk).2⟩)
    (fun N hN => ⟨hL134.head, o2⟩)
    (fun N t h1 h2 U ⟨v1, v2⟩ f hU => ⟨v1.fr f fun h => (hU _ h).1 (.inl rfl), v2.fr f fun k hk hk1 hk2 => (hU k hk2).1 (.inr hk1)⟩)
    (fun N t s s' h1 K hN hN2 ⟨v1, v2⟩ V O W hs hm HK => ?_) _ (fun hr N t h9 q hN ⟨v1, v2⟩ v9 f9 => ?_) fun t' s' hr N h9 hN ⟨v1, v2⟩ o9 W9 v9 f9 => ?_
  · obtain ⟨m, hm, hr⟩ := hm
    obtain ⟨r, R, rfl, rfl⟩ := use_ok (s := (rs, x2)) ‹_› _ _ _ hr
    have W' := W.step hs
    have hlo := W.lo
    have hhi := W.hi
    have hus := R.us
    have hul : r.s.2.toNat < r.us.length := by omega
    have hTl : r.s.2.toNat < s'.1.length := by rw [W'.len]; omega
    have hrot := W'.rot _ hTl (by omega)
    have hne2 : (xss[r.s.2.toNat]'(by omega)).length ≠ 0 := fun h0 => by rw [stepP_none W (by omega) h0] at hs; cases hs
    have hrow := R.row _ hul (by omega)
    refine k_use1 v1 V hne v2 O ob ob' r.s.2 hlo (by omega) (by omega) (by rw [getD_getI hTl]; exact hrot.1) (by rw [getD_getI hTl, getD_get hul]; omega) (fun y hy => by rw [getD_get hul] at hy; have := R.ub _ (List.getElem_mem hul) y hy; omega) K fun h2 v w1 w2 w4 => HK h2 v ⟨w1, w2⟩ (w4.mono fun k _ hk => .inl (.inr hk))
  · have hL9 : Vars h9 [(bO, [x3.v]), (bN, [x1.v, VI q]), (b2, [w.v, VI x2]), (b1, [g.v])] := .cons v1 (fun p hp => by
      simp only [List.mem_cons, List.not_mem_nil, or_false] at hp
      rcases hp with rfl | rfl | rfl <;> simp only <;> omega) (.cons v9 (fun p hp => by
      simp only [List.mem_cons, List.not_mem_nil, or_false] at hp
      rcases hp with rfl | rfl <;> simp only <;> omega) (hL134.tail.tail.fr f9 fun p hp hk => by
      have := offV _ hk
      simp only [List.mem_cons, List.not_mem_nil, or_false] at hp
      rcases hp with rfl | rfl <;> simp only at this <;> omega))
    refine ⟨x3, x1, q, false, rfl, hL9, fun _ => ?_, fun e => by simp at e⟩
    rw [hr] at e2
    exact no e2 h9 (f0.fresh f9 fun k hk => by have := offV k hk; omega)
  · have hL9 : Vars h9 [(bO, [x3.v]), (bN, [x1.v, VI s'.2]), (b2, [w.v, VI x2]), (b1, [g.v])] := .cons v1 (fun p hp => by
      simp only [List.mem_cons, List.not_mem_nil, or_false] at hp
      rcases hp with rfl | rfl | rfl <;> simp only <;> omega) (.cons v9 (fun p hp => by
      simp only [List.mem_cons, List.not_mem_nil, or_false] at hp
      rcases hp with rfl | rfl <;> simp only <;> omega) (hL134.tail.tail.fr f9 fun p hp hk => by
      have := offV _ hk
      simp only [List.mem_cons, List.not_mem_nil, or_false] at hp
      rcases hp with rfl | rfl <;> simp only at this <;> omega))
    refine ⟨x3, x1, s'.2, true, rfl, hL9, fun e => by simp at e, fun _ => ?_⟩
    rw [hr] at e2
    have z9 := f9.size
    have := HK x3 h9 (by rw [e2]; exact v2.ivs (by omega) (by omega)) (f0.fresh f9 fun k hk => by have := offV k hk; omega)
    rw [e2] at this
    exact this

theorem k_lawUsesOf {h : Heap} {S0 : Nat → Prop} {s0 : Sl} {x0 : List (List Int)} (G0 : RdR S0 h s0 x0) {S1 : Nat → Prop} {s1 : Sl} {x1 : List Int} (G1 : RdI S1 h s1 x1) (n2 : Int) (n3 : Int) : Ret Try.prog 3 #[.agg #[s0.v], .agg #[s1.v, VI n2], VI n3] h (VB true) := by
  intro K HK
  replace G0 := RdR.toIv G0
  replace G1 := RdI.toIv G1
  have fz : Fr No h h := Fr.refl _ _
  have := useP_tot x0 x1 n2 n3
  refine v3 s0 s1 n2 n3 h K ?_
  have hL : Vars h [] := .nil
  intro b_1 b_2 h_2 hb_b_1 hb_b_2 f1 hL
  have lt_b_1 : b_1 < h_2.size := (hL.tail).head.lt
  have lt_b_2 : b_2 < h_2.size := (hL).head.lt
  replace f1 := f1.in_nil
  have z_f1 := f1.size
  replace G0 := RdR.no G0 f1
  replace G1 := RdI.no G1 f1
  replace fz := fz.no_trans f1
  refine g_szGraph G0 _ (by omega) (by omega) _ fun h_3 r2 f2 hr2 => ⟨r2, rfl, hL.of_no f2, ?_⟩
  replace hL := hL.of_no f2
  have z_f2 := f2.size
  replace G0 := RdR.no G0 f2
  replace G1 := RdI.no G1 f2
  replace fz := fz.no_trans f2
  refine ⟨fun e => ?_, fun e => ?_⟩
  · exact HK _ fz
  (try simp only [decide_eq_false_iff_not] at e)
  refine g_szWalk G1 _ _ (by omega) (by omega) _ fun h_4 r3 f3 hr3 => ⟨r3, rfl, hL.of_no f3, ?_⟩
  replace hL := hL.of_no f3
  have z_f3 := f3.size
  replace G0 := RdR.no G0 f3
  replace G1 := RdI.no G1 f3
  replace fz := fz.no_trans f3
  refine ⟨fun e => ?_, fun e => ?_⟩
  · exact HK _ fz
  (try simp only [decide_eq_false_iff_not] at e)
  refine g_toGraph G0 (by omega) _ fun u4_0 h_5 O4_0 f4 => ⟨u4_0, rfl, hL.of_no f4, ?_⟩
  replace hL := hL.of_no f4
  have z_f4 := f4.size
  replace G0 := RdR.no G0 f4
  replace G1 := RdI.no G1 f4
  replace fz := fz.no_trans f4
  refine g_toWalk G1 _ (by omega) _ fun u5_0 h_6 O5_0 f5 => ⟨u5_0, _, rfl, hL.of_no f5, ?_⟩
  replace hL := hL.of_no f5
  have z_f5 := f5.size
  replace G0 := RdR.no G0 f5
  replace G1 := RdI.no G1 f5
  replace O4_0 := OwR.no O4_0 f5
  replace fz := fz.no_trans f5
  refine k_spec_UsesOf (OwR.rdI O4_0) (Ow.rdI O5_0) _ _ _ fun u6_0 h_7 O6_0 f6 => ⟨u6_0, _, rfl, hL.of_no f6, ?_⟩
  replace hL := hL.of_no f6
  have z_f6 := f6.size
  replace G0 := RdR.no G0 f6
  replace G1 := RdI.no G1 f6
  replace O4_0 := OwR.no O4_0 f6
  replace O5_0 := Ow.no O5_0 f6
  replace fz := fz.no_trans f6
  refine g_toGraph G0 (by omega) _ fun u7_0 h_8 O7_0 f7 => ⟨u7_0, rfl, hL.of_no f7, ?_⟩
  replace hL := hL.of_no f7
  have z_f7 := f7.size
  replace G0 := RdR.no G0 f7
  replace G1 := RdI.no G1 f7
  replace O4_0 := OwR.no O4_0 f7
  replace O5_0 := Ow.no O5_0 f7
  replace O6_0 := RdR.no O6_0 f7
  replace fz := fz.no_trans f7
  intro b_3 h_10 hb_b_3 f8 hL
  have lt_b_3 : b_3 < h_10.size := (hL).head.lt
  replace f8 := f8.in_nil
  have z_f8 := f8.size
  replace G0 := RdR.no G0 f8
  replace G1 := RdI.no G1 f8
  replace O4_0 := OwR.no O4_0 f8
  replace O5_0 := Ow.no O5_0 f8
  replace O6_0 := RdR.no O6_0 f8
  replace O7_0 := OwR.no O7_0 f8
  replace fz := fz.no_trans f8
  refine g_toWalk G1 _ (by omega) _ fun u9_0 h_11 O9_0 f9 => ⟨u9_0, _, rfl, hL.of_no f9, ?_⟩
  replace hL := hL.of_no f9
  have z_f9 := f9.size
  replace G0 := RdR.no G0 f9
  replace G1 := RdI.no G1 f9
  replace O4_0 := OwR.no O4_0 f9
  replace O5_0 := Ow.no O5_0 f9
  replace O6_0 := RdR.no O6_0 f9
  replace O7_0 := OwR.no O7_0 f9
  replace fz := fz.no_trans f9
  intro b_4 h_13 hb_b_4 f10 hL
  have lt_b_4 : b_4 < h_13.size := (hL).head.lt
  replace f10 := f10.in_nil
  have z_f10 := f10.size
  replace G0 := RdR.no G0 f10
  replace G1 := RdI.no G1 f10
  replace O4_0 := OwR.no O4_0 f10
  replace O5_0 := Ow.no O5_0 f10
  replace O6_0 := RdR.no O6_0 f10
  replace O7_0 := OwR.no O7_0 f10
  replace O9_0 := Ow.no O9_0 f10
  replace fz := fz.no_trans f10
  refine k_UsesOf (OwR.rdI O7_0) (Ow.rdI O9_0) _ _ _ fun u11_0 h_14 O11_0 f11 => ⟨u11_0, _, rfl, hL.of_no f11, ?_⟩
  replace hL := hL.of_no f11
  have z_f11 := f11.size
  replace G0 := RdR.no G0 f11
  replace G1 := RdI.no G1 f11
  replace O4_0 := OwR.no O4_0 f11
  replace O5_0 := Ow.no O5_0 f11
  replace O6_0 := RdR.no O6_0 f11
  replace O7_0 := OwR.no O7_0 f11
  replace O9_0 := Ow.no O9_0 f11
  replace fz := fz.no_trans f11
  refine g_eqIntSS (OwR.rdI O11_0) O6_0 _ fun h_15 f12 => ⟨_, rfl, hL.of_no f12, ?_⟩
  replace hL := hL.of_no f12
  have z_f12 := f12.size
  replace G0 := RdR.no G0 f12
  replace G1 := RdI.no G1 f12
  replace O4_0 := OwR.no O4_0 f12
  replace O5_0 := Ow.no O5_0 f12
  replace O6_0 := RdR.no O6_0 f12
  replace O7_0 := OwR.no O7_0 f12
  replace O9_0 := Ow.no O9_0 f12
  replace O11_0 := OwR.no O11_0 f12
  replace fz := fz.no_trans f12
  refine ⟨fun e => ?_, fun e => ?_⟩
  · first | (simp at e; done) | (simp only [decide_eq_true_eq] at e; omega)
  (try simp only [decide_eq_false_iff_not] at e)
  refine ⟨fun e => ?_, fun e => ?_⟩
  · first | (simp at e; done) | (simp only [decide_eq_true_eq] at e; omega)
  (try simp only [decide_eq_false_iff_not] at e)
  refine g_toGraph G0 (by omega) _ fun u13_0 h_16 O13_0 f13 => ⟨u13_0, rfl, hL.of_no f13, ?_⟩
  replace hL := hL.of_no f13
  have z_f13 := f13.size
  replace G0 := RdR.no G0 f13
  replace G1 := RdI.no G1 f13
  replace O4_0 := OwR.no O4_0 f13
  replace O5_0 := Ow.no O5_0 f13
  replace O6_0 := RdR.no O6_0 f13
  replace O7_0 := OwR.no O7_0 f13
  replace O9_0 := Ow.no O9_0 f13
  replace O11_0 := OwR.no O11_0 f13
  replace fz := fz.no_trans f13
  refine g_eqGraph (OwR.rdI O7_0) (OwR.rdI O13_0) _ fun h_17 f14 => ⟨_, rfl, hL.of_no f14, ?_⟩
  replace hL := hL.of_no f14
  have z_f14 := f14.size
  replace G0 := RdR.no G0 f14
  replace G1 := RdI.no G1 f14
  replace O4_0 := OwR.no O4_0 f14
  replace O5_0 := Ow.no O5_0 f14
  replace O6_0 := RdR.no O6_0 f14
  replace O7_0 := OwR.no O7_0 f14
  replace O9_0 := Ow.no O9_0 f14
  replace O11_0 := OwR.no O11_0 f14
  replace O13_0 := OwR.no O13_0 f14
  replace fz := fz.no_trans f14
  refine ⟨fun e => ?_, fun e => ?_⟩
  · first | (simp at e; done) | (simp only [decide_eq_true_eq] at e; omega)
  (try simp only [decide_eq_false_iff_not] at e)
  refine g_toWalk G1 _ (by omega) _ fun u15_0 h_18 O15_0 f15 => ⟨u15_0, _, rfl, hL.of_no f15, ?_⟩
  replace hL := hL.of_no f15
  have z_f15 := f15.size
  replace G0 := RdR.no G0 f15
  replace G1 := RdI.no G1 f15
  replace O4_0 := OwR.no O4_0 f15
  replace O5_0 := Ow.no O5_0 f15
  replace O6_0 := RdR.no O6_0 f15
  replace O7_0 := OwR.no O7_0 f15
  replace O9_0 := Ow.no O9_0 f15
  replace O11_0 := OwR.no O11_0 f15
  replace O13_0 := OwR.no O13_0 f15
  replace fz := fz.no_trans f15
  refine g_eqWalk (Ow.rdI O9_0) (Ow.rdI O15_0) _ fun h_19 f16 => ⟨_, rfl, hL.of_no f16, ?_⟩
  replace hL := hL.of_no f16
  have z_f16 := f16.size
  replace G0 := RdR.no G0 f16
  replace G1 := RdI.no G1 f16
  replace O4_0 := OwR.no O4_0 f16
  replace O5_0 := Ow.no O5_0 f16
  replace O6_0 := RdR.no O6_0 f16
  replace O7_0 := OwR.no O7_0 f16
  replace O9_0 := Ow.no O9_0 f16
  replace O11_0 := OwR.no O11_0 f16
  replace O13_0 := OwR.no O13_0 f16
  replace O15_0 := Ow.no O15_0 f16
  replace fz := fz.no_trans f16
  refine ⟨fun e => ?_, fun e => ?_⟩
  · first | (simp at e; done) | (simp only [decide_eq_true_eq] at e; omega)
  (try simp only [decide_eq_false_iff_not] at e)
  refine g_markGraph O7_0 (by omega) _ (by omega) (by omega) _ fun h_20 N17_0 f17 => ⟨_, rfl, hL.iv f17 ⟨show b_4 < h_7.size ∨ h_8.size ≤ b_4 by omega, show b_3 < h_7.size ∨ h_8.size ≤ b_3 by omega, show b_2 < h_7.size ∨ h_8.size ≤ b_2 by omega, show b_1 < h_7.size ∨ h_8.size ≤ b_1 by omega, trivial⟩, ?_⟩
  replace hL := hL.iv f17 ⟨show b_4 < h_7.size ∨ h_8.size ≤ b_4 by omega, show b_3 < h_7.size ∨ h_8.size ≤ b_3 by omega, show b_2 < h_7.size ∨ h_8.size ≤ b_2 by omega, show b_1 < h_7.size ∨ h_8.size ≤ b_1 by omega, trivial⟩
  have z_f17 := f17.size
  replace G0 := RdR.iv G0 f17 (by omega)
  replace G1 := RdI.iv G1 f17 (by omega)
  replace O4_0 := OwR.iv O4_0 f17 (by omega)
  replace O5_0 := Ow.iv O5_0 f17 (by omega)
  replace O6_0 := RdR.iv O6_0 f17 (by omega)
  replace O9_0 := Ow.iv O9_0 f17 (by omega)
  replace O11_0 := OwR.iv O11_0 f17 (by omega)
  replace O13_0 := OwR.iv O13_0 f17 (by omega)
  replace O15_0 := Ow.iv O15_0 f17 (by omega)
  replace fz := fz.ivFresh f17 (by omega)
  refine g_markWalk O9_0 (by omega) _ _ (by omega) (by omega) _ fun h_21 N18_0 f18 => ⟨_, rfl, hL.iv f18 ⟨show b_4 < h_10.size ∨ h_11.size ≤ b_4 by omega, show b_3 < h_10.size ∨ h_11.size ≤ b_3 by omega, show b_2 < h_10.size ∨ h_11.size ≤ b_2 by omega, show b_1 < h_10.size ∨ h_11.size ≤ b_1 by omega, trivial⟩, ?_⟩
  replace hL := hL.iv f18 ⟨show b_4 < h_10.size ∨ h_11.size ≤ b_4 by omega, show b_3 < h_10.size ∨ h_11.size ≤ b_3 by omega, show b_2 < h_10.size ∨ h_11.size ≤ b_2 by omega, show b_1 < h_10.size ∨ h_11.size ≤ b_1 by omega, trivial⟩
  have z_f18 := f18.size
  replace G0 := RdR.iv G0 f18 (by omega)
  replace G1 := RdI.iv G1 f18 (by omega)
  replace O4_0 := OwR.iv O4_0 f18 (by omega)
  replace O5_0 := Ow.iv O5_0 f18 (by omega)
  replace O6_0 := RdR.iv O6_0 f18 (by omega)
  replace O11_0 := OwR.iv O11_0 f18 (by omega)
  replace O13_0 := OwR.iv O13_0 f18 (by omega)
  replace O15_0 := Ow.iv O15_0 f18 (by omega)
  replace N17_0 := OwR.iv N17_0 f18 (by omega)
  replace fz := fz.ivFresh f18 (by omega)
  refine ⟨fun e => ?_, fun e => ?_⟩
  · first | (simp at e; done) | (simp only [decide_eq_true_eq] at e; omega)
  (try simp only [decide_eq_false_iff_not] at e)
  refine g_eqIntSS (OwR.rdI O11_0) O6_0 _ fun h_22 f19 => ⟨_, rfl, hL.of_no f19, ?_⟩
  replace hL := hL.of_no f19
  have z_f19 := f19.size
  replace G0 := RdR.no G0 f19
  replace G1 := RdI.no G1 f19
  replace O4_0 := OwR.no O4_0 f19
  replace O5_0 := Ow.no O5_0 f19
  replace O6_0 := RdR.no O6_0 f19
  replace O11_0 := OwR.no O11_0 f19
  replace O13_0 := OwR.no O13_0 f19
  replace O15_0 := Ow.no O15_0 f19
  replace N17_0 := OwR.no N17_0 f19
  replace N18_0 := Ow.no N18_0 f19
  replace fz := fz.no_trans f19
  refine ⟨fun e => ?_, fun e => ?_⟩
  · first | (simp at e; done) | (simp only [decide_eq_true_eq] at e; omega)
  (try simp only [decide_eq_false_iff_not] at e)
  refine g_markIntSS O11_0 (by omega) _ (by omega) (by omega) _ fun h_23 N20_0 f20 => ⟨_, rfl, hL.iv f20 ⟨show b_4 < h_13.size ∨ h_14.size ≤ b_4 by omega, show b_3 < h_13.size ∨ h_14.size ≤ b_3 by omega, show b_2 < h_13.size ∨ h_14.size ≤ b_2 by omega, show b_1 < h_13.size ∨ h_14.size ≤ b_1 by omega, trivial⟩, ?_⟩
  replace hL := hL.iv f20 ⟨show b_4 < h_13.size ∨ h_14.size ≤ b_4 by omega, show b_3 < h_13.size ∨ h_14.size ≤ b_3 by omega, show b_2 < h_13.size ∨ h_14.size ≤ b_2 by omega, show b_1 < h_13.size ∨ h_14.size ≤ b_1 by omega, trivial⟩
  have z_f20 := f20.size
  replace G0 := RdR.iv G0 f20 (by omega)
  replace G1 := RdI.iv G1 f20 (by omega)
  replace O4_0 := OwR.iv O4_0 f20 (by omega)
  replace O5_0 := Ow.iv O5_0 f20 (by omega)
  replace O6_0 := RdR.iv O6_0 f20 (by omega)
  replace O13_0 := OwR.iv O13_0 f20 (by omega)
  replace O15_0 := Ow.iv O15_0 f20 (by omega)
  replace N17_0 := OwR.iv N17_0 f20 (by omega)
  replace N18_0 := Ow.iv N18_0 f20 (by omega)
  replace fz := fz.ivFresh f20 (by omega)
  refine g_heldIntSS (OwR.rdI N20_0) (by omega) (by omega) (by omega) _ fun h_24 f21 => ⟨_, rfl, hL.of_no f21, ?_⟩
  replace hL := hL.of_no f21
  have z_f21 := f21.size
  replace G0 := RdR.no G0 f21
  replace G1 := RdI.no G1 f21
  replace O4_0 := OwR.no O4_0 f21
  replace O5_0 := Ow.no O5_0 f21
  replace O6_0 := RdR.no O6_0 f21
  replace O13_0 := OwR.no O13_0 f21
  replace O15_0 := Ow.no O15_0 f21
  replace N17_0 := OwR.no N17_0 f21
  replace N18_0 := Ow.no N18_0 f21
  replace N20_0 := OwR.no N20_0 f21
  replace fz := fz.no_trans f21
  refine ⟨fun e => ?_, fun e => ?_⟩
  · first | (simp at e; done) | (simp only [decide_eq_true_eq] at e; omega)
  (try simp only [decide_eq_false_iff_not] at e)
  refine ⟨fun e => ?_, fun e => ?_⟩
  · first | (simp at e; done) | (simp only [decide_eq_true_eq] at e; omega)
  (try simp only [decide_eq_false_iff_not] at e)
  refine g_toGraph G0 (by omega) _ fun u22_0 h_25 O22_0 f22 => ⟨u22_0, rfl, hL.of_no f22, ?_⟩
  replace hL := hL.of_no f22
  have z_f22 := f22.size
  replace G0 := RdR.no G0 f22
  replace G1 := RdI.no G1 f22
  replace O4_0 := OwR.no O4_0 f22
  replace O5_0 := Ow.no O5_0 f22
  replace O6_0 := RdR.no O6_0 f22
  replace O13_0 := OwR.no O13_0 f22
  replace O15_0 := Ow.no O15_0 f22
  replace N17_0 := OwR.no N17_0 f22
  replace N18_0 := Ow.no N18_0 f22
  replace N20_0 := OwR.no N20_0 f22
  replace fz := fz.no_trans f22
  refine g_toWalk G1 _ (by omega) _ fun u23_0 h_26 O23_0 f23 => ⟨u23_0, _, rfl, hL.of_no f23, ?_⟩
  replace hL := hL.of_no f23
  have z_f23 := f23.size
  replace G0 := RdR.no G0 f23
  replace G1 := RdI.no G1 f23
  replace O4_0 := OwR.no O4_0 f23
  replace O5_0 := Ow.no O5_0 f23
  replace O6_0 := RdR.no O6_0 f23
  replace O13_0 := OwR.no O13_0 f23
  replace O15_0 := Ow.no O15_0 f23
  replace N17_0 := OwR.no N17_0 f23
  replace N18_0 := Ow.no N18_0 f23
  replace N20_0 := OwR.no N20_0 f23
  replace O22_0 := OwR.no O22_0 f23
  replace fz := fz.no_trans f23
  refine k_UsesOf (OwR.rdI O22_0) (Ow.rdI O23_0) _ _ _ fun u24_0 h_27 O24_0 f24 => ⟨u24_0, _, rfl, hL.of_no f24, ?_⟩
  replace hL := hL.of_no f24
  have z_f24 := f24.size
  replace G0 := RdR.no G0 f24
  replace G1 := RdI.no G1 f24
  replace O4_0 := OwR.no O4_0 f24
  replace O5_0 := Ow.no O5_0 f24
  replace O6_0 := RdR.no O6_0 f24
  replace O13_0 := OwR.no O13_0 f24
  replace O15_0 := Ow.no O15_0 f24
  replace N17_0 := OwR.no N17_0 f24
  replace N18_0 := Ow.no N18_0 f24
  replace N20_0 := OwR.no N20_0 f24
  replace O22_0 := OwR.no O22_0 f24
  replace O23_0 := Ow.no O23_0 f24
  replace fz := fz.no_trans f24
  refine g_eqIntSS (OwR.rdI O24_0) O6_0 _ fun h_28 f25 => ⟨_, rfl, hL.of_no f25, ?_⟩
  replace hL := hL.of_no f25
  have z_f25 := f25.size
  replace G0 := RdR.no G0 f25
  replace G1 := RdI.no G1 f25
  replace O4_0 := OwR.no O4_0 f25
  replace O5_0 := Ow.no O5_0 f25
  replace O6_0 := RdR.no O6_0 f25
  replace O13_0 := OwR.no O13_0 f25
  replace O15_0 := Ow.no O15_0 f25
  replace N17_0 := OwR.no N17_0 f25
  replace N18_0 := Ow.no N18_0 f25
  replace N20_0 := OwR.no N20_0 f25
  replace O22_0 := OwR.no O22_0 f25
  replace O23_0 := Ow.no O23_0 f25
  replace O24_0 := OwR.no O24_0 f25
  replace fz := fz.no_trans f25
  refine ⟨fun e => ?_, fun e => ?_⟩
  · first | (simp at e; done) | (simp only [decide_eq_true_eq] at e; omega)
  (try simp only [decide_eq_false_iff_not] at e)
  refine ⟨fun e => ?_, fun e => ?_⟩
  · first | (simp at e; done) | (simp only [decide_eq_true_eq] at e; omega)
  (try simp only [decide_eq_false_iff_not] at e)
  refine g_heldIntSS (OwR.rdI N20_0) (by omega) (by omega) (by omega) _ fun h_29 f26 => ⟨_, rfl, hL.of_no f26, ?_⟩
  replace hL := hL.of_no f26
  have z_f26 := f26.size
  replace G0 := RdR.no G0 f26
  replace G1 := RdI.no G1 f26
  replace O4_0 := OwR.no O4_0 f26
  replace O5_0 := Ow.no O5_0 f26
  replace O6_0 := RdR.no O6_0 f26
  replace O13_0 := OwR.no O13_0 f26
  replace O15_0 := Ow.no O15_0 f26
  replace N17_0 := OwR.no N17_0 f26
  replace N18_0 := Ow.no N18_0 f26
  replace N20_0 := OwR.no N20_0 f26
  replace O22_0 := OwR.no O22_0 f26
  replace O23_0 := Ow.no O23_0 f26
  replace O24_0 := OwR.no O24_0 f26
  replace fz := fz.no_trans f26
  refine ⟨fun e => ?_, fun e => ?_⟩
  · first | (simp at e; done) | (simp only [decide_eq_true_eq] at e; omega)
  (try simp only [decide_eq_false_iff_not] at e)
  refine ⟨fun e => ?_, fun e => ?_⟩
  · first | (simp at e; done) | (simp only [decide_eq_true_eq] at e; omega)
  (try simp only [decide_eq_false_iff_not] at e)
  exact HK _ fz
end Go.Proofs.Ytjinpagnbflmiaa
