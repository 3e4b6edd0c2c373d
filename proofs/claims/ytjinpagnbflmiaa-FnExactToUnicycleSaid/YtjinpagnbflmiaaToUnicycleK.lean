/-
  What each function that the law 'FnExactToUnicycle' comes to does: the contracts.
-/
import Derived.Test.YtjinpagnbflmiaaToUnicycleU
import Derived.Test.YtjinpagnbflmiaaM4
set_option linter.unusedVariables false
set_option linter.unusedSimpArgs false
namespace Go.Proofs.Ytjinpagnbflmiaa
open Go Go.Mx
@[reducible] def tI : TypeId := 3
@[reducible] def tIs : TypeId := 25
@[reducible] def tIss : TypeId := 22
theorem rIs : rowC Try.prog tIs = some (tI, 1, 8, [VI 0]) := by kernel_rfl
theorem rIss : rowC Try.prog tIss = some (tIs, 1, 24, [nilSl.v]) := by kernel_rfl
@[reducible] def OwI (h : Heap) (F : Nat → Prop) (s : Sl) (xs : List Int) : Prop := Ow h F tI 1 s (xs.map VI)
@[reducible] def OwX (h : Heap) (F : Nat → Prop) (s : Sl) (xss : List (List Int)) : Prop := OwR h F tIs tI s xss
theorem plainVI (xs : List Int) : (xs.map VI).all plainV = true := by simp [List.all_eq_true, plainV]

theorem k_bool {f : FuncId} {args : Array Value} {h : Heap} {v w : Value} (H : Ret Try.prog f args h v) (e : v = w) : Ret Try.prog f args h w := e ▸ H

theorem k_impl_in (n lo hi : Int) (h : Heap) (K : Value → Heap → Prop) (H : K (VB (decide (lo ≤ n) && decide (n ≤ hi))) h) : callM Try.prog 110 #[VI n, VI lo, VI hi] h K := by
  refine v110 n lo hi h K ⟨fun e => ?_, fun e => ?_⟩
  · rw [e, Bool.true_and] at H; exact H
  · rw [e, Bool.false_and] at H; exact H

theorem k_spec_l1In (n lo hi : Int) (h : Heap) (K : Value → Heap → Prop) (H : K (VB (decide (lo ≤ n) && decide (n ≤ hi))) h) : callM Try.prog 109 #[VI n, VI lo, VI hi] h K := by
  refine v109 n lo hi h K ⟨fun e => ?_, fun e => ?_⟩
  · rw [e, Bool.true_and] at H; exact H
  · rw [e, Bool.false_and] at H; exact H

def inR (lo hi x : Int) : Bool := decide (lo ≤ x) && decide (x ≤ hi)
def graphB (g : List (List Int)) : Bool := inR 1 8 g.length && g.all fun l => !decide (5 < (l.length : Int)) && l.all (inR 0 ((g.length : Int) - 1))
theorem not_t {b : Bool} (h : (!b) = true) : b = false := by simpa using h
theorem not_f {b : Bool} (h : (!b) = false) : b = true := by simpa using h

theorem k_spec_l1All {S : Nat → Prop} {h : Heap} {l : Sl} {xs : List Int} (H : RdI S h l xs) (lo hi_1 : Int) (K : Value → Heap → Prop) (HK : K (VB (xs.all (inR lo hi_1))) h) : callM Try.prog 97 #[l.v, VI lo, VI hi_1] h K := by
  refine v97 l lo hi_1 h K ?_
  refine ⟨fun n i h' => h' = h ∧ 0 ≤ i ∧ i + n = (xs.length : Int) ∧ xs.all (inR lo hi_1) = (xs.drop i.toNat).all (inR lo hi_1), ⟨xs.length, rfl, by omega, by omega, by simp⟩, ?_⟩
  rintro n i _ ⟨rfl, h0, h1, h2⟩ hL
  refine ⟨fun e => ?_, fun e => ?_⟩
  · have hi := H.lt e
    refine ⟨H.inb h0 hi, _, H.get h0 hi, ?_⟩
    rw [drop_cons xs h0 hi, List.all_cons] at h2
    refine k_spec_l1In _ _ _ _ _ ⟨_, rfl, hL, fun e2 => ?_, fun e2 => ?_⟩
    · have e3 : inR lo hi_1 (xs[i.toNat]'(by omega)) = false := not_t e2
      rw [h2, e3] at HK
      exact HK
    · have e3 : inR lo hi_1 (xs[i.toNat]'(by omega)) = true := not_f e2
      rw [e3, Bool.true_and] at h2
      rw [H.succ h0 hi]
      exact ⟨n - 1, by omega, rfl, by omega, by omega, h2⟩
  · have hi := H.ge e
    rw [List.drop_of_length_le (by omega)] at h2
    rw [h2] at HK
    exact HK

theorem k_spec_grGood {S : Nat → Prop} {h : Heap} {g : Sl} {xss : List (List Int)} (H : RdR S h g xss) : Ret Try.prog 119 #[.agg #[g.v]] h (VB (graphB xss)) := by
  intro K HK
  refine v119 g h K ?_
  intro b1 h1 hb1 hf1 hL1
  have f1 := hf1.in_nil
  have hlen := H.len
  refine k_spec_l1In _ _ _ _ _ ⟨_, rfl, hL1, fun e => ?_, fun e => ?_⟩
  · have e3 : inR 1 8 xss.length = false := by have := not_t e; rw [hlen] at this; exact this
    have : graphB xss = false := by unfold graphB; rw [e3]; rfl
    rw [← this]; exact HK _ f1
  · have e3 : inR 1 8 xss.length = true := by have := not_f e; rw [hlen] at this; exact this
    have hw : w64 ((g.n : Int) - 1) = (xss.length : Int) - 1 := by rw [hlen]; exact w64_eq _ (by omega) (by have := maxLen_lt H.big; omega)
    have hg : graphB xss = xss.all fun l => !decide (5 < (l.length : Int)) && l.all (inR 0 ((xss.length : Int) - 1)) := by unfold graphB; rw [e3]; rfl
    rw [hw]
    refine ⟨fun n i h' => Fr No h1 h' ∧ 0 ≤ i ∧ i + n = (xss.length : Int) ∧ graphB xss = (xss.drop i.toNat).all (fun l => !decide (5 < (l.length : Int)) && l.all (inR 0 ((xss.length : Int) - 1))), ⟨xss.length, Fr.refl _ _, by omega, by omega, by simp [hg]⟩, ?_⟩
    rintro n i h3 ⟨f3, h0, h2, h4⟩ hL
    have H3 := (H.no f1).no f3
    refine ⟨fun e => ?_, fun e => ?_⟩
    · have hi := H.lt e
      obtain ⟨si, hc, Hi⟩ := H3.get h0 hi
      refine ⟨H3.inb h0 hi, si, hc, fun e5 => ?_, fun e5 => ?_⟩
      · rw [drop_cons xss h0 hi, List.all_cons] at h4
        rw [Hi.len] at e5
        rw [e5] at h4
        have h5 : graphB xss = false := by rw [h4]; rfl
        rw [← h5]; exact HK _ (f1.trans f3)
      · rw [drop_cons xss h0 hi, List.all_cons] at h4
        rw [Hi.len] at e5
        rw [e5] at h4
        refine k_spec_l1All Hi _ _ _ ⟨_, rfl, hL, fun e6 => ?_, fun e6 => ?_⟩
        · rw [not_t e6] at h4
          have h5 : graphB xss = false := by rw [h4]; rfl
          rw [← h5]; exact HK _ (f1.trans f3)
        · rw [not_f e6] at h4
          rw [H.succ h0 hi]
          exact ⟨n - 1, by omega, f3, by omega, by omega, by rw [h4]; rfl⟩
    · have hi := H.ge e
      rw [List.drop_of_length_le (by omega)] at h4
      have h5 : graphB xss = true := by rw [h4]; rfl
      rw [← h5]; exact HK _ (f1.trans f3)

theorem k_IndexFunc {S : Nat → Prop} {h : Heap} {s : Sl} {xs : List Int} (H : RdI S h s xs) (f : Value) (p : Int → Bool) (hf : ∀ (x : Int) (K : Value → Heap → Prop), K (VB (p x)) h → callV Try.prog f [VI x] h K) (K : Value → Heap → Prop) (HK : ∀ r : Int, decide (0 ≤ r) = xs.any p → K (VI r) h) : callM Try.prog 138 #[s.v, f] h K := by
  refine v138 s f h K ⟨fun n i h' => h' = h ∧ 0 ≤ i ∧ i + n = (xs.length : Int) ∧ xs.any p = (xs.drop i.toNat).any p, ⟨xs.length, rfl, by omega, by omega, by simp⟩, ?_⟩
  rintro n i _ ⟨rfl, i0, i1, i2⟩ hL
  refine ⟨fun e => ?_, fun e => ?_⟩
  · have hi := H.lt e
    rw [drop_cons xs i0 hi, List.any_cons] at i2
    refine ⟨H.inb i0 hi, _, H.get i0 hi, hf _ _ ⟨_, rfl, .nil, fun e => ?_, fun e => ?_⟩⟩
    · rw [e, Bool.true_or] at i2
      exact HK _ (by rw [i2]; simpa using i0)
    · rw [e, Bool.false_or] at i2
      rw [H.succ i0 hi]
      exact ⟨n - 1, by omega, rfl, by omega, by omega, i2⟩
  · have hi := H.ge e
    rw [List.drop_of_length_le (by omega)] at i2
    exact HK _ (by rw [i2]; rfl)

theorem k_ContainsFunc {S : Nat → Prop} {h : Heap} {s : Sl} {xs : List Int} (H : RdI S h s xs) (f : Value) (p : Int → Bool) (hf : ∀ (x : Int) (K : Value → Heap → Prop), K (VB (p x)) h → callV Try.prog f [VI x] h K) (K : Value → Heap → Prop) (HK : K (VB (xs.any p)) h) : callM Try.prog 106 #[s.v, f] h K := by
  refine v106 s f h K (k_IndexFunc H f p hf _ fun r hr => ⟨r, rfl, .nil, ?_⟩)
  rw [hr]; exact HK

theorem k_isGraph1 {h : Heap} {b : Nat} {n : Int} (x : Int) {L : List (Nat × List Value)} (hL : Vars h ((b, [VI n]) :: L)) (K : Value → Heap → Prop) (HK : K (VB (!inR 0 (w64 (n - 1)) x)) h) : callV Try.prog (.func (.func 141) #[] #[VP b 0]) [VI x] h K := by
  refine v141 x b n h K (.cons hL.head (by simp) .nil) ?_
  refine k_impl_in _ _ _ _ _ ⟨_, rfl, .cons hL.head (by simp) .nil, ?_⟩
  exact HK

theorem k_has1 {h : Heap} {b : Nat} {g : Sl} (x : Int) {L : List (Nat × List Value)} (hL : Vars h ((b, [g.v]) :: L)) (K : Value → Heap → Prop) (HK : K (VB (!inR 0 (w64 (g.n - 1)) x)) h) : callV Try.prog (.func (.func 123) #[] #[VP b 0]) [VI x] h K := by
  refine v123 x b g h K (.cons hL.head (by simp) .nil) ?_
  refine k_impl_in _ _ _ _ _ ⟨_, rfl, .cons hL.head (by simp) .nil, ?_⟩
  exact HK

theorem graphB_eq {xss : List (List Int)} (e3 : inR 1 8 xss.length = true) : graphB xss = xss.all fun l => !decide (5 < (l.length : Int)) && l.all (inR 0 ((xss.length : Int) - 1)) := by unfold graphB; rw [e3]; rfl
theorem graphB_no {xss : List (List Int)} (e3 : inR 1 8 xss.length = false) : graphB xss = false := by unfold graphB; rw [e3]; rfl
theorem any_not {xs : List Int} {p : Int → Bool} : xs.any (fun x => !p x) = !xs.all p := by
  induction xs with
  | nil => rfl
  | cons x xs ih => simp only [List.any_cons, List.all_cons, ih, Bool.not_and]
theorem len_w64 {S : Nat → Prop} {h : Heap} {g : Sl} {xss : List (List Int)} (H : RdR S h g xss) : w64 ((g.n : Int) - 1) = (xss.length : Int) - 1 := by
  rw [H.len]
  have h1 := maxLen_lt H.big
  have h2 := H.len
  exact w64_eq _ (by omega) (by omega)

theorem k_isGraph {S : Nat → Prop} {h : Heap} {g : Sl} {xss : List (List Int)} (H : RdR S h g xss) : Ret Try.prog 122 #[.agg #[g.v]] h (VB (graphB xss)) := by
  intro K HK
  refine v122 g h K fun b1 b2 h1 hb1 hb2 hf1 hL1 => ?_
  have f1 := hf1.in_nil
  have hlen := H.len
  refine k_impl_in _ _ _ _ _ ⟨_, rfl, hL1, fun e => ?_, fun e => ?_⟩
  · have e3 : inR 1 8 xss.length = false := by have := not_t e; rw [hlen] at this; exact this
    rw [← graphB_no e3]; exact HK _ f1
  · have e3 : inR 1 8 xss.length = true := by have := not_f e; rw [hlen] at this; exact this
    have hg := graphB_eq e3
    refine ⟨fun n i x h' => h' = h1 ∧ x = (g.n : Int) ∧ 0 ≤ i ∧ i + n = (xss.length : Int) ∧ graphB xss = (xss.drop i.toNat).all (fun l => !decide (5 < (l.length : Int)) && l.all (inR 0 ((xss.length : Int) - 1))), ⟨xss.length, rfl, rfl, by omega, by omega, by simp [hg]⟩, ?_⟩
    rintro n i x _ ⟨rfl, rfl, h0, h2, h4⟩ hL
    have H3 := H.no f1
    refine ⟨fun e => ?_, fun e => ?_⟩
    · have hi := H.lt e
      obtain ⟨si, hc, Hi⟩ := H3.get h0 hi
      rw [drop_cons xss h0 hi, List.all_cons] at h4
      refine ⟨H3.inb h0 hi, si, hc, fun e5 => ?_, fun e5 => ?_⟩
      · rw [Hi.len] at e5
        rw [e5] at h4
        have h5 : graphB xss = false := by rw [h4]; rfl
        rw [← h5]; exact HK _ f1
      · rw [Hi.len] at e5
        rw [e5] at h4
        refine k_ContainsFunc Hi _ _ (fun x K HK => k_isGraph1 x hL K HK) _ ?_
        refine ⟨_, _, rfl, hL, fun e6 => ?_, fun e6 => ?_⟩
        · rw [any_not, len_w64 H] at e6
          rw [not_t e6] at h4
          have h5 : graphB xss = false := by rw [h4]; rfl
          rw [← h5]; exact HK _ f1
        · rw [any_not, len_w64 H] at e6
          rw [not_f e6] at h4
          rw [H.succ h0 hi]
          exact ⟨n - 1, by omega, rfl, rfl, by omega, by omega, by rw [h4]; rfl⟩
    · have hi := H.ge e
      rw [List.drop_of_length_le (by omega)] at h4
      have h5 : graphB xss = true := by rw [h4]; rfl
      rw [← h5]; exact HK _ f1

theorem k_has {S S' : Nat → Prop} {h : Heap} {g s : Sl} {xss : List (List Int)} {ps : List Int} (H : RdR S h g xss) (Hp : RdI S' h s ps) : Ret Try.prog 85 #[.agg #[g.v], s.v] h (VB (graphB xss && ps.all (inR 0 ((xss.length : Int) - 1)))) := by
  intro K HK
  refine v85 g s h K fun b1 h1 hb1 f1 hL1 => ?_
  have f1 := f1.in_nil
  refine k_isGraph (H.no f1) _ fun h2 f2 => ⟨_, rfl, hL1.of_no f2, fun e => ?_, fun e => ?_⟩
  · rw [e, Bool.true_and] at HK
    have hL2 := hL1.of_no f2
    refine k_ContainsFunc ((Hp.no f1).no f2) _ _ (fun x K HK => k_has1 x hL2 K HK) _ ?_
    refine ⟨_, _, rfl, hL2, ?_⟩
    rw [any_not, len_w64 H, Bool.not_not]
    exact HK _ (f1.trans f2)
  · rw [e, Bool.false_and] at HK
    exact HK _ (f1.trans f2)

theorem k_spec_grPlace {S : Nat → Prop} {h : Heap} {g : Sl} {xss : List (List Int)} (H : RdR S h g xss) (p : Int) : Ret Try.prog 81 #[.agg #[g.v], VI p] h (VB (graphB xss && inR 0 ((xss.length : Int) - 1) p)) := by
  intro K HK
  refine v81 g p h K fun b1 h1 hb1 f1 hL1 => ?_
  have f1 := f1.in_nil
  refine k_spec_grGood (H.no f1) _ fun h2 f2 => ⟨_, rfl, hL1.of_no f2, fun e => ?_, fun e => ?_⟩
  · rw [e, Bool.true_and] at HK
    refine k_spec_l1In _ _ _ _ _ ⟨_, rfl, hL1.of_no f2, ?_⟩
    rw [len_w64 H]
    exact HK _ (f1.trans f2)
  · rw [e, Bool.false_and] at HK
    exact HK _ (f1.trans f2)

theorem k_spec_l1Most (a b : Int) (h : Heap) (K : Value → Heap → Prop) (HK : K (VI (max a b)) h) : callM Try.prog 113 #[VI a, VI b] h K := by
  refine v113 a b h K ⟨fun e => ?_, fun e => ?_⟩
  · simp only [decide_eq_true_eq] at e
    rw [Int.max_eq_left (by omega)] at HK
    exact HK
  · simp only [decide_eq_false_iff_not] at e
    rw [Int.max_eq_right (by omega)] at HK
    exact HK

def rotB (l : List Int) (r : Int) : Bool := inR 0 (max ((l.length : Int) - 1) 0) r
def walkB (g : List (List Int)) (rs : List Int) (p : Int) : Bool := graphB g && inR 0 ((g.length : Int) - 1) p && decide (rs.length = g.length) && (g.zip rs).all fun q => rotB q.1 q.2
theorem walkB_no1 {g : List (List Int)} {rs : List Int} {p : Int} (e : (graphB g && inR 0 ((g.length : Int) - 1) p) = false) : walkB g rs p = false := by unfold walkB; rw [e]; rfl
theorem walkB_no2 {g : List (List Int)} {rs : List Int} {p : Int} (e : ¬ rs.length = g.length) : walkB g rs p = false := by unfold walkB; rw [decide_eq_false e]; simp
theorem walkB_eq {g : List (List Int)} {rs : List Int} {p : Int} (e : (graphB g && inR 0 ((g.length : Int) - 1) p) = true) (e2 : rs.length = g.length) : walkB g rs p = (g.zip rs).all fun q => rotB q.1 q.2 := by unfold walkB; rw [e, decide_eq_true e2]; rfl
theorem zip_drop (g : List (List Int)) (rs : List Int) {i : Int} (h0 : 0 ≤ i) (h1 : i < (g.length : Int)) (h2 : i < (rs.length : Int)) : (g.zip rs).drop i.toNat = (g[i.toNat]'(by omega), rs[i.toNat]'(by omega)) :: (g.zip rs).drop (i + 1).toNat := by
  have := drop_cons (g.zip rs) h0 (by simp; omega)
  simpa using this
theorem len_w64I {S : Nat → Prop} {h : Heap} {g : Sl} {xs : List Int} (H : RdI S h g xs) : w64 ((g.n : Int) - 1) = (xs.length : Int) - 1 := by
  rw [H.len]
  have h1 := maxLen_lt (RdV.big H)
  have h2 := H.len
  exact w64_eq _ (by omega) (by omega)

theorem k_isWalk {S S' : Nat → Prop} {h : Heap} {g s : Sl} {xss : List (List Int)} {rs : List Int} (G : RdR S h g xss) (H : RdI S' h s rs) (p : Int) : Ret Try.prog 77 #[.agg #[g.v], .agg #[s.v, VI p]] h (VB (walkB xss rs p)) := by
  intro K HK
  refine v77 g s p h K fun b1 b2 h1 hb1 hb2 f1 hL1 => ?_
  have f1 := f1.in_nil
  refine eop_lit rIs (fun k => h1.size ≤ k) (fun _ h => h) 1 (by omega) [VI p] rfl rfl fun t h2 n2 c2 o2 f2 l2 _ => ⟨t, rfl, hL1.of_no f2, ?_⟩
  have o2 : RdI (fun k => h1.size ≤ k) h2 t [p] := o2.rdF
  refine k_has ((G.no f1).no f2) o2 _ fun h3 f3 => ⟨_, rfl, (hL1.of_no f2).of_no f3, fun e => ?_, fun e => ?_⟩
  all_goals simp only [List.all_cons, List.all_nil, Bool.and_true] at e
  · rw [← walkB_no1 (rs := rs) (not_t e)]; exact HK _ ((f1.no_trans f2).no_trans f3)
  · have f13 := (f1.no_trans f2).no_trans f3
    rw [G.len, H.len]
    refine ⟨fun e2 => ?_, fun e2 => ?_⟩
    · have e3 := not_t e2
      simp only [decide_eq_false_iff_not] at e3
      rw [← walkB_no2 (g := xss) (rs := rs) (p := p) (by omega)]; exact HK _ f13
    · have e3 := not_f e2
      simp only [decide_eq_true_eq] at e3
      have e4 := walkB_eq (not_f e) (rs := rs) (by omega)
      have G3 := G.no f13
      have H3 := H.no f13
      refine ⟨fun n i h' => h' = h3 ∧ 0 ≤ i ∧ i + n = (xss.length : Int) ∧ walkB xss rs p = ((xss.zip rs).drop i.toNat).all fun q => rotB q.1 q.2, ⟨xss.length, rfl, by omega, by omega, by simpa using e4⟩, ?_⟩
      rintro n i _ ⟨rfl, i0, i1, i2⟩ hL
      refine ⟨fun e5 => ?_, fun e5 => ?_⟩
      · have hi : i < (rs.length : Int) := by simpa using e5
        have hi' : i < (xss.length : Int) := by omega
        obtain ⟨si, c1, c2⟩ := G3.get i0 hi'
        rw [zip_drop xss rs i0 hi' hi, List.all_cons] at i2
        refine ⟨H3.inb i0 hi, _, H3.get i0 hi, G3.inb i0 hi', si, c1, ?_⟩
        rw [len_w64I c2]
        refine pop_max _ _ _ _ ⟨_, rfl, k_impl_in _ _ _ _ _ ⟨_, rfl, hL, fun e6 => ?_, fun e6 => ?_⟩⟩
        · have e7 : rotB (xss[i.toNat]'(by omega)) (rs[i.toNat]'(by omega)) = false := not_t e6
          simp only at i2
          rw [e7] at i2
          have e8 : walkB xss rs p = false := by rw [i2]; rfl
          rw [← e8]; exact HK _ f13
        · have e7 : rotB (xss[i.toNat]'(by omega)) (rs[i.toNat]'(by omega)) = true := not_f e6
          simp only at i2
          rw [e7, Bool.true_and] at i2
          rw [H.succ i0 hi]
          exact ⟨n - 1, by omega, rfl, by omega, by omega, i2⟩
      · have hi : ¬ i < (rs.length : Int) := by simpa using e5
        rw [List.drop_of_length_le (by simp; omega)] at i2
        have e8 : walkB xss rs p = true := by rw [i2]; rfl
        rw [← e8]; exact HK _ f13

theorem k_spec_waGood {S S' : Nat → Prop} {h : Heap} {g s : Sl} {xss : List (List Int)} {rs : List Int} (G : RdR S h g xss) (H : RdI S' h s rs) (p : Int) : Ret Try.prog 74 #[.agg #[g.v], .agg #[s.v, VI p]] h (VB (walkB xss rs p)) := by
  intro K HK
  refine v74 g s p h K fun b1 b2 h1 hb1 hb2 f1 hL1 => ?_
  have f1 := f1.in_nil
  refine k_spec_grPlace (G.no f1) p _ fun h3 f3 => ⟨_, rfl, hL1.of_no f3, fun e => ?_, fun e => ?_⟩
  · rw [← walkB_no1 (rs := rs) (not_t e)]; exact HK _ (f1.no_trans f3)
  · have f13 := f1.no_trans f3
    rw [G.len, H.len]
    refine ⟨fun e2 => ?_, fun e2 => ?_⟩
    · have e3 := not_t e2
      simp only [decide_eq_false_iff_not] at e3
      rw [← walkB_no2 (g := xss) (rs := rs) (p := p) (by omega)]; exact HK _ f13
    · have e3 := not_f e2
      simp only [decide_eq_true_eq] at e3
      have e4 := walkB_eq (not_f e) (rs := rs) (by omega)
      have G3 := G.no f13
      have H3 := H.no f13
      refine ⟨fun n i h' => h' = h3 ∧ 0 ≤ i ∧ i + n = (xss.length : Int) ∧ walkB xss rs p = ((xss.zip rs).drop i.toNat).all fun q => rotB q.1 q.2, ⟨xss.length, rfl, by omega, by omega, by simpa using e4⟩, ?_⟩
      rintro n i _ ⟨rfl, i0, i1, i2⟩ hL
      refine ⟨fun e5 => ?_, fun e5 => ?_⟩
      · have hi' : i < (xss.length : Int) := by simpa using e5
        have hi : i < (rs.length : Int) := by omega
        obtain ⟨si, c1, c2⟩ := G3.get i0 hi'
        rw [zip_drop xss rs i0 hi' hi, List.all_cons] at i2
        refine ⟨G3.inb i0 hi', si, c1, H3.inb i0 hi, _, H3.get i0 hi, ?_⟩
        rw [len_w64I c2]
        refine k_spec_l1Most _ _ _ _ ⟨_, rfl, hL, H3.get i0 hi, ?_⟩
        rw [Int.max_comm]
        refine k_spec_l1In _ _ _ _ _ ⟨_, rfl, hL, fun e6 => ?_, fun e6 => ?_⟩
        · have e7 : rotB (xss[i.toNat]'(by omega)) (rs[i.toNat]'(by omega)) = false := not_t e6
          simp only at i2
          rw [e7] at i2
          have e8 : walkB xss rs p = false := by rw [i2]; rfl
          rw [← e8]; exact HK _ f13
        · have e7 : rotB (xss[i.toNat]'(by omega)) (rs[i.toNat]'(by omega)) = true := not_f e6
          simp only at i2
          rw [e7, Bool.true_and] at i2
          rw [G.succ i0 hi']
          exact ⟨n - 1, by omega, rfl, by omega, by omega, i2⟩
      · have hi : ¬ i < (xss.length : Int) := by simpa using e5
        rw [List.drop_of_length_le (by simp; omega)] at i2
        have e8 : walkB xss rs p = true := by rw [i2]; rfl
        rw [← e8]; exact HK _ f13

theorem loopI {S : Nat → Prop} {h : Heap} {s : Sl} {xs : List Int} (H : RdI S h s xs) : (xs.length : Int) ≤ maxLen := by have := H.len; have := H.big; omega

theorem k_eqIntS {S S' : Nat → Prop} {h : Heap} {a b : Sl} {xs ys : List Int} (H : RdI S h a xs) (H' : RdI S' h b ys) (K : Value → Heap → Prop) (HK : K (VB (decide (xs = ys))) h) : callM Try.prog 45 #[a.v, b.v] h K := by
  refine v45 a b h K ⟨fun e => ?_, fun e => ?_⟩
  · have e1 := not_t e
    rw [H.len, H'.len] at e1
    have : ¬ xs = ys := fun e2 => by subst e2; simp at e1
    rw [decide_eq_false this] at HK
    exact HK
  · have e1 := not_f e
    rw [H.len, H'.len] at e1
    have hl : xs.length = ys.length := by simp at e1; omega
    refine ⟨fun n i h' => h' = h ∧ 0 ≤ i ∧ i + n = (xs.length : Int) ∧ decide (xs = ys) = decide (xs.drop i.toNat = ys.drop i.toNat), ⟨xs.length, rfl, by omega, by omega, by simp⟩, ?_⟩
    rintro n i _ ⟨rfl, h0, h1, h2⟩ hL
    refine ⟨fun e => ?_, fun e => ?_⟩
    · have hi := H.lt e
      have hi' : i < (ys.length : Int) := by omega
      refine ⟨H.inb h0 hi, _, H.get h0 hi, H'.inb h0 hi', _, H'.get h0 hi', fun e => ?_, fun e => ?_⟩
      · rw [drop_cons xs h0 hi, drop_cons ys h0 hi'] at h2
        have e3 := not_t e
        simp only [decide_eq_false_iff_not] at e3
        rw [h2, decide_eq_false (fun e4 => e3 (List.cons.inj e4).1)] at HK
        exact HK
      · rw [drop_cons xs h0 hi, drop_cons ys h0 hi'] at h2
        have e3 := not_f e
        simp only [decide_eq_true_eq] at e3
        rw [H.succ h0 hi]
        refine ⟨n - 1, by omega, rfl, by omega, by omega, h2.trans ?_⟩
        rw [e3]
        simp
    · have hi := H.ge e
      rw [List.drop_of_length_le (by omega), List.drop_of_length_le (by omega)] at h2
      rw [h2] at HK
      exact HK

theorem k_eqIntSS {S S' : Nat → Prop} {h : Heap} {a b : Sl} {xs ys : List (List Int)} (H : RdR S h a xs) (H' : RdR S' h b ys) (K : Value → Heap → Prop) (HK : K (VB (decide (xs = ys))) h) : callM Try.prog 21 #[a.v, b.v] h K := by
  refine v21 a b h K ⟨fun e => ?_, fun e => ?_⟩
  · have e1 := not_t e
    rw [H.len, H'.len] at e1
    have : ¬ xs = ys := fun e2 => by subst e2; simp at e1
    rw [decide_eq_false this] at HK
    exact HK
  · have e1 := not_f e
    rw [H.len, H'.len] at e1
    have hl : xs.length = ys.length := by simp at e1; omega
    refine ⟨fun n i h' => h' = h ∧ 0 ≤ i ∧ i + n = (xs.length : Int) ∧ decide (xs = ys) = decide (xs.drop i.toNat = ys.drop i.toNat), ⟨xs.length, rfl, by omega, by omega, by simp⟩, ?_⟩
    rintro n i _ ⟨rfl, h0, h1, h2⟩ hL
    refine ⟨fun e => ?_, fun e => ?_⟩
    · have hi := H.lt e
      have hi' : i < (ys.length : Int) := by omega
      obtain ⟨x, cx, rx⟩ := H.get h0 hi
      obtain ⟨y, cy, ry⟩ := H'.get h0 hi'
      refine ⟨H.inb h0 hi, x, cx, H'.inb h0 hi', y, cy, k_eqIntS rx ry _ ⟨_, rfl, hL, fun e => ?_, fun e => ?_⟩⟩
      · rw [drop_cons xs h0 hi, drop_cons ys h0 hi'] at h2
        have e3 := not_t e
        simp only [decide_eq_false_iff_not] at e3
        rw [h2, decide_eq_false (fun e4 => e3 (List.cons.inj e4).1)] at HK
        exact HK
      · rw [drop_cons xs h0 hi, drop_cons ys h0 hi'] at h2
        have e3 := not_f e
        simp only [decide_eq_true_eq] at e3
        rw [H.succ h0 hi]
        refine ⟨n - 1, by omega, rfl, by omega, by omega, h2.trans ?_⟩
        rw [e3]
        simp
    · have hi := H.ge e
      rw [List.drop_of_length_le (by omega), List.drop_of_length_le (by omega)] at h2
      rw [h2] at HK
      exact HK

theorem k_eqGraph {S S' : Nat → Prop} {h : Heap} {a b : Sl} {xs ys : List (List Int)} (H : RdR S h a xs) (H' : RdR S' h b ys) : Ret Try.prog 22 #[.agg #[a.v], .agg #[b.v]] h (VB (decide (xs = ys))) := by
  intro K HK
  refine v22 a b h K fun b1 b2 h1 hb1 hb2 f1 hL1 => ?_
  refine k_eqIntSS (H.no f1.in_nil) (H'.no f1.in_nil) _ ⟨_, rfl, hL1, fun e => ?_, fun e => ?_⟩
  · rw [← not_t e]; exact HK _ f1.in_nil
  · rw [← not_f e]; exact HK _ f1.in_nil

theorem k_eqWalk {S S' : Nat → Prop} {h : Heap} {a b : Sl} {xs ys : List Int} (H : RdI S h a xs) (H' : RdI S' h b ys) (p q : Int) : Ret Try.prog 23 #[.agg #[a.v, VI p], .agg #[b.v, VI q]] h (VB (decide (xs = ys ∧ p = q))) := by
  intro K HK
  refine v23 a p b q h K fun b1 b2 h1 hb1 hb2 f1 hL1 => ?_
  refine k_eqIntS (H.no f1.in_nil) (H'.no f1.in_nil) _ ⟨_, rfl, hL1, fun e => ?_, fun e => ?_⟩
  · have e3 := not_t e
    simp only [decide_eq_false_iff_not] at e3
    rw [decide_eq_false fun e4 => e3 e4.1] at HK
    exact HK _ f1.in_nil
  · have e3 := not_f e
    simp only [decide_eq_true_eq] at e3
    refine ⟨fun e => ?_, fun e => ?_⟩
    · have e5 := not_t e
      simp only [decide_eq_false_iff_not] at e5
      rw [decide_eq_false fun e4 => e5 e4.2] at HK
      exact HK _ f1.in_nil
    · have e5 := not_f e
      simp only [decide_eq_true_eq] at e5
      rw [decide_eq_true ⟨e3, e5⟩] at HK
      exact HK _ f1.in_nil

def numI (k : Int) : List Int → List Int
  | [] => []
  | _ :: xs => k :: numI (k + 1) xs
theorem numI_length : ∀ (k : Int) (xs : List Int), (numI k xs).length = xs.length
  | _, [] => rfl
  | k, _ :: xs => by simp [numI, numI_length (k + 1) xs]
theorem numI_get : ∀ (xs : List Int) (k : Int) (i : Nat) (h : i < (numI k xs).length), (numI k xs)[i] = k + i
  | [], k, i, h => by simp [numI] at h
  | x :: xs, k, 0, h => by simp [numI]
  | x :: xs, k, i + 1, h => by
    simp only [numI, List.getElem_cons_succ]
    rw [numI_get xs (k + 1) i]
    omega
def totR (xss : List (List Int)) : Nat := (xss.map List.length).sum
def numR (k : Int) : List (List Int) → List (List Int)
  | [] => []
  | xs :: xss => numI k xs :: numR (k + xs.length) xss
theorem numR_length : ∀ (k : Int) (xss : List (List Int)), (numR k xss).length = xss.length
  | _, [] => rfl
  | k, xs :: xss => by simp [numR, numR_length (k + xs.length) xss]
theorem numR_get : ∀ (xss : List (List Int)) (k : Int) (i : Nat) (h : i < (numR k xss).length) (h' : i < xss.length), (numR k xss)[i] = numI (k + totR (xss.take i)) xss[i]
  | [], k, i, h, _ => by simp [numR] at h
  | x :: xs, k, 0, h, _ => by simp [numR, totR]
  | x :: xs, k, i + 1, h, h' => by
    simp only [numR, List.getElem_cons_succ]
    rw [numR_get xs _ i (by simpa [numR] using h) (by simpa using h')]
    congr 1
    simp [totR]
    omega
theorem totR_take_le : ∀ (xss : List (List Int)) (i : Nat), totR (xss.take i) ≤ totR xss
  | [], i => by simp [totR]
  | x :: xs, 0 => by simp [totR]
  | x :: xs, i + 1 => by
    have := totR_take_le xs i
    simp only [totR, List.take_succ_cons, List.map_cons, List.sum_cons] at *
    omega
theorem totR_snoc (xss : List (List Int)) (i : Nat) (h : i < xss.length) : totR (xss.take (i + 1)) = totR (xss.take i) + xss[i].length := by
  rw [List.take_succ_eq_append_getElem h]
  simp only [totR, List.map_append, List.sum_append, List.map_cons, List.map_nil, List.sum_cons, List.sum_nil]
  omega

def firstXs : List (List Int) := [[1, 2], [0, 2], [0]]
def DeskIs (h h' : Heap) (v : Value) : Prop := ∃ (g w : Sl) (m : Nat), v = .agg #[g.v, w.v, VI 0] ∧ OwX h' (fun k => h.size ≤ k ∧ k < m) g firstXs ∧ OwI h' (fun k => h.size ≤ k ∧ m ≤ k) w [0, 0, 0] ∧ Fr No h h'
theorem own_lt {h : Heap} {F : Nat → Prop} {e : TypeId} {sz : Nat} {s : Sl} {vs : List Value} (H : Ow h F e sz s vs) {n : Nat} (hn : h.size ≤ n) : ∀ k, s.own k → k < n := fun k hk => Nat.lt_of_lt_of_le (H.foot hk).2 hn
theorem lit_first {h1 : Heap} {K : Value → Heap → Prop} (HK : ∀ (g : Sl) (h' : Heap), OwX h' (fun k => h1.size ≤ k) g firstXs → Fr No h1 h' → K g.v h') :
    eop Try.prog (Instr.buildSlice tIs 2 #[(0, VI 1), (1, VI 2)]) h1 fun rv_1 h_2 => ∃ t1_1 : Sl, rv_1 = t1_1.v ∧ Fr No h1 h_2 ∧
    eop Try.prog (Instr.buildSlice tIs 2 #[(0, VI 0), (1, VI 2)]) h_2 fun rv_2 h_3 => ∃ t2_1 : Sl, rv_2 = t2_1.v ∧ Fr No h_2 h_3 ∧
    eop Try.prog (Instr.buildSlice tIs 1 #[(0, VI 0)]) h_3 fun rv_3 h_4 => ∃ t3_1 : Sl, rv_3 = t3_1.v ∧ Fr No h_3 h_4 ∧
    eop Try.prog (Instr.buildSlice tIss 3 #[(0, t1_1.v), (1, t2_1.v), (2, t3_1.v)]) h_4 K := by
  refine eop_lit rIs (fun k => h1.size ≤ k) (fun _ h => h) 2 (by omega) [VI 1, VI 2] rfl rfl fun t1 h2 n1 c1 o1 f1 l1 _ => ⟨t1, rfl, f1, ?_⟩
  refine eop_lit rIs (fun k => h1.size ≤ k) (fun _ h => Nat.le_trans f1.size h) 2 (by omega) [VI 0, VI 2] rfl rfl fun t2 h3 n2 c2 o2 f2 l2 _ => ⟨t2, rfl, f2, ?_⟩
  have f13 := f1.no_trans f2
  refine eop_lit rIs (fun k => h1.size ≤ k) (fun _ h => Nat.le_trans f13.size h) 1 (by omega) [VI 0] rfl rfl fun t3 h4 n3 c3 o3 f3 l3 _ => ⟨t3, rfl, f3, ?_⟩
  have f14 := f13.no_trans f3
  refine eop_lit rIss (fun k => h1.size ≤ k) (fun _ h => Nat.le_trans f14.size h) 3 (by omega) [t1.v, t2.v, t3.v] rfl rfl fun t4 h5 n4 c4 o4 f4 l4 _ => ?_
  have g1 := own_lt o1 (Nat.le_refl _)
  have g2 := own_lt o2 (Nat.le_refl _)
  have g3 := own_lt o3 (Nat.le_refl _)
  have s3 := f2.size
  have s4 := f3.size
  refine HK t4 h5 (OwR.of [t1, t2, t3] rfl o4 ?_ ?_ ?_) (f14.trans f4)
  · intro p hp
    simp only [firstXs, List.zip_cons_cons, List.zip_nil_right, List.mem_cons, List.not_mem_nil, or_false] at hp
    rcases hp with rfl | rfl | rfl
    · exact ((o1.no f2).no f3).no f4
    · exact (o2.no f3).no f4
    · exact o3.no f4
  · simp only [List.pairwise_cons, List.mem_cons, List.not_mem_nil, or_false, forall_eq_or_imp, forall_eq, List.Pairwise.nil, and_true]
    refine ⟨⟨fun k a b => ?_, fun k a b => ?_⟩, fun k a b => ?_, by simp⟩
    · have := g1 k a; have := l2 k b; omega
    · have := g1 k a; have := l3 k b; omega
    · have := g2 k a; have := l3 k b; omega
  · intro a ha k hk hk2
    have := l4 k hk
    simp only [List.mem_cons, List.not_mem_nil, or_false] at ha
    rcases ha with rfl | rfl | rfl
    · have := g1 k hk2; omega
    · have := g2 k hk2; omega
    · have := g3 k hk2; omega

theorem k_szIntS {S : Nat → Prop} {h : Heap} {s : Sl} {xs : List Int} (H : RdI S h s xs) (left : Int) (h0 : 0 ≤ left) (h1 : left ≤ 1048576) (K : Value → Heap → Prop) (HK : ∀ r : Int, r = -1 ∨ (0 ≤ r ∧ r = left - xs.length) → K (VI r) h) : callM Try.prog 65 #[s.v, VI left] h K := by
  have hb := maxLen_lt (RdV.big H)
  have e := H.len
  have hw : w64 (left - s.n) = left - s.n := w64_eq _ (by omega) (by omega)
  refine v65 s left h K ⟨fun _ => HK _ (.inl rfl), fun e2 => HK _ (.inr ?_)⟩
  rw [hw] at e2 ⊢
  simp only [decide_eq_false_iff_not] at e2
  omega

theorem k_szIntSS {S : Nat → Prop} {h : Heap} {s : Sl} {xss : List (List Int)} (H : RdR S h s xss) (left : Int) (h0 : 0 ≤ left) (h1 : left ≤ 1048576) (K : Value → Heap → Prop) (HK : ∀ r : Int, r = -1 ∨ (0 ≤ r ∧ r = left - xss.length - totR xss) → K (VI r) h) : callM Try.prog 64 #[s.v, VI left] h K := by
  have hb := maxLen_lt H.big
  have e := H.len
  have hw : w64 (left - s.n) = left - s.n := w64_eq _ (by omega) (by omega)
  refine v64 s left h K ⟨fun _ => HK _ (.inl rfl), fun e2 => ?_⟩
  rw [hw] at e2 ⊢
  simp only [decide_eq_false_iff_not] at e2
  refine ⟨fun n l i h' => h' = h ∧ 0 ≤ i ∧ i + n = (xss.length : Int) ∧ l = left - xss.length - totR (xss.take i.toNat) ∧ 0 ≤ l, ⟨xss.length, rfl, by omega, by omega, by simp [totR]; omega, by omega⟩, ?_⟩
  rintro n l i _ ⟨rfl, i0, i1, rfl, l0⟩ hL
  refine ⟨fun e => ?_, fun e => ?_⟩
  · have hi := H.lt e
    obtain ⟨si, c1, c2⟩ := H.get i0 hi
    have hsn := totR_snoc xss i.toNat (by omega)
    refine ⟨H.inb i0 hi, si, c1, k_szIntS c2 _ l0 (by omega) _ fun r hr => ⟨r, rfl, .nil, fun _ => HK _ (.inl rfl), fun e3 => ?_⟩⟩
    simp only [decide_eq_false_iff_not] at e3
    rw [H.succ i0 hi]
    exact ⟨n - 1, by omega, rfl, by omega, by omega, by rw [toNat_succ i0, hsn]; omega, by omega⟩
  · have hi := H.ge e
    have e4 : i = xss.length := by omega
    refine HK _ (.inr ⟨l0, ?_⟩)
    rw [e4]
    simp

theorem k_szGraph {S : Nat → Prop} {h : Heap} {s : Sl} {xss : List (List Int)} (H : RdR S h s xss) (left : Int) (h0 : 0 ≤ left) (h1 : left ≤ 1048576) (K : Value → Heap → Prop) (HK : ∀ (h' : Heap) (r : Int), Fr No h h' → r = -1 ∨ (0 ≤ r ∧ r = left - xss.length - totR xss) → K (VI r) h') : callM Try.prog 15 #[.agg #[s.v], VI left] h K := by
  refine v15 s left h K fun b1 h1' hb1 f1 hL1 => ?_
  refine k_szIntSS (H.no f1.in_nil) left h0 h1 _ fun r hr => ⟨r, rfl, hL1, fun e => HK _ _ f1.in_nil (.inl rfl), fun e => HK _ _ f1.in_nil hr⟩

theorem k_szWalk {S : Nat → Prop} {h : Heap} {s : Sl} {xs : List Int} (H : RdI S h s xs) (p left : Int) (h0 : 0 ≤ left) (h1 : left ≤ 1048576) (K : Value → Heap → Prop) (HK : ∀ (h' : Heap) (r : Int), Fr No h h' → r = -1 ∨ (0 ≤ r ∧ r = left - xs.length) → K (VI r) h') : callM Try.prog 16 #[.agg #[s.v, VI p], VI left] h K := by
  refine v16 s p left h K fun b1 h1' hb1 f1 hL1 => ?_
  refine k_szIntS (H.no f1.in_nil) left h0 h1 _ fun r hr => ⟨r, rfl, hL1, fun e => HK _ _ f1.in_nil (.inl rfl), fun e => HK _ _ f1.in_nil hr⟩

theorem k_toIntS {S : Nat → Prop} {h : Heap} {s : Sl} {xs : List Int} (H : RdI S h s xs) (hn : xs.length ≤ 1000000000000) (K : Value → Heap → Prop) (HK : ∀ t h', OwI h' (fun k => h.size ≤ k) t xs → Fr No h h' → K t.v h') : callM Try.prog 42 #[s.v] h K := by
  have hl := H.len
  refine v42 s h K ?_
  refine eop_make rIs (fun k => h.size ≤ k) (fun _ h => h) .i64 .i64 s.n s.n (Nat.le_refl _) (by omega) fun t h1 n1 c1 o1 f1 l1 _ => ⟨t, rfl, .nil, ?_⟩
  have o1 : OwI h1 (fun k => h.size ≤ k) t (List.replicate xs.length 0) := by
    have e : (List.replicate s.n [VI 0]).flatten = (List.replicate xs.length (0 : Int)).map VI := by rw [H.len]; simp [List.flatten_replicate_singleton]
    rw [e] at o1; exact o1
  refine ⟨fun n i h' => 0 ≤ i ∧ i + n = (xs.length : Int) ∧ OwI h' (fun k => h.size ≤ k) t (xs.take i.toNat ++ (List.replicate xs.length (0 : Int)).drop i.toNat) ∧ Fr t.own h1 h', ⟨xs.length, by omega, by omega, by simpa using o1, Fr.refl _ _⟩, ?_⟩
  rintro n i h2 ⟨i0, i1, o2, f2⟩ hL
  have H2 := H.on f1 f2 l1
  refine ⟨fun e => ?_, fun e => ?_⟩
  · have hi := H.lt e
    obtain ⟨w1, w2, w3⟩ := o2.store1 i0 (by omega) (VI (xs[i.toNat]'(by omega)))
    refine ⟨H2.inb i0 hi, _, H2.get i0 hi, o2.inb i0 (by omega), w1, .nil, fun h3 e3 _ => ?_⟩
    subst e3
    rw [← List.map_set, set_mid _ _ _ _ (by simp; omega)] at w2
    rw [H.succ i0 hi]
    exact ⟨n - 1, by omega, by omega, by omega, by rw [toNat_succ i0]; exact w2, f2.trans w3⟩
  · have hi := H.ge e
    have e4 : i = xs.length := by omega
    subst e4
    exact HK t h2 (by simpa using o2) (f1.fresh f2 l1)

theorem k_toIntSS {S : Nat → Prop} {h : Heap} {s : Sl} {xss : List (List Int)} (H : RdR S h s xss) (hn : xss.length ≤ 1000000000000) (hm : totR xss ≤ 1000000000000) (K : Value → Heap → Prop) (HK : ∀ t h', OwX h' (fun k => h.size ≤ k) t xss → Fr No h h' → K t.v h') : callM Try.prog 68 #[s.v] h K := by
  have hl := H.len
  refine v68 s h K ?_
  refine eop_make rIss (fun k => h.size ≤ k) (fun _ h => h) .i64 .i64 s.n s.n (Nat.le_refl _) (by omega) fun t h1 n1 c1 o1 f1 l1 _ => ⟨t, rfl, .nil, ?_⟩
  have o1 : OwX h1 (fun k => h.size ≤ k) t (List.replicate xss.length []) := OwR.zeros _ (by rw [hl] at o1; exact o1)
  refine ⟨fun n i h' => 0 ≤ i ∧ i + n = (xss.length : Int) ∧ OwX h' (fun k => h.size ≤ k) t (xss.take i.toNat ++ (List.replicate xss.length []).drop i.toNat) ∧ Fr No h h', ⟨xss.length, by omega, by omega, by simpa using o1, f1⟩, ?_⟩
  rintro n i h2 ⟨i0, i1, o2, f2⟩ hL
  have H2 := H.no f2
  refine ⟨fun e => ?_, fun e => ?_⟩
  · have hi := H.lt e
    obtain ⟨si, c1, c2⟩ := H2.get i0 hi
    have hlen : (xss.take i.toNat ++ (List.replicate xss.length ([] : List Int)).drop i.toNat).length = xss.length := by simp; omega
    have hsz : (xss[i.toNat]'(by omega)).length ≤ totR xss := by
      have h1 := totR_snoc xss i.toNat (by omega)
      have h2 := totR_take_le xss (i.toNat + 1)
      omega
    refine ⟨H2.inb i0 hi, si, c1, k_toIntS c2 (by omega) _ fun x h3 o3 f3 => ⟨x, rfl, .nil, ?_⟩⟩
    have o2' := (o2.mono (F' := fun k => h.size ≤ k ∧ k < h2.size) fun k hk hF => ⟨hF, hk⟩).no f3
    obtain ⟨sj, d1, d2, _⟩ := o2'.inner i0 (by omega)
    have s2 := f2.size
    obtain ⟨w1, w2, w3⟩ := o2'.outer i0 (by omega) d1 (F' := fun k => h.size ≤ k) (o3.mono fun k _ hk => by omega) (fun k _ hk => hk.1) (fun k hk => .inr fun hk2 => by have := (o3.foot hk).1; omega)
    refine ⟨o2'.rd.inb i0 (by omega), w1, .nil, fun h4 e4 _ => ?_⟩
    subst e4
    rw [set_mid _ _ _ _ (by simp; omega)] at w2
    rw [H.succ i0 hi]
    exact ⟨n - 1, by omega, by omega, by omega, by rw [toNat_succ i0]; exact w2, (f2.no_trans f3).fresh w3 fun k hk => by
      obtain ⟨ss, _, h5, _⟩ := o2'.out
      exact (h5.foot hk).1.1⟩
  · have hi := H.ge e
    have e4 : i = xss.length := by omega
    subst e4
    exact HK t h2 (by simpa using o2) f2

theorem k_toGraph {S : Nat → Prop} {h : Heap} {s : Sl} {xss : List (List Int)} (H : RdR S h s xss) (hn : xss.length ≤ 1000000000000) (hm : totR xss ≤ 1000000000000) (K : Value → Heap → Prop) (HK : ∀ t h', OwX h' (fun k => h.size ≤ k) t xss → Fr No h h' → K (.agg #[t.v]) h') : callM Try.prog 18 #[.agg #[s.v]] h K := by
  refine v18 s h K fun b1 b2 b3 h1 hb1 hb2 hb3 f1 hL1 => ?_
  have f1 := f1.in_nil
  refine k_toIntSS (H.no f1) hn hm _ fun t h2 o2 f2 => ⟨t, rfl, hL1.of_no f2, fun h3 f3 hL3 => ?_⟩
  have l3 : b3 < h1.size := hL1.head.lt
  have l2 : b2 < h1.size := hL1.tail.head.lt
  have s1 := f1.size
  refine HK t h3 ((o2.fr f3 fun k _ hk => In.off (n := h1.size) (by simp; omega) hk).mono fun k _ hk => by omega) ((f1.no_trans f2).fresh f3 (in_ge (by simp; omega)))

theorem k_toWalk {S : Nat → Prop} {h : Heap} {s : Sl} {xs : List Int} (H : RdI S h s xs) (p : Int) (hn : xs.length ≤ 1000000000000) (K : Value → Heap → Prop) (HK : ∀ t h', OwI h' (fun k => h.size ≤ k) t xs → Fr No h h' → K (.agg #[t.v, VI p]) h') : callM Try.prog 19 #[.agg #[s.v, VI p]] h K := by
  refine v19 s p h K fun b1 b2 b3 h1 hb1 hb2 hb3 f1 hL1 => ?_
  have f1 := f1.in_nil
  refine k_toIntS (H.no f1) hn _ fun t h2 o2 f2 => ⟨t, rfl, hL1.of_no f2, fun h3 f3 hL3 => ?_⟩
  have l3 : b3 < h1.size := hL1.head.lt
  have l2 : b2 < h1.size := hL1.tail.head.lt
  have s1 := f1.size
  refine HK t h3 ((Ow.fr o2 f3 fun k hk => In.off (n := h1.size) (by simp; omega) (o2.foot hk).1).mono fun k _ hk => by omega) ((f1.no_trans f2).fresh f3 (in_ge (by simp; omega)))

theorem frOwn {h h' : Heap} {F : Nat → Prop} {e : TypeId} {sz : Nat} {s : Sl} {vs : List Value} {b : Heap} (H : Ow h F e sz s vs) (f : Fr s.own h h') : Fr F h h' := f.mono fun _ _ hk => (H.foot hk).1

theorem g_szIntS {S : Nat → Prop} {h : Heap} {s : Sl} {xs : List Int} (H : RdI S h s xs) (left : Int) (h0 : 0 ≤ left) (h1 : left ≤ 1048576) (K : Value → Heap → Prop) (HK : ∀ (h' : Heap) (r : Int), Fr No h h' → r = -1 ∨ (0 ≤ r ∧ r = left - xs.length) → K (VI r) h') : callM Try.prog 65 #[s.v, VI left] h K := k_szIntS H left h0 h1 K fun r hr => HK h r (Fr.refl _ _) hr

theorem g_szGraph {S : Nat → Prop} {h : Heap} {s : Sl} {xss : List (List Int)} (H : RdR S h s xss) (left : Int) (h0 : 0 ≤ left) (h1 : left ≤ 1048576) (K : Value → Heap → Prop) (HK : ∀ (h' : Heap) (r : Int), Fr No h h' → r = -1 ∨ (0 ≤ r ∧ r = left - xss.length - totR xss) → K (VI r) h') : callM Try.prog 15 #[.agg #[s.v], VI left] h K := k_szGraph H left h0 h1 K HK

theorem g_szWalk {S : Nat → Prop} {h : Heap} {s : Sl} {xs : List Int} (H : RdI S h s xs) (p left : Int) (h0 : 0 ≤ left) (h1 : left ≤ 1048576) (K : Value → Heap → Prop) (HK : ∀ (h' : Heap) (r : Int), Fr No h h' → r = -1 ∨ (0 ≤ r ∧ r = left - xs.length) → K (VI r) h') : callM Try.prog 16 #[.agg #[s.v, VI p], VI left] h K := k_szWalk H p left h0 h1 K HK

theorem g_toIntS {S : Nat → Prop} {h : Heap} {s : Sl} {xs : List Int} (H : RdI S h s xs) (hn : xs.length ≤ 1048576) (K : Value → Heap → Prop) (HK : ∀ t h', OwI h' (Iv h.size h'.size) t xs → Fr No h h' → K t.v h') : callM Try.prog 42 #[s.v] h K := k_toIntS H (by omega) K fun t h' o f => HK t h' o.toIv f

theorem g_toGraph {S : Nat → Prop} {h : Heap} {s : Sl} {xss : List (List Int)} (H : RdR S h s xss) (hn : xss.length + totR xss ≤ 1048576) (K : Value → Heap → Prop) (HK : ∀ t h', OwX h' (Iv h.size h'.size) t xss → Fr No h h' → K (.agg #[t.v]) h') : callM Try.prog 18 #[.agg #[s.v]] h K := k_toGraph H (by omega) (by omega) K fun t h' o f => HK t h' o.toIv f

theorem g_toWalk {S : Nat → Prop} {h : Heap} {s : Sl} {xs : List Int} (H : RdI S h s xs) (p : Int) (hn : xs.length ≤ 1048576) (K : Value → Heap → Prop) (HK : ∀ t h', OwI h' (Iv h.size h'.size) t xs → Fr No h h' → K (.agg #[t.v, VI p]) h') : callM Try.prog 19 #[.agg #[s.v, VI p]] h K := k_toWalk H p (by omega) K fun t h' o f => HK t h' o.toIv f

theorem g_eqIntS {S S' : Nat → Prop} {h : Heap} {a b : Sl} {xs : List Int} (H : RdI S h a xs) (H' : RdI S' h b xs) : Ret Try.prog 45 #[a.v, b.v] h (VB true) := fun K HK => k_eqIntS H H' K (by rw [decide_eq_true rfl]; exact HK h (Fr.refl _ _))

theorem g_eqIntSS {S S' : Nat → Prop} {h : Heap} {a b : Sl} {xs : List (List Int)} (H : RdR S h a xs) (H' : RdR S' h b xs) : Ret Try.prog 21 #[a.v, b.v] h (VB true) := fun K HK => k_eqIntSS H H' K (by rw [decide_eq_true rfl]; exact HK h (Fr.refl _ _))

theorem g_eqGraph {S S' : Nat → Prop} {h : Heap} {a b : Sl} {xs : List (List Int)} (H : RdR S h a xs) (H' : RdR S' h b xs) : Ret Try.prog 22 #[.agg #[a.v], .agg #[b.v]] h (VB true) := by have := k_eqGraph H H'; rwa [decide_eq_true rfl] at this

theorem g_eqWalk {S S' : Nat → Prop} {h : Heap} {a b : Sl} {xs : List Int} {p : Int} (H : RdI S h a xs) (H' : RdI S' h b xs) : Ret Try.prog 23 #[.agg #[a.v, VI p], .agg #[b.v, VI p]] h (VB true) := by have := k_eqWalk H H' p p; rwa [decide_eq_true ⟨rfl, rfl⟩] at this

theorem nil_of_none {S : Nat → Prop} {h : Heap} {s : Sl} {xs : List Int} (H : RdI S h s xs) (hn : s.a = none) : xs = [] := by
  cases xs with
  | nil => rfl
  | cons x xs =>
    obtain ⟨a, ha, _⟩ := RdV.cell H 0 (by simp)
    rw [hn] at ha
    cases ha

theorem k_Clone {S : Nat → Prop} {h : Heap} {s : Sl} {xs : List Int} (H : RdI S h s xs) (hn : xs.length ≤ 1000000000) (K : Value → Heap → Prop) (HK : ∀ t h', OwI h' (Iv h.size h'.size) t xs → Fr No h h' → K t.v h') : callM Try.prog 111 #[s.v] h K := by
  refine v111 s h K (pop_isnil rIs _ _ ⟨_, rfl, fun e => ?_, fun e => ?_⟩)
  · have : xs = [] := nil_of_none H (by simpa using e)
    subst this
    exact HK nilSl h (Ow.nil _ _ _ _) (Fr.refl _ _)
  · refine eop_lit rIs (fun k => h.size ≤ k) (fun _ h => h) 0 (by omega) [] rfl rfl fun t h1 n1 c1 o1 f1 l1 _ => ⟨t, rfl, .nil, ?_⟩
    refine eop_append rIs o1 (fun k hk => Nat.le_trans f1.size hk) (H.no f1) (plainVI _) (by have := H.len; omega) fun t' h2 n2 o2 f2 l2 => ⟨t', rfl, .nil, ?_⟩
    exact HK t' h2 (Ow.toIv (by simpa using o2)) (f1.fresh f2 l1)

theorem k_l1Own {S : Nat → Prop} {h : Heap} {s : Sl} {xs : List Int} (H : RdI S h s xs) (hn : xs.length ≤ 1000000000) (K : Value → Heap → Prop) (HK : ∀ t h', OwI h' (Iv h.size h'.size) t xs → Fr No h h' → K t.v h') : callM Try.prog 116 #[s.v] h K := by
  refine v116 s h K ?_
  refine eop_lit rIs (fun k => h.size ≤ k) (fun _ h => h) 0 (by omega) [] rfl rfl fun t h1 n1 c1 o1 f1 l1 _ => ⟨t, rfl, .nil, ?_⟩
  refine eop_append rIs o1 (fun k hk => Nat.le_trans f1.size hk) (H.no f1) (plainVI _) (by have := H.len; omega) fun t' h2 n2 o2 f2 l2 => ⟨t', rfl, .nil, ?_⟩
  exact HK t' h2 (Ow.toIv (by simpa using o2)) (f1.fresh f2 l1)

/-- Every list of these is short. -/
def shortR (n : Nat) (xss : List (List Int)) : Prop := xss.length ≤ n ∧ ∀ l, l ∈ xss → l.length ≤ n
theorem tot_short {n : Nat} : ∀ {xss : List (List Int)} {m : Nat}, xss.length ≤ m → (∀ l, l ∈ xss → l.length ≤ n) → totR xss ≤ m * n
  | [], m, _, _ => by simp [totR]
  | x :: xs, 0, h, _ => by simp at h
  | x :: xs, m + 1, h, h2 => by
    have h3 := tot_short (n := n) (xss := xs) (m := m) (by simpa using h) fun l hl => h2 l (List.mem_cons_of_mem _ hl)
    have h4 := h2 x (by simp)
    have h5 : totR (x :: xs) = x.length + totR xs := by simp [totR]
    rw [h5, Nat.add_mul]
    omega
theorem short_of_tot {xss : List (List Int)} : ∀ l, l ∈ xss → l.length ≤ totR xss := by
  induction xss with
  | nil => intro l h; simp at h
  | cons x xs ih =>
    intro l hl
    have h5 : totR (x :: xs) = x.length + totR xs := by simp [totR]
    rcases List.mem_cons.1 hl with rfl | hl
    · omega
    · have := ih l hl; omega

def toldP (xss : List (List Int)) : List (List Int) := if graphB xss then xss else []
def addP (g : List (List Int)) (p q : Int) : List (List Int) × Bool :=
  if graphB g && inR 0 ((g.length : Int) - 1) p && inR 0 ((g.length : Int) - 1) q then (toldP (g.set p.toNat (g.getD p.toNat [] ++ [q])), graphB (g.set p.toNat (g.getD p.toNat [] ++ [q]))) else ([], false)
theorem inR_iff {lo hi x : Int} : inR lo hi x = true ↔ lo ≤ x ∧ x ≤ hi := by simp [inR]
theorem graph_len {g : List (List Int)} (h : graphB g = true) : 1 ≤ g.length ∧ g.length ≤ 8 := by
  unfold graphB at h
  rw [Bool.and_eq_true, inR_iff] at h
  omega
theorem graph_mem {g : List (List Int)} (h : graphB g = true) {l : List Int} (hl : l ∈ g) : l.length ≤ 5 ∧ ∀ x, x ∈ l → 0 ≤ x ∧ x < (g.length : Int) := by
  unfold graphB at h
  rw [Bool.and_eq_true] at h
  have := List.all_eq_true.1 h.2 l hl
  rw [Bool.and_eq_true] at this
  obtain ⟨h1, h2⟩ := this
  simp only [Bool.not_eq_true', decide_eq_false_iff_not] at h1
  refine ⟨by omega, fun x hx => ?_⟩
  have := List.all_eq_true.1 h2 x hx
  rw [inR_iff] at this
  omega
theorem graph_tot {g : List (List Int)} (h : graphB g = true) : totR g ≤ 40 := by
  have := tot_short (n := 5) (xss := g) (m := 8) (graph_len h).2 fun l hl => (graph_mem h hl).1
  omega
theorem toldP_tot (g : List (List Int)) : (toldP g).length + totR (toldP g) ≤ 48 := by
  unfold toldP
  split
  · rename_i h
    have := graph_tot h
    have := graph_len h
    omega
  · simp [totR]
theorem addP_tot (g : List (List Int)) (p q : Int) : (addP g p q).1.length + totR (addP g p q).1 ≤ 48 := by
  unfold addP
  split
  · exact toldP_tot _
  · simp [totR]
theorem getD_get {g : List (List Int)} {i : Nat} (h : i < g.length) : g.getD i [] = g[i] := by simp [List.getD, List.getElem?_eq_getElem h]

theorem totR_flat (xss : List (List Int)) : xss.flatten.length = totR xss := by simp [totR, List.length_flatten]

def rotL (l : List Int) (k : Nat) : List Int := l.drop (k % l.length) ++ l.take (k % l.length)
def turnP (g : List (List Int)) (p k : Int) : List (List Int) × Bool :=
  if graphB g && inR 0 ((g.length : Int) - 1) p && inR 0 1000 k then (g.set p.toNat (rotL (g.getD p.toNat []) k.toNat), true) else ([], false)
theorem rotL_length (l : List Int) (k : Nat) : (rotL l k).length = l.length := by
  unfold rotL
  simp
  rcases Nat.eq_zero_or_pos l.length with h | h
  · simp [h]
  · have := Nat.mod_lt k h
    omega
theorem rot_get (l : List Int) (j i : Nat) (h : i < l.length) (hj : j < l.length) : (l.drop j ++ l.take j)[i]? = l[(i + j) % l.length]? := by
  by_cases h1 : i < (l.drop j).length
  · rw [List.getElem?_append_left h1]
    simp only [List.length_drop] at h1
    rw [Nat.mod_eq_of_lt (by omega), List.getElem?_drop]
    congr 1
    omega
  · rw [List.getElem?_append_right (by omega)]
    simp only [List.length_drop] at h1 ⊢
    rw [Nat.mod_eq_sub_mod (by omega), Nat.mod_eq_of_lt (by omega), List.getElem?_take, if_pos (by omega)]
    congr 1
    omega
theorem rotL_get (l : List Int) (k i : Nat) (h : i < l.length) : (rotL l k)[i]'(by rw [rotL_length]; exact h) = l[(i + k) % l.length]'(Nat.mod_lt _ (by omega)) := by
  have hm := Nat.mod_lt k (show 0 < l.length by omega)
  have := rot_get l (k % l.length) i h hm
  rw [Nat.add_mod_mod, List.getElem?_eq_getElem (by simp; omega), List.getElem?_eq_getElem (Nat.mod_lt _ (by omega))] at this
  exact Option.some.inj this
theorem totR_set (xss : List (List Int)) (i : Nat) (ys : List Int) : totR (xss.set i ys) ≤ totR xss + ys.length := by
  induction xss generalizing i with
  | nil => simp [totR]
  | cons x xs ih =>
    cases i with
    | zero => simp [totR]; omega
    | succ i =>
      have := ih i
      simp only [totR, List.set_cons_succ, List.map_cons, List.sum_cons] at *
      omega
theorem turnP_tot (g : List (List Int)) (p k : Int) : (turnP g p k).1.length + totR (turnP g p k).1 ≤ 100 := by
  unfold turnP
  split
  · rename_i h
    rw [Bool.and_eq_true, Bool.and_eq_true, inR_iff, inR_iff] at h
    obtain ⟨⟨h1, h2, h3⟩, _⟩ := h
    have a := graph_tot h1
    have b := graph_len h1
    have c := totR_set g p.toNat (rotL (g.getD p.toNat []) k.toNat)
    rw [rotL_length, getD_get (by omega)] at c
    have d := (graph_mem h1 (List.getElem_mem (show p.toNat < g.length by omega))).1
    simp only [List.length_set]
    rw [getD_get (by omega)]
    omega
  · simp [totR]
theorem tmod_nat {k n : Int} (h0 : 0 ≤ k) (hn : 0 ≤ n) : Int.tmod k n = ((k.toNat % n.toNat : Nat) : Int) := by
  obtain ⟨a, rfl⟩ := Int.eq_ofNat_of_zero_le h0
  obtain ⟨b, rfl⟩ := Int.eq_ofNat_of_zero_le hn
  rfl

/-- A walk's state: its rotors and its place. -/
abbrev St := List Int × Int
def stepP (g : List (List Int)) (w : St) : Option St :=
  if (g.getD w.2.toNat []).length = 0 then none
  else some (w.1.set w.2.toNat ((((w.1.getD w.2.toNat 0).toNat + 1) % (g.getD w.2.toNat []).length : Nat) : Int), (g.getD w.2.toNat []).getD (((w.1.getD w.2.toNat 0).toNat + 1) % (g.getD w.2.toNat []).length) 0)
structure WOK (g : List (List Int)) (w : St) : Prop where
  graph : graphB g = true
  len : w.1.length = g.length
  lo : 0 ≤ w.2
  hi : w.2 < (g.length : Int)
  rot : ∀ i (h : i < w.1.length) (h' : i < g.length), 0 ≤ w.1[i] ∧ w.1[i] ≤ max ((g[i].length : Int) - 1) 0
theorem wok_of {g : List (List Int)} {rs : List Int} {p : Int} (h : walkB g rs p = true) : WOK g (rs, p) := by
  unfold walkB at h
  simp only [Bool.and_eq_true, decide_eq_true_eq] at h
  obtain ⟨⟨⟨h1, h2⟩, h3⟩, h4⟩ := h
  rw [inR_iff] at h2
  refine ⟨h1, h3, h2.1, by simp only; omega, fun i a b => ?_⟩
  have := List.all_eq_true.1 h4 (g[i], rs[i]) (by
    rw [show (g[i], rs[i]) = (g.zip rs)[i]'(by simp only [List.length_zip]; simp only at a; omega) by simp]
    exact List.getElem_mem _)
  unfold rotB at this
  rw [inR_iff] at this
  exact this
theorem stepP_none {g : List (List Int)} {w : St} (W : WOK g w) (hp : w.2.toNat < g.length) : (g[w.2.toNat]).length = 0 → stepP g w = none := fun h => by
  unfold stepP
  rw [getD_get hp, if_pos h]
theorem getD_getI {xs : List Int} {i : Nat} (h : i < xs.length) : xs.getD i 0 = xs[i] := by simp [List.getD, List.getElem?_eq_getElem h]
theorem stepP_some {g : List (List Int)} {w : St} (W : WOK g w) (hp : w.2.toNat < g.length) (hr : w.2.toNat < w.1.length) (h : (g[w.2.toNat]).length ≠ 0) :
    stepP g w = some (w.1.set w.2.toNat ((((w.1[w.2.toNat]).toNat + 1) % (g[w.2.toNat]).length : Nat) : Int), (g[w.2.toNat])[((w.1[w.2.toNat]).toNat + 1) % (g[w.2.toNat]).length]'(Nat.mod_lt _ (by omega))) := by
  unfold stepP
  rw [getD_get hp, if_neg h, getD_getI hr, getD_getI (Nat.mod_lt _ (by omega))]
theorem WOK.step {g : List (List Int)} {w w' : St} (W : WOK g w) (h : stepP g w = some w') : WOK g w' := by
  have hp : w.2.toNat < g.length := by have := W.hi; have := W.lo; omega
  have hr : w.2.toNat < w.1.length := by rw [W.len]; exact hp
  by_cases h0 : (g[w.2.toNat]).length = 0
  · rw [stepP_none W hp h0] at h; cases h
  · rw [stepP_some W hp hr h0] at h
    have hm := Nat.mod_lt ((w.1[w.2.toNat]).toNat + 1) (show 0 < (g[w.2.toNat]).length by omega)
    simp only [Option.some.injEq] at h
    subst h
    have hmem := (graph_mem W.graph (List.getElem_mem hp)).2 _ (List.getElem_mem hm)
    refine ⟨W.graph, by simpa using W.len, hmem.1, hmem.2, fun i a b => ?_⟩
    simp only [List.length_set] at a
    simp only [List.getElem_set]
    split
    · rename_i e
      subst e
      omega
    · exact W.rot i a b

theorem k_copiedW {S : Nat → Prop} {h : Heap} {s : Sl} {xs : List Int} (H : RdI S h s xs) (p : Int) (hn : xs.length ≤ 1000000000) (K : Value → Heap → Prop) (HK : ∀ t h', OwI h' (Iv h.size h'.size) t xs → Fr No h h' → K (.agg #[t.v, VI p]) h') : callM Try.prog 70 #[.agg #[s.v, VI p]] h K := by
  refine v70 s p h K fun b1 b2 h2 hb1 hb2 f2 hL2 => ?_
  have f2 := f2.in_nil
  have l2 : b2 < h2.size := hL2.head.lt
  have s2 := f2.size
  refine k_Clone (H.no f2) hn _ fun t h3 o3 f3 => ⟨t, rfl, hL2.of_no f3, fun h4 f4 hL4 => ?_⟩
  have f4 := f4.inIv (lo := h.size) (hi := h2.size) ⟨⟨hb2, l2⟩, trivial⟩
  exact HK t h4 ((Ow.iv o3 f4 (.inr (Nat.le_refl _))).mono fun k hk hF => ⟨Nat.le_trans s2 hF.1, Nat.lt_of_lt_of_le hF.2 f4.size⟩) ((f2.no_trans f3).ivFresh f4 (Nat.le_refl _))

theorem k_stepF {F S : Nat → Prop} {b : Nat} {h : Heap} {g w : Sl} {xss : List (List Int)} {s : St} (G : RdR S h g xss) (V : IsVar h b [w.v, VI s.2]) (H : OwI h F w s.1) (hS : ∀ k, S k → ¬ F k) (hFb : F b) (hbw : ¬ w.own b) (W : WOK xss s) (K : Value → Heap → Prop)
    (HN : stepP xss s = none → ∀ h', Fr No h h' → K (VB false) h') (HS : ∀ s', stepP xss s = some s' → ∀ h', OwI h' F w s'.1 → IsVar h' b [w.v, VI s'.2] → Fr F h h' → K (VB true) h') :
    callM Try.prog 112 #[.agg #[g.v], VP b 0] h K := by
  have hp : s.2.toNat < xss.length := by have := W.hi; have := W.lo; omega
  have hr : s.2.toNat < s.1.length := by rw [W.len]; exact hp
  have hlo := W.lo
  refine v112 g b w s.2 h K (.cons V (by simp) .nil) ⟨G.inb W.lo W.hi, fun b2 h1 hb2 f1 hL1 => ?_⟩
  have f1 := f1.in_nil
  obtain ⟨si, c1, c2⟩ := (G.no f1).get W.lo W.hi
  have H1 := Ow.no H f1
  have hn1 : w.n = s.1.length := RdI.len H.rdF
  refine ⟨si, c1, fun e => ?_, fun e => ?_⟩
  · simp only [decide_eq_true_eq] at e
    exact HN (stepP_none W hp (by have := c2.len; omega)) h1 f1
  · simp only [decide_eq_false_iff_not] at e
    have h0 : (xss[s.2.toNat]'hp).length ≠ 0 := by have := c2.len; omega
    have hst := stepP_some W hp hr h0
    have hm := Nat.mod_lt ((s.1[s.2.toNat]'hr).toNat + 1) (show 0 < (xss[s.2.toNat]'hp).length by omega)
    have hrot := W.rot _ hr hp
    have hbig := (graph_mem W.graph (List.getElem_mem hp)).1
    have hw : w64 (s.1[s.2.toNat]'hr + 1) = s.1[s.2.toNat]'hr + 1 := w64_eq _ (by omega) (by omega)
    have hm2 : Int.tmod (s.1[s.2.toNat]'hr + 1) (si.n : Int) = ((((s.1[s.2.toNat]'hr).toNat + 1) % (xss[s.2.toNat]'hp).length : Nat) : Int) := by
      rw [tmod_nat (by omega) (by omega), c2.len]
      congr 2
      omega
    have R1 : RdI F h1 w s.1 := H1.rdF
    refine ⟨R1.inb hlo (by omega), _, R1.get hlo (by omega), by omega, R1.inb hlo (by omega), ?_⟩
    rw [hw, hm2]
    obtain ⟨w1, w2, w3⟩ := H1.store1 hlo (by omega) (VI ((((s.1[s.2.toNat]'hr).toNat + 1) % (xss[s.2.toNat]'hp).length : Nat) : Int))
    have w3' : Fr F h1 _ := w3.mono fun k _ hk => (H1.foot hk).1
    have hbl := V.lt
    have hL2 := hL1.fr w3 fun p hp => by
      simp only [List.mem_cons, List.not_mem_nil, or_false] at hp
      rcases hp with rfl | rfl
      · exact fun hk => by have := (H.foot hk).2; simp only at this; omega
      · exact hbw
    refine ⟨w1, hL2, fun h2 e2 _ => ?_⟩
    subst e2
    rw [← List.map_set] at w2
    have R2 : RdI F _ w _ := w2.rdF
    have c2' := RdI.fr c2 w3' hS
    have hv : hcell (hset h1 (w.at s.2 1) (VI ((((s.1[s.2.toNat]'hr).toNat + 1) % (xss[s.2.toNat]'hp).length : Nat) : Int))) (w.at s.2 1) = some (VI ((((s.1[s.2.toNat]'hr).toNat + 1) % (xss[s.2.toNat]'hp).length : Nat) : Int)) := by
      have := R2.get (i := s.2) hlo (by simp; omega)
      simpa using this
    have hq := c2'.get (i := ((((s.1[s.2.toNat]'hr).toNat + 1) % (xss[s.2.toNat]'hp).length : Nat) : Int)) (by omega) (by omega)
    simp only [Int.toNat_natCast] at hq
    refine ⟨R2.inb hlo (by simp; omega), _, hv, c2'.inb (by omega) (by omega), _, hq, fun h3 f3 hL3 => ?_⟩
    have f3' : Fr F _ h3 := f3.mono fun k _ hk => by simp only [In, List.mem_cons, List.not_mem_nil, or_false] at hk; subst hk; exact hFb
    refine HS _ hst h3 ?_ ?_ ((f1.of_no.trans w3').trans f3')
    · exact Ow.fr w2 f3 fun k hk hk2 => by
        simp only [In, List.mem_cons, List.not_mem_nil, or_false] at hk2
        subst hk2
        exact hbw hk
    · exact hL3.tail.head

theorem k_step {a c b : Nat} {h : Heap} {g w : Sl} {xss : List (List Int)} {s : St} (G : RdR (Iv 0 a) h g xss) (V : IsVar h b [w.v, VI s.2]) (H : OwI h (Iv a c) w s.1) (hb0 : a ≤ b) (hb1 : b < c) (hbw : ¬ w.own b) (W : WOK xss s) (K : Value → Heap → Prop)
    (HN : stepP xss s = none → ∀ h', Fr No h h' → K (VB false) h') (HS : ∀ s', stepP xss s = some s' → ∀ h', OwI h' (Iv a c) w s'.1 → IsVar h' b [w.v, VI s'.2] → Fr (Iv a c) h h' → K (VB true) h') :
    callM Try.prog 112 #[.agg #[g.v], VP b 0] h K :=
  k_stepF G V H (fun k hk hk2 => by have := hk.2; have := hk2.1; omega) ⟨hb0, hb1⟩ hbw W K HN HS

theorem k_waStep {S S' : Nat → Prop} {h : Heap} {g w : Sl} {xss : List (List Int)} {s : St} (G : RdR S h g xss) (H : RdI S' h w s.1) (W : WOK xss s) (K : Value → Heap → Prop)
    (HN : stepP xss s = none → ∀ h', Fr No h h' → K (.tuple #[.agg #[w.v, VI s.2], VB false]) h') (HS : ∀ s', stepP xss s = some s' → ∀ t h', OwI h' (Iv h.size h'.size) t s'.1 → Fr No h h' → K (.tuple #[.agg #[t.v, VI s'.2], VB true]) h') :
    callM Try.prog 76 #[.agg #[g.v], .agg #[w.v, VI s.2]] h K := by
  have hp : s.2.toNat < xss.length := by have := W.hi; have := W.lo; omega
  have hr : s.2.toNat < s.1.length := by rw [W.len]; exact hp
  have hlo := W.lo
  refine v76 g w s.2 h K ⟨G.inb W.lo W.hi, fun b1 b2 b3 h3 hb1 hb2 hb3 f3 hL3 => ?_⟩
  have f3 := f3.in_nil
  have l3 : b3 < h3.size := hL3.head.lt
  have l2 : b2 < h3.size := hL3.tail.head.lt
  have l1 : b1 < h3.size := hL3.tail.tail.head.lt
  have s3 := f3.size
  have G3 := G.low.no f3
  obtain ⟨si, c1, c2⟩ := G3.get W.lo W.hi
  refine ⟨si, c1, fun e h4 f4 hL4 => ?_, fun e => ?_⟩
  · simp only [decide_eq_true_eq] at e
    have f4 := f4.inIv (lo := h.size) (hi := h3.size) ⟨⟨hb3, l3⟩, trivial⟩
    exact HN (stepP_none W hp (by have := c2.len; omega)) h4 (f3.ivFresh f4 (Nat.le_refl _))
  · simp only [decide_eq_false_iff_not] at e
    have h0 : (xss[s.2.toNat]'hp).length ≠ 0 := by have := c2.len; omega
    have hst := stepP_some W hp hr h0
    have hm := Nat.mod_lt ((s.1[s.2.toNat]'hr).toNat + 1) (show 0 < (xss[s.2.toNat]'hp).length by omega)
    have hrot := W.rot _ hr hp
    have hbig := (graph_mem W.graph (List.getElem_mem hp)).1
    have hglen := graph_len W.graph
    have hw : w64 (s.1[s.2.toNat]'hr + 1) = s.1[s.2.toNat]'hr + 1 := w64_eq _ (by omega) (by omega)
    have hm2 : Int.tmod (s.1[s.2.toNat]'hr + 1) (si.n : Int) = ((((s.1[s.2.toNat]'hr).toNat + 1) % (xss[s.2.toNat]'hp).length : Nat) : Int) := by
      rw [tmod_nat (by omega) (by omega), c2.len]
      congr 2
      omega
    refine k_l1Own (H.no f3) (by have := W.len; omega) _ fun t h5 o5 f5 => ⟨t, rfl, hL3.of_no f5, (H.inb hlo (by omega)), fun b4 h7 hb4 f7 hL7 => ?_⟩
    have f7 := f7.in_nil
    have s5 := f5.size
    have s7 := f7.size
    have l4 : b4 < h7.size := hL7.head.lt
    have f07 := (f3.no_trans f5).no_trans f7
    have H7 := H.no f07
    have o7 := Ow.no o5 f7
    have hn7 : t.n = s.1.length := RdI.len o7.rdF
    refine ⟨_, H7.get hlo (by omega), by omega, o7.inb hlo (by omega), ?_⟩
    rw [hw, hm2]
    obtain ⟨w1, w2, w3⟩ := o7.store1 hlo (by omega) (VI ((((s.1[s.2.toNat]'hr).toNat + 1) % (xss[s.2.toNat]'hp).length : Nat) : Int))
    have w3' : Fr (Iv h3.size h5.size) h7 _ := w3.mono fun k _ hk => (o7.foot hk).1
    have hL8 := hL7.iv w3' ⟨.inr hb4, .inl l3, .inl l2, .inl l1, trivial⟩
    refine ⟨w1, hL8, fun h8 e8 _ => ?_⟩
    subst e8
    rw [← List.map_set] at w2
    have c2' := ((c2.no f5).no f7).fr w3' fun k hk hk2 => by have := hk2.1; omega
    have hq := c2'.get (i := ((((s.1[s.2.toNat]'hr).toNat + 1) % (xss[s.2.toNat]'hp).length : Nat) : Int)) (by omega) (by omega)
    simp only [Int.toNat_natCast] at hq
    refine ⟨c2'.inb (by omega) (by omega), _, hq, fun h10 f10 hL10 => ?_⟩
    have s8 := w3'.size
    have e1 : Fr No h h10 := by
      refine (f07.ivFresh w3' (by omega)).fresh f10 fun k hk => ?_
      simp only [In, List.mem_cons, List.not_mem_nil, or_false] at hk
      rcases hk with rfl | rfl <;> omega
    refine HS _ hst t h10 ?_ e1
    have s10 := f10.size
    refine (Ow.fr w2 f10 fun k hk hk2 => ?_).mono fun k _ hk => ⟨by have := hk.1; omega, by have := hk.2; omega⟩
    have := (o7.foot hk).1
    have h1 := this.1
    have h2 := this.2
    simp only [In, List.mem_cons, List.not_mem_nil, or_false] at hk2
    rcases hk2 with rfl | rfl <;> omega

def firstGo {τ : Type} (g : List (List Int)) (test : τ → St → Bool × τ) (frm : Int) : Nat → Int → τ → St → Int × Bool
  | 0, _, _, _ => (0, false)
  | f + 1, n, t, s =>
    if frm ≤ n then
      if (test t s).1 then (n, true)
      else match stepP g s with
        | none => (0, false)
        | some s' => firstGo g test frm f (n + 1) (test t s).2 s'
    else match stepP g s with
      | none => (0, false)
      | some s' => firstGo g test frm f (n + 1) t s'

theorem k_firstTime {τ : Type} (test : τ → St → Bool × τ) (C : τ → Heap → Prop) {S S' T : Nat → Prop} {h : Heap} {g w : Sl} {xss : List (List Int)} {s : St} (G : RdR S h g xss) (H : RdI S' h w s.1) (W : WOK xss s) (frm : Int) (so : Value) (t0 : τ) (hC0 : C t0 h)
    (hT : ∀ k, T k → k < h.size) (hST : ∀ k, S k → ¬ T k) (hC : ∀ t h1 h2, C t h1 → Fr (fun k => h.size ≤ k) h1 h2 → C t h2)
    (hso : ∀ t x (s' : St) h1 (K : Value → Heap → Prop), h.size ≤ h1.size → C t h1 → RdI (fun k => h.size ≤ k) h1 x s'.1 → WOK xss s' → (∀ h2, C (test t s').2 h2 → Fr T h1 h2 → K (VB (test t s').1) h2) → callV Try.prog so [.agg #[x.v, VI s'.2]] h1 K)
    (K : Value → Heap → Prop) (HK : ∀ h', Fr T h h' → K (.tuple #[VI (firstGo xss test frm 2001 0 t0 s).1, VB (firstGo xss test frm 2001 0 t0 s).2]) h') :
    callM Try.prog 78 #[.agg #[g.v], .agg #[w.v, VI s.2], VI frm, so] h K := by
  refine v78 g w s.2 frm so h K fun b1 b2 h2 hb1 hb2 f2 hL2 => ?_
  generalize hR : firstGo xss test frm 2001 0 t0 s = R at HK
  have f2 := f2.in_nil
  have l2 : b2 < h2.size := hL2.head.lt
  have l1 : b1 < h2.size := hL2.tail.head.lt
  have z2 := f2.size
  have hglen := graph_len W.graph
  refine k_copiedW (H.no f2) s.2 (by have := W.len; omega) _ fun u h3 o3 f3 => ⟨u, s.2, rfl, hL2.of_no f3, fun b3 h5 hb3 f5 hL5 => ?_⟩
  have f5 := f5.in_nil
  have l3 : b3 < h5.size := hL5.head.lt
  have s3 := f3.size
  have s5 := f5.size
  have f05 := (f2.no_trans f3).no_trans f5
  have hub : ¬ u.own b3 := fun hk => by have := (o3.foot hk).2; omega
  have o5 := Ow.no o3 f5
  have hfr : ∀ {h1 h2' : Heap}, Fr No h1 h2' → Fr (fun k => h.size ≤ k) h1 h2' := fun f => f.of_no
  refine ⟨fun n i x p h' => ∃ (t : τ) (s' : St), x = u ∧ p = s'.2 ∧ 0 ≤ i ∧ i + n = 2001 ∧ C t h' ∧ OwI h' (Iv h2.size h5.size) u s'.1 ∧ WOK xss s' ∧ Fr T h h' ∧ h5.size ≤ h'.size ∧ R = firstGo xss test frm n i t s', ⟨2001, t0, s, rfl, rfl, by omega, by omega, hC _ _ _ hC0 (hfr f05), o5.mono fun k _ hk => ⟨hk.1, Nat.lt_of_lt_of_le hk.2 s5⟩, W, f05.of_no, Nat.le_refl _, hR.symm⟩, ?_⟩
  rintro n i x p h6 ⟨t, s', rfl, rfl, i0, i1, c6, o6, W6, f6, z6, eq⟩ hL6
  -- a step, from wherever
  have stp : ∀ (t' : τ) (h7 : Heap) (m : Nat), n = m + 1 → C t' h7 → OwI h7 (Iv h2.size h5.size) x s'.1 → Vars h7 [(b3, [x.v, VI s'.2]), (b2, [w.v, VI s.2]), (b1, [g.v])] → Fr T h h7 → h5.size ≤ h7.size →
      (R = match stepP xss s' with
        | none => (0, false)
        | some s2 => firstGo xss test frm m (i + 1) t' s2) →
      ∀ K2 : Value → Heap → Prop, (∀ h', Fr T h h' → Vars h' [(b3, [x.v, VI s'.2]), (b2, [w.v, VI s.2]), (b1, [g.v])] → R = (0, false) → K2 (VB false) h') → (∀ s2 h', C t' h' → OwI h' (Iv h2.size h5.size) x s2.1 → WOK xss s2 → Vars h' [(b3, [x.v, VI s2.2]), (b2, [w.v, VI s.2]), (b1, [g.v])] → Fr T h h' → h5.size ≤ h'.size → R = firstGo xss test frm m (i + 1) t' s2 → K2 (VB true) h') →
      callM Try.prog 112 #[.agg #[g.v], VP b3 0] h7 K2 := by
    intro t' h7 m hn c7 o7 hL7 f7 z7 e7 K2 k1 k2
    have G7 : RdR (Iv 0 h2.size) h7 g xss := (G.lowS.fr f7 fun k hk hk2 => hST k hk.1 hk2).mono fun k hk => ⟨Nat.zero_le _, by have := hk.2; omega⟩
    refine k_step G7 hL7.head o7 (by omega) l3 hub W6 K2 (fun hs h8 f8 => ?_) fun s2 hs h8 o8 v8 f8 => ?_
    · rw [hs] at e7
      exact k1 h8 (f7.trans f8.of_no) (hL7.of_no f8) e7
    · rw [hs] at e7
      refine k2 s2 h8 (hC _ _ _ c7 (f8.mono fun k _ hk => Nat.le_trans z2 hk.1)) o8 (W6.step hs) (.cons v8 ?_ (hL7.tail.iv f8 ⟨.inl l2, .inl l1, trivial⟩)) (f7.fresh2 f8 fun k hk => Nat.le_trans z2 hk.1) (Nat.le_trans z7 f8.size) e7
      intro p hp
      simp only [List.mem_cons, List.not_mem_nil, or_false] at hp
      rcases hp with rfl | rfl <;> (simp only; omega)
  refine ⟨fun e => ⟨fun e2 => ?_, fun e2 => ?_⟩, fun e => ?_⟩
  · simp only [decide_eq_true_eq] at e e2
    obtain ⟨m, rfl⟩ : ∃ m, n = m + 1 := ⟨n - 1, by omega⟩
    rw [firstGo, if_pos e2] at eq
    refine hso t x s' h6 _ (by omega) c6 (o6.rdI.mono fun k hk => Nat.le_trans z2 hk.1) W6 fun h7 c7 f7 => ?_
    have hL7 := hL6.fr f7 fun p hp => by
      simp only [List.mem_cons, List.not_mem_nil, or_false] at hp
      rcases hp with rfl | rfl | rfl <;> exact fun hk => by have := hT _ hk; simp only at this; omega
    refine ⟨_, rfl, hL7, fun e3 => ?_, fun e3 => ?_⟩
    · rw [if_pos e3] at eq
      rw [eq] at HK
      exact HK h7 (f6.trans f7)
    · rw [if_neg (by simp [e3])] at eq
      refine stp _ h7 m rfl c7 (Ow.fr o6 f7 fun k hk hk2 => by have := hT _ hk2; have := (o6.foot hk).1.1; omega) hL7 (f6.trans f7) (Nat.le_trans z6 f7.size) eq _ (fun h8 f8 hL8 e8 => ?_) fun s2 h8 c8 o8 W8 hL8 f8 z8 e8 => ?_
      · refine ⟨x, s'.2, _, rfl, hL8, fun _ => ?_, fun e => by simp at e⟩
        rw [e8] at HK
        exact HK h8 f8
      · refine ⟨x, s2.2, _, rfl, hL8, fun e => by simp at e, fun _ => ?_⟩
        rw [w64_eq (i + 1) (by omega) (by omega)]
        exact ⟨m, by omega, _, s2, rfl, rfl, by omega, by omega, c8, o8, W8, f8, z8, e8⟩
  · simp only [decide_eq_true_eq] at e
    simp only [decide_eq_false_iff_not] at e2
    obtain ⟨m, rfl⟩ : ∃ m, n = m + 1 := ⟨n - 1, by omega⟩
    rw [firstGo, if_neg e2] at eq
    refine stp _ h6 m rfl c6 o6 hL6 f6 z6 eq _ (fun h8 f8 hL8 e8 => ?_) fun s2 h8 c8 o8 W8 hL8 f8 z8 e8 => ?_
    · refine ⟨x, s'.2, _, rfl, hL8, fun _ => ?_, fun e => by simp at e⟩
      rw [e8] at HK
      exact HK h8 f8
    · refine ⟨x, s2.2, _, rfl, hL8, fun e => by simp at e, fun _ => ?_⟩
      rw [w64_eq (i + 1) (by omega) (by omega)]
      exact ⟨m, by omega, _, s2, rfl, rfl, by omega, by omega, c8, o8, W8, f8, z8, e8⟩
  · simp only [decide_eq_false_iff_not] at e
    obtain rfl : n = 0 := by omega
    rw [eq] at HK
    exact HK h6 f6

def hitP (g : List (List Int)) (rs : List Int) (p q : Int) : Int × Bool :=
  if walkB g rs p && (graphB g && inR 0 ((g.length : Int) - 1) q) then firstGo g (fun (_ : Unit) s => (decide (s.2 = q), ())) 0 2001 0 () (rs, p) else (0, false)
theorem rdI_not {S : Nat → Prop} {h : Heap} {s : Sl} {xs : List Int} (H : RdI S h s xs) {b : Nat} (hb : h.size ≤ b) : RdI (fun k => k ≠ b) h s xs := H.low.mono fun k hk => by omega

def metT (met : List Bool) (s : St) : Bool × List Bool := (!((met.set s.2.toNat true).any (false == ·)), met.set s.2.toNat true)
def coverP (g : List (List Int)) (rs : List Int) (p : Int) : Int × Bool :=
  if walkB g rs p then firstGo g metT 0 2001 0 (List.replicate g.length false) (rs, p) else (0, false)

def sameT (rs : List Int) (p : Int) (_ : Unit) (s : St) : Bool × Unit := (decide (p = s.2 ∧ rs = s.1), ())
def recP (g : List (List Int)) (rs : List Int) (p : Int) : Bool × Bool :=
  if walkB g rs p then ((firstGo g (sameT rs p) 1 2001 0 () (rs, p)).2, true) else (false, false)
theorem first_pos (g : List (List Int)) (test : Unit → St → Bool × Unit) : ∀ (f : Nat) (n : Int) (s : St), 0 ≤ n → (firstGo g test 1 f n () s).2 = decide (0 < (firstGo g test 1 f n () s).1)
  | 0, n, s, _ => by simp [firstGo]
  | f + 1, n, s, h => by
    rw [firstGo]
    split
    · split
      · have : 0 < n := by omega
        simp [this]
      · split
        · simp
        · exact first_pos g test f (n + 1) _ (by omega)
    · split
      · simp
      · exact first_pos g test f (n + 1) _ (by omega)

def runT {τ : Type} (g : List (List Int)) (upd : τ → St → St → τ) : Nat → τ → St → Option (τ × St)
  | 0, t, s => some (t, s)
  | n + 1, t, s => match stepP g s with
    | none => none
    | some s' => runT g upd n (upd t s s') s'

theorem runT_snoc {τ : Type} {g : List (List Int)} {upd : τ → St → St → τ} {s'' : St} : ∀ (n : Nat) (t : τ) (s : St) (t' : τ) (s' : St), runT g upd n t s = some (t', s') → stepP g s' = some s'' → runT g upd (n + 1) t s = some (upd t' s' s'', s'')
  | 0, t, s, t', s', h, hs => by
    simp only [runT, Option.some.injEq, Prod.mk.injEq] at h
    obtain ⟨rfl, rfl⟩ := h
    rw [runT, hs]
    rfl
  | n + 1, t, s, t', s', h, hs => by
    rw [runT] at h
    rw [runT]
    split at h
    · cases h
    · rename_i s2 h2
      exact runT_snoc n _ _ _ _ h hs

def runOfP (g : List (List Int)) (rs : List Int) (p n : Int) : St × Bool :=
  if walkB g rs p && inR 0 2000 n then match runT g (fun (_ : Unit) _ _ => ()) n.toNat () (rs, p) with
    | none => (([], 0), false)
    | some (_, s) => (s, true)
  else (([], 0), false)
theorem run_len {τ : Type} {g : List (List Int)} {upd : τ → St → St → τ} : ∀ (n : Nat) (t : τ) (s : St), WOK g s → ∀ t' s', runT g upd n t s = some (t', s') → WOK g s'
  | 0, t, s, W, t', s', h => by
    simp only [runT, Option.some.injEq, Prod.mk.injEq] at h
    rw [← h.2]; exact W
  | n + 1, t, s, W, t', s', h => by
    rw [runT] at h
    split at h
    · cases h
    · rename_i s2 hs
      exact run_len n _ s2 (W.step hs) t' s' h
theorem runOfP_len (g : List (List Int)) (rs : List Int) (p n : Int) : (runOfP g rs p n).1.1.length ≤ 8 := by
  unfold runOfP
  split
  · rename_i h
    rw [Bool.and_eq_true] at h
    have W := wok_of h.1
    split
    · simp
    · rename_i s hs
      have W2 := run_len _ _ _ W _ _ hs
      have := graph_len W2.graph
      have := W2.len
      simp only
      omega
  · simp

/-- A run: its end, what was passed, visits, uses. -/
structure Rn where
  s : St
  ps : List Int
  vs : List Int
  us : List (List Int)
def bump (l : List Int) (i : Nat) : List Int := l.set i (l.getD i 0 + 1)
def goP (g : List (List Int)) : Nat → Rn → Option Rn
  | 0, r => some r
  | n + 1, r => match stepP g r.s with
    | none => none
    | some s' => goP g n ⟨s', r.ps ++ [s'.2], bump r.vs s'.2.toNat, r.us.set r.s.2.toNat (bump (r.us.getD r.s.2.toNat []) (s'.1.getD r.s.2.toNat 0).toNat)⟩
def zerosR (g : List (List Int)) : List (List Int) := g.map fun l => List.replicate l.length 0
def go0 (g : List (List Int)) (s : St) : Rn := ⟨s, [s.2], List.replicate g.length 0, zerosR g⟩
/-- What holds of a run on its way. -/
structure RnOK (g : List (List Int)) (m : Nat) (r : Rn) : Prop where
  w : WOK g r.s
  ps : r.ps.length = m + 1
  vs : r.vs.length = g.length
  us : r.us.length = g.length
  row : ∀ i (h : i < r.us.length) (h' : i < g.length), r.us[i].length = g[i].length
  vb : ∀ x, x ∈ r.vs → 0 ≤ x ∧ x ≤ m
  ub : ∀ l, l ∈ r.us → ∀ x, x ∈ l → 0 ≤ x ∧ x ≤ m
theorem bump_length (l : List Int) (i : Nat) : (bump l i).length = l.length := by simp [bump]
theorem bump_mem {l : List Int} {i m : Nat} (h : ∀ x, x ∈ l → 0 ≤ x ∧ x ≤ (m : Int)) : ∀ x, x ∈ bump l i → 0 ≤ x ∧ x ≤ ((m + 1 : Nat) : Int) := by
  intro x hx
  unfold bump at hx
  rcases List.mem_or_eq_of_mem_set hx with hx | rfl
  · have := h x hx; omega
  · by_cases hi : i < l.length
    · rw [getD_getI hi]
      have := h _ (List.getElem_mem hi)
      omega
    · rw [show l.getD i 0 = 0 by simp [List.getD, List.getElem?_eq_none (by omega : l.length ≤ i)]]
      omega
theorem RnOK.step {g : List (List Int)} {m : Nat} {r : Rn} (R : RnOK g m r) {s' : St} (hs : stepP g r.s = some s') : RnOK g (m + 1) ⟨s', r.ps ++ [s'.2], bump r.vs s'.2.toNat, r.us.set r.s.2.toNat (bump (r.us.getD r.s.2.toNat []) (s'.1.getD r.s.2.toNat 0).toNat)⟩ := by
  have hp : r.s.2.toNat < r.us.length := by rw [R.us]; have := R.w.hi; have := R.w.lo; omega
  refine ⟨R.w.step hs, by simp [R.ps], by simp [bump_length, R.vs], by simp [R.us], fun i a b => ?_, bump_mem R.vb, fun l hl => ?_⟩
  · simp only [List.length_set] at a
    simp only [List.getElem_set]
    split
    · rename_i e
      subst e
      rw [bump_length, getD_get hp]
      exact R.row _ a b
    · exact R.row i a b
  · rcases List.mem_or_eq_of_mem_set hl with hl | rfl
    · exact fun x hx => by have := R.ub l hl x hx; omega
    · rw [getD_get hp]
      exact bump_mem (R.ub _ (List.getElem_mem hp))
theorem go0_ok {g : List (List Int)} {s : St} (W : WOK g s) : RnOK g 0 (go0 g s) := by
  refine ⟨W, rfl, by simp [go0], by simp [go0, zerosR], fun i a b => by simp [go0, zerosR], fun x hx => ?_, fun l hl x hx => ?_⟩
  · simp only [go0, List.mem_replicate] at hx
    omega
  · simp only [go0, zerosR, List.mem_map] at hl
    obtain ⟨l', _, rfl⟩ := hl
    simp only [List.mem_replicate] at hx
    omega

def nextR (r : Rn) (s' : St) : Rn := ⟨s', r.ps ++ [s'.2], bump r.vs s'.2.toNat, r.us.set r.s.2.toNat (bump (r.us.getD r.s.2.toNat []) (s'.1.getD r.s.2.toNat 0).toNat)⟩
/-- A run that keeps one thing is the run that keeps all of them, seen from there. -/
theorem go_run {τ : Type} (g : List (List Int)) (f : Rn → τ) (upd : τ → St → St → τ) (hf : ∀ r s', f (nextR r s') = upd (f r) r.s s') : ∀ (n : Nat) (r : Rn), runT g upd n (f r) r.s = (goP g n r).map fun r => (f r, r.s)
  | 0, r => by simp [runT, goP]
  | n + 1, r => by
    rw [runT, goP]
    cases stepP g r.s with
    | none => rfl
    | some s' =>
      show runT g upd n (upd (f r) r.s s') s' = (goP g n (nextR r s')).map _
      rw [← go_run g f upd hf n (nextR r s'), hf]
      rfl

def passU (t : List Int) (_ s' : St) : List Int := t ++ [s'.2]
def passP (g : List (List Int)) (rs : List Int) (p n : Int) : List Int × Bool :=
  if walkB g rs p && inR 0 200 n then match runT g passU n.toNat [p] (rs, p) with
    | none => ([], false)
    | some (t, _) => (t, true)
  else ([], false)
def visU (t : List Int) (_ s' : St) : List Int := bump t s'.2.toNat
def visP (g : List (List Int)) (rs : List Int) (p n : Int) : List Int × Bool :=
  if walkB g rs p && inR 0 2000 n then match runT g visU n.toNat (List.replicate g.length 0) (rs, p) with
    | none => ([], false)
    | some (t, _) => (t, true)
  else ([], false)
def useU (t : List (List Int)) (s s' : St) : List (List Int) := t.set s.2.toNat (bump (t.getD s.2.toNat []) (s'.1.getD s.2.toNat 0).toNat)
def useP (g : List (List Int)) (rs : List Int) (p n : Int) : List (List Int) × Bool :=
  if walkB g rs p && inR 0 2000 n then match runT g useU n.toNat (zerosR g) (rs, p) with
    | none => ([], false)
    | some (t, _) => (t, true)
  else ([], false)

theorem passP_len (g : List (List Int)) (rs : List Int) (p n : Int) : (passP g rs p n).1.length ≤ 201 := by
  unfold passP
  split
  · rename_i h
    rw [Bool.and_eq_true, inR_iff] at h
    have key : ∀ (m : Nat) (t : List Int) (s : St) (t' : List Int) (s' : St), runT g passU m t s = some (t', s') → t'.length = t.length + m := by
      intro m
      induction m with
      | zero =>
        intro t s t' s' h
        simp only [runT, Option.some.injEq, Prod.mk.injEq] at h
        rw [h.1]
        rfl
      | succ m ih =>
        intro t s t' s' h
        rw [runT] at h
        split at h
        · cases h
        · have := ih _ _ _ _ h
          simp [passU] at this
          omega
    split
    · simp
    · rename_i t s hs
      have := key _ _ _ _ _ hs
      simp at this
      simp only
      omega
  · simp

theorem k_l1Has {S : Nat → Prop} {h : Heap} {s : Sl} {xs : List Int} (H : RdI S h s xs) (v : Int) (K : Value → Heap → Prop) (HK : K (VB (decide (v ∈ xs))) h) : callM Try.prog 115 #[s.v, VI v] h K := by
  refine v115 s v h K ⟨fun n i h' => h' = h ∧ 0 ≤ i ∧ i + n = (xs.length : Int) ∧ decide (v ∈ xs) = decide (v ∈ xs.drop i.toNat), ⟨xs.length, rfl, by omega, by omega, by simp⟩, ?_⟩
  rintro n i _ ⟨rfl, i0, i1, i2⟩ hL
  refine ⟨fun e => ?_, fun e => ?_⟩
  · have hi := H.lt e
    rw [drop_cons xs i0 hi] at i2
    refine ⟨H.inb i0 hi, _, H.get i0 hi, fun e => ?_, fun e => ?_⟩
    · simp only [decide_eq_true_eq] at e
      rw [i2, decide_eq_true (by rw [e]; exact List.mem_cons_self)] at HK
      exact HK
    · simp only [decide_eq_false_iff_not] at e
      rw [H.succ i0 hi]
      refine ⟨n - 1, by omega, rfl, by omega, by omega, ?_⟩
      rw [i2, decide_eq_decide, List.mem_cons]
      exact ⟨fun h => h.resolve_left fun h => e h.symm, .inr⟩
  · have hi := H.ge e
    rw [List.drop_of_length_le (by omega)] at i2
    rw [i2] at HK
    simpa using HK

theorem k_IndexI {S : Nat → Prop} {h : Heap} {s : Sl} {xs : List Int} (H : RdI S h s xs) (v : Int) (K : Value → Heap → Prop) (HN : v ∉ xs → K (VI (-1)) h) (HS : ∀ i : Nat, i < xs.length → xs.getD i 0 = v → (∀ j, j < i → xs.getD j 0 ≠ v) → K (VI i) h) : callM Try.prog 124 #[s.v, VI v] h K := by
  refine v124 s v h K ⟨fun n i h' => h' = h ∧ 0 ≤ i ∧ i + n = (xs.length : Int) ∧ ∀ j : Nat, (j : Int) < i → xs.getD j 0 ≠ v, ⟨xs.length, rfl, by omega, by omega, fun j hj => by omega⟩, ?_⟩
  rintro n i _ ⟨rfl, i0, i1, i2⟩ hL
  refine ⟨fun e => ?_, fun e => ?_⟩
  · have hi := H.lt e
    refine ⟨H.inb i0 hi, _, H.get i0 hi, fun e => ?_, fun e => ?_⟩
    · simp only [decide_eq_true_eq] at e
      have := HS i.toNat (by omega) (by rw [getD_getI (by omega)]; exact e.symm) fun j hj => i2 j (by omega)
      rwa [show ((i.toNat : Nat) : Int) = i by omega] at this
    · simp only [decide_eq_false_iff_not] at e
      rw [H.succ i0 hi]
      refine ⟨n - 1, by omega, rfl, by omega, by omega, fun j hj => ?_⟩
      by_cases hj2 : (j : Int) < i
      · exact i2 j hj2
      · have : j = i.toNat := by omega
        subst this
        rw [getD_getI (by omega)]
        exact fun h => e h.symm
  · have hi := H.ge e
    refine HN fun hm => ?_
    obtain ⟨j, hj, e2⟩ := List.getElem_of_mem hm
    exact i2 j (by omega) (by rw [getD_getI hj]; exact e2)

theorem k_ContainsI {S : Nat → Prop} {h : Heap} {s : Sl} {xs : List Int} (H : RdI S h s xs) (v : Int) (K : Value → Heap → Prop) (HK : K (VB (decide (v ∈ xs))) h) : callM Try.prog 118 #[s.v, VI v] h K := by
  refine v118 s v h K (k_IndexI H v _ (fun hn => ⟨_, rfl, .nil, ?_⟩) fun i hi e _ => ⟨_, rfl, .nil, ?_⟩)
  · rw [decide_eq_false hn] at HK
    exact HK
  · rw [decide_eq_true (by rw [← e, getD_getI hi]; exact List.getElem_mem _)] at HK
    rw [decide_eq_true (by omega)]
    exact HK

theorem php : ∀ (N : Nat) (f : Nat → Nat), (∀ i, i ≤ N → f i < N) → ∃ i j, i < j ∧ j ≤ N ∧ f i = f j
  | 0, f, h => by have := h 0 (Nat.le_refl _); omega
  | N + 1, f, h => by
    by_cases hx : ∃ i, i ≤ N ∧ f i = f (N + 1)
    · obtain ⟨i, h1, h2⟩ := hx
      exact ⟨i, N + 1, by omega, Nat.le_refl _, h2⟩
    · have hx : ∀ i, i ≤ N → f i ≠ f (N + 1) := fun i h1 h2 => hx ⟨i, h1, h2⟩
      obtain ⟨i, j, h1, h2, h3⟩ := php N (fun i => if f i = N then f (N + 1) else f i) fun i hi => by
        have a := h i (by omega)
        have b := h (N + 1) (by omega)
        have c := hx i hi
        (try simp only)
        split <;> omega
      refine ⟨i, j, h1, by omega, ?_⟩
      have a := hx i (by omega)
      have b := hx j h2
      (try simp only at h3)
      split at h3 <;> split at h3 <;> omega
def nx (g : List (List Int)) (rs : List Int) (p : Int) : Int := if p < 0 then -1 else if (g.getD p.toNat []).length = 0 then -1 else (g.getD p.toNat []).getD (rs.getD p.toNat 0).toNat 0
def itx (g : List (List Int)) (rs : List Int) (p : Int) : Nat → Int
  | 0 => p
  | k + 1 => nx g rs (itx g rs p k)
section
variable {g : List (List Int)} {rs : List Int} {a : Int}
theorem nx_some (W : WOK g (rs, a)) {p : Int} (h0 : 0 ≤ p) (h1 : p < (g.length : Int)) (hne : (g[p.toNat]'(by omega)).length ≠ 0) : ∃ (hr : p.toNat < rs.length) (hm : (rs[p.toNat]).toNat < (g[p.toNat]'(by omega)).length), 0 ≤ rs[p.toNat] ∧ nx g rs p = (g[p.toNat]'(by omega))[(rs[p.toNat]).toNat] := by
  have hl : rs.length = g.length := W.len
  have hr : p.toNat < rs.length := by omega
  have h := W.rot p.toNat hr (by omega)
  have h2 : 0 ≤ rs[p.toNat] := h.1
  have h3 : rs[p.toNat] ≤ max (((g[p.toNat]'(by omega)).length : Int) - 1) 0 := h.2
  refine ⟨hr, by omega, h2, ?_⟩
  unfold nx
  rw [if_neg (by omega), getD_get (by omega), if_neg hne, getD_getI hr, getD_getI (by omega)]
theorem nx_none {p : Int} (h0 : 0 ≤ p) (h1 : p < (g.length : Int)) (hne : (g[p.toNat]'(by omega)).length = 0) : nx g rs p = -1 := by
  unfold nx
  rw [if_neg (by omega), getD_get (by omega), if_pos hne]
theorem nx_neg {p : Int} (h : p < 0) : nx g rs p = -1 := by unfold nx; rw [if_pos h]
theorem nx_lt (W : WOK g (rs, a)) {p : Int} (h1 : p < (g.length : Int)) : -1 ≤ nx g rs p ∧ nx g rs p < (g.length : Int) := by
  by_cases h0 : p < 0
  · rw [nx_neg h0]; omega
  by_cases hne : (g[p.toNat]'(by omega)).length = 0
  · rw [nx_none (by omega) h1 hne]; omega
  · obtain ⟨hr, hm, h2, e⟩ := nx_some W (by omega) h1 hne
    rw [e]
    have := (graph_mem W.graph (List.getElem_mem (show p.toNat < g.length by omega))).2 _ (List.getElem_mem hm)
    omega
theorem itx_lt (W : WOK g (rs, a)) {p : Int} (h0 : 0 ≤ p) (h1 : p < (g.length : Int)) : ∀ k, -1 ≤ itx g rs p k ∧ itx g rs p k < (g.length : Int)
  | 0 => by simp only [itx]; omega
  | k + 1 => by simp only [itx]; exact nx_lt W (itx_lt W h0 h1 k).2
theorem itx_negs {p : Int} {k : Nat} (h : itx g rs p k < 0) : ∀ m, itx g rs p (k + m) < 0
  | 0 => h
  | m + 1 => by
    rw [← Nat.add_assoc, itx, nx_neg (itx_negs h m)]
    omega
theorem itx_neg_mono {p : Int} {k m : Nat} (h : itx g rs p k < 0) (hm : k ≤ m) : itx g rs p m < 0 := by
  have := itx_negs h (m - k)
  rwa [show k + (m - k) = m by omega] at this
theorem itx_shift {p : Int} {i j : Nat} (h : itx g rs p i = itx g rs p j) : ∀ m, itx g rs p (i + m) = itx g rs p (j + m)
  | 0 => h
  | m + 1 => by rw [← Nat.add_assoc, ← Nat.add_assoc, itx, itx, itx_shift h m]
theorem itx_per {p : Int} {i d : Nat} (h : itx g rs p i = itx g rs p (i + d)) (r : Nat) : ∀ c, itx g rs p (i + r + d * c) = itx g rs p (i + r)
  | 0 => rfl
  | c + 1 => by
    have := itx_shift h (r + d * c)
    rw [show i + r + d * (c + 1) = i + d + (r + d * c) by rw [Nat.mul_succ]; omega, ← this, ← Nat.add_assoc]
    exact itx_per h r c
theorem itx_mod {p : Int} {i d : Nat} (h : itx g rs p i = itx g rs p (i + d)) (r : Nat) : itx g rs p (i + r) = itx g rs p (i + r % d) := by
  have := itx_per h (r % d) (r / d)
  rw [Nat.add_assoc, Nat.mod_add_div] at this
  exact this
theorem itx_cyc (W : WOK g (rs, a)) {p : Int} (h0 : 0 ≤ p) (h1 : p < (g.length : Int)) (h : 0 ≤ itx g rs p g.length) : ∃ i d, 1 ≤ d ∧ i + d ≤ g.length ∧ itx g rs p i = itx g rs p (i + d) := by
  have hn : ∀ k, k ≤ g.length → 0 ≤ itx g rs p k := fun k hk => by
    by_cases hx : itx g rs p k < 0
    · have := itx_neg_mono hx hk; omega
    · omega
  obtain ⟨i, j, e1, e2, e3⟩ := php g.length (fun k => (itx g rs p k).toNat) fun k hk => by
    have := hn k hk
    have := (itx_lt W h0 h1 k).2
    (try simp only)
    omega
  refine ⟨i, j - i, by omega, by omega, ?_⟩
  rw [show i + (j - i) = j by omega]
  have := hn i (by omega)
  have := hn j e2
  (try simp only at e3)
  omega
theorem itx_nn (W : WOK g (rs, a)) {p : Int} (h0 : 0 ≤ p) (h1 : p < (g.length : Int)) (h : 0 ≤ itx g rs p g.length) (k : Nat) : 0 ≤ itx g rs p k := by
  have hn : ∀ k, k ≤ g.length → 0 ≤ itx g rs p k := fun k hk => by
    by_cases hx : itx g rs p k < 0
    · have := itx_neg_mono hx hk; omega
    · omega
  obtain ⟨i, d, e1, e2, e3⟩ := itx_cyc W h0 h1 h
  by_cases hk : k ≤ g.length
  · exact hn k hk
  · have := itx_mod e3 (k - i)
    rw [show i + (k - i) = k by omega] at this
    rw [this]
    have := Nat.mod_lt (k - i) (show 0 < d by omega)
    exact hn _ (by omega)
/-- The places of a cycle, from where it is closed. -/
theorem cyc_mem {p : Int} {i d n : Nat} (h : itx g rs p i = itx g rs p (i + d)) (hd : 1 ≤ d) (hi : i ≤ n) (x : Int) : x ∈ (List.range d).map (fun r => itx g rs p (i + r)) ↔ ∃ k, n ≤ k ∧ itx g rs p k = x := by
  simp only [List.mem_map, List.mem_range]
  constructor
  · rintro ⟨r, hr, rfl⟩
    refine ⟨i + r + d * n, ?_, itx_per h r n⟩
    have : 1 * n ≤ d * n := Nat.mul_le_mul_right _ hd
    omega
  · rintro ⟨k, hk, rfl⟩
    refine ⟨(k - i) % d, Nat.mod_lt _ hd, ?_⟩
    rw [← itx_mod h]
    congr 1
    omega
end
noncomputable def uniB (g : List (List Int)) (rs : List Int) (a : Int) : Bool := @decide (∀ p : Nat, p < g.length → 0 ≤ itx g rs p g.length ∧ ∃ k, g.length ≤ k ∧ itx g rs p k = a) (Classical.propDecidable _)
theorem uniB_t {g : List (List Int)} {rs : List Int} {a : Int} (h : ∀ p : Nat, p < g.length → 0 ≤ itx g rs p g.length ∧ ∃ k, g.length ≤ k ∧ itx g rs p k = a) : uniB g rs a = true := by unfold uniB; exact @decide_eq_true _ (Classical.propDecidable _) h
theorem uniB_f {g : List (List Int)} {rs : List Int} {a : Int} (h : ¬ ∀ p : Nat, p < g.length → 0 ≤ itx g rs p g.length ∧ ∃ k, g.length ≤ k ∧ itx g rs p k = a) : uniB g rs a = false := by unfold uniB; exact @decide_eq_false _ (Classical.propDecidable _) h

theorem k_trNext {S S' : Nat → Prop} {h : Heap} {g w : Sl} {xss : List (List Int)} {rs : List Int} {a : Int} (G : RdR S h g xss) (H : RdI S' h w rs) (W : WOK xss (rs, a)) {p : Int} (h0 : 0 ≤ p) (h1 : p < (xss.length : Int)) : Ret Try.prog 139 #[.agg #[g.v], w.v, VI p] h (VI (nx xss rs p)) := by
  intro K HK
  refine v139 g w p h K ⟨G.inb h0 h1, fun b1 h2 hb1 f2 hL2 => ?_⟩
  have f2 := f2.in_nil
  have G2 := G.no f2
  have H2 := H.no f2
  obtain ⟨si, c1, r1⟩ := G2.get h0 h1
  refine ⟨si, c1, fun e => ?_, fun e => ?_⟩
  · simp only [decide_eq_true_eq] at e
    rw [nx_none h0 h1 (by have := r1.len; omega)] at HK
    exact HK h2 f2
  · simp only [decide_eq_false_iff_not] at e
    obtain ⟨hr, hm, e2, e3⟩ := nx_some W h0 h1 (by have := r1.len; omega)
    rw [e3] at HK
    exact ⟨G2.inb h0 h1, si, c1, H2.inb h0 (by omega), _, H2.get h0 (by omega), r1.inb e2 (by omega), _, r1.get e2 (by omega), HK h2 f2⟩

theorem k_next {S S' : Nat → Prop} {h : Heap} {g w : Sl} {xss : List (List Int)} {rs : List Int} {a : Int} (G : RdR S h g xss) (H : RdI S' h w rs) (W : WOK xss (rs, a)) {p : Int} (h0 : 0 ≤ p) (h1 : p < (xss.length : Int)) : Ret Try.prog 140 #[.agg #[g.v], w.v, VI p] h (VI (nx xss rs p)) := by
  intro K HK
  refine v140 g w p h K ⟨G.inb h0 h1, fun b1 h2 hb1 f2 hL2 => ?_⟩
  have f2 := f2.in_nil
  have G2 := G.no f2
  have H2 := H.no f2
  obtain ⟨si, c1, r1⟩ := G2.get h0 h1
  refine ⟨si, c1, fun e => ?_, fun e => ?_⟩
  · simp only [decide_eq_true_eq] at e
    rw [nx_none h0 h1 (by have := r1.len; omega)] at HK
    exact HK h2 f2
  · simp only [decide_eq_false_iff_not] at e
    obtain ⟨hr, hm, e2, e3⟩ := nx_some W h0 h1 (by have := r1.len; omega)
    rw [e3] at HK
    exact ⟨G2.inb h0 h1, si, c1, H2.inb h0 (by omega), _, H2.get h0 (by omega), r1.inb e2 (by omega), _, r1.get e2 (by omega), HK h2 f2⟩

theorem k_trCycle {S S' : Nat → Prop} {h : Heap} {g w : Sl} {xss : List (List Int)} {rs : List Int} {a : Int} (G : RdR S h g xss) (H : RdI S' h w rs) (W : WOK xss (rs, a)) {p : Int} (h0 : 0 ≤ p) (h1 : p < (xss.length : Int)) (K : Value → Heap → Prop)
    (HN : itx xss rs p xss.length < 0 → ∀ h', Fr No h h' → K (.tuple #[nilSl.v, VB false]) h')
    (HS : 0 ≤ itx xss rs p xss.length → ∀ t xs h', (∀ x, x ∈ xs ↔ ∃ k, xss.length ≤ k ∧ itx xss rs p k = x) → RdI (fun _ => True) h' t xs → Fr No h h' → K (.tuple #[t.v, VB true]) h') : callM Try.prog 114 #[.agg #[g.v], w.v, VI p] h K := by
  refine v114 g w p h K fun b1 h2 hb1 f2 hL2 => ?_
  have f2 := f2.in_nil
  have l1 : b1 < h2.size := hL2.head.lt
  have z2 := f2.size
  have hgl := graph_len W.graph
  refine ⟨fun n p' i h' => 0 ≤ i ∧ i + n = (xss.length : Int) ∧ p' = itx xss rs p i.toNat ∧ 0 ≤ p' ∧ Fr No h h' ∧ h2.size ≤ h'.size, ⟨xss.length, by omega, by omega, rfl, h0, f2, Nat.le_refl _⟩, ?_⟩
  rintro n p' i h3 ⟨i0, i1, rfl, p0, f3, z3⟩ hL3
  have G3 := G.no f3
  have H3 := H.no f3
  refine ⟨fun e => ?_, fun e => ?_⟩
  · have hi := G3.lt e
    refine k_trNext G3 H3 W p0 (itx_lt W h0 h1 _).2 _ fun h4 f4 => ⟨_, rfl, hL3.of_no f4, fun e2 => ?_, fun e2 => ?_⟩
    · simp only [decide_eq_true_eq] at e2
      refine HN ?_ h4 (f3.no_trans f4)
      exact itx_neg_mono (k := i.toNat + 1) (by rw [itx]; exact e2) (by omega)
    · simp only [decide_eq_false_iff_not] at e2
      rw [G3.succ i0 hi]
      exact ⟨n - 1, by omega, by omega, by omega, by rw [toNat_succ i0, itx], by omega, f3.no_trans f4, by have := f4.size; omega⟩
  have hi := G3.ge e
  have ei : i.toNat = xss.length := by omega
  rw [ei] at p0
  rw [ei]
  obtain ⟨i9, d, d1, d2, d3⟩ := itx_cyc W h0 h1 p0
  have hd : itx xss rs p xss.length = itx xss rs p (xss.length + d) := by
    have := itx_shift d3 (xss.length - i9)
    rw [show i9 + (xss.length - i9) = xss.length by omega, show i9 + d + (xss.length - i9) = xss.length + d by omega] at this
    exact this
  refine eop_lit rIs (fun k => h3.size ≤ k) (fun _ h => h) 1 (by omega) [VI (itx xss rs p xss.length)] rfl rfl fun t h4 n4 c4 o4 f4 m4 _ => ⟨t, rfl, hL3.of_no f4, ?_⟩
  have z4 := f4.size
  have f04 := f3.no_trans f4
  refine k_trNext (G.no f04) (H.no f04) W p0 (itx_lt W h0 h1 _).2 _ fun h5 f5 => ⟨_, rfl, (hL3.of_no f4).of_no f5, ?_⟩
  have z5 := f5.size
  have f05 := f04.no_trans f5
  refine ⟨fun n x q h' => ∃ m, 1 ≤ m ∧ m ≤ d ∧ n = d - m ∧ q = itx xss rs p (xss.length + m) ∧ OwI h' (fun k => h3.size ≤ k) x ((List.range m).map fun r => itx xss rs p (xss.length + r)) ∧ Fr No h h' ∧ h3.size ≤ h'.size, ⟨d - 1, 1, Nat.le_refl _, d1, rfl, rfl, by show Ow _ _ _ _ _ _; simpa using Ow.no o4 f5, f05, by omega⟩, ?_⟩
  rintro n x q h6 ⟨m, m1, m2, rfl, rfl, o6, f6, z6⟩ hL6
  refine ⟨fun e => ?_, fun e => ?_⟩
  · have e := not_t e
    simp only [decide_eq_false_iff_not] at e
    have hmd : m ≠ d := fun h => e (by rw [h]; exact hd.symm)
    refine eop_lit rIs (fun k => h6.size ≤ k) (fun _ h => h) 1 (by omega) [VI (itx xss rs p (xss.length + m))] rfl rfl fun u h7 n7 c7 o7 f7 m7 _ => ⟨u, rfl, hL6.of_no f7, ?_⟩
    have z7 := f7.size
    have r7 : RdI u.own h7 u [itx xss rs p (xss.length + m)] := o7.rd
    have hxn : x.n = m := by have := RdI.len (Ow.rdF o6 : RdI _ h6 x _); simpa using this
    refine eop_append rIs (Ow.no o6 f7) (fun k hk => by omega) r7 (plainVI _) (by have := r7.len; simp at this; omega) fun y h8 n8 o8 f8 d8 => ⟨y, rfl, (hL6.of_no f7).fr f8 (fun p hp hk => by
      simp only [List.mem_cons, List.not_mem_nil, or_false] at hp
      subst hp
      have := (o6.foot hk).1
      simp only at this
      omega), ?_⟩
    have z8 := f8.size
    have f08 : Fr No h h8 := (f6.no_trans f7).fresh f8 fun k hk => by have := (o6.foot hk).1; omega
    refine k_trNext (G.no f08) (H.no f08) W (itx_nn W h0 h1 p0 _) (itx_lt W h0 h1 _).2 _ fun h9 f9 => ⟨_, rfl, ((hL6.of_no f7).fr f8 (fun p hp hk => by
      simp only [List.mem_cons, List.not_mem_nil, or_false] at hp
      subst hp
      have := (o6.foot hk).1
      simp only at this
      omega)).of_no f9, ?_⟩
    have z9 := f9.size
    rw [← List.map_append] at o8
    refine ⟨d - (m + 1), by omega, m + 1, by omega, by omega, rfl, by rw [← Nat.add_assoc, itx], ?_, f08.no_trans f9, by omega⟩
    rw [List.range_succ, List.map_append, List.map_cons, List.map_nil]
    exact Ow.no o8 f9
  · have e := not_f e
    simp only [decide_eq_true_eq] at e
    exact HS p0 x _ h6 (cyc_mem e.symm m1 (Nat.le_refl _)) ((Ow.rdF o6 : RdI _ h6 x _).mono fun _ _ => trivial) f6

theorem k_cycleFrom {S S' : Nat → Prop} {h : Heap} {g w : Sl} {xss : List (List Int)} {rs : List Int} {a : Int} (G : RdR S h g xss) (H : RdI S' h w rs) (W : WOK xss (rs, a)) {p : Int} (h0 : 0 ≤ p) (h1 : p < (xss.length : Int)) (K : Value → Heap → Prop)
    (HN : itx xss rs p xss.length < 0 → ∀ h', Fr No h h' → K (.tuple #[nilSl.v, VB false]) h')
    (HS : 0 ≤ itx xss rs p xss.length → ∀ t xs h', (∀ x, x ∈ xs ↔ ∃ k, xss.length ≤ k ∧ itx xss rs p k = x) → RdI (fun _ => True) h' t xs → Fr No h h' → K (.tuple #[t.v, VB true]) h') : callM Try.prog 117 #[.agg #[g.v], w.v, VI p] h K := by
  refine v117 g w p h K fun b1 h2 hb1 f2 hL2 => ?_
  have f2 := f2.in_nil
  have l1 : b1 < h2.size := hL2.head.lt
  have z2 := f2.size
  have hgl := graph_len W.graph
  refine eop_lit rIs (fun k => h2.size ≤ k) (fun _ h => h) 0 (by omega) [] rfl rfl fun t0 h3 n3 c3 o3 f3 m3 _ => ⟨t0, rfl, hL2.of_no f3, ?_⟩
  have z3 := f3.size
  refine ⟨fun n p' x h' => ∃ m, m ≤ xss.length ∧ n = xss.length - m ∧ p' = itx xss rs p m ∧ (∀ k, k ≤ m → 0 ≤ itx xss rs p k) ∧ OwI h' (fun k => h2.size ≤ k) x ((List.range m).map fun r => itx xss rs p r) ∧ (∀ i j, i < j → j < m → itx xss rs p i ≠ itx xss rs p j) ∧ Fr No h h' ∧ h2.size ≤ h'.size, ⟨xss.length, 0, by omega, rfl, rfl, fun k hk => by obtain rfl : k = 0 := (by omega); exact h0, by show Ow _ _ _ _ _ _; simpa using o3, fun i j _ h => by omega, f2.no_trans f3, z3⟩, ?_⟩
  rintro n p' x h4 ⟨m, hm, rfl, rfl, hnn, o4, hd, f4, z4⟩ hL4
  have r4 : RdI (fun k => h2.size ≤ k) h4 x _ := o4.rdF
  refine k_ContainsI r4 _ _ ⟨_, rfl, hL4, fun e => ?_, fun e => ?_⟩
  · have e := not_t e
    simp only [decide_eq_false_iff_not, List.mem_map, List.mem_range] at e
    have hd2 : ∀ i j, i < j → j < m + 1 → itx xss rs p i ≠ itx xss rs p j := fun i j a b h => by
      by_cases hj : j < m
      · exact hd i j a hj h
      · obtain rfl : j = m := by omega
        exact e ⟨i, a, h⟩
    have hm2 : m + 1 ≤ xss.length := by
      by_cases hx : m + 1 ≤ xss.length
      · exact hx
      · exfalso
        obtain ⟨i, j, e1, e2, e3⟩ := php xss.length (fun k => (itx xss rs p k).toNat) fun k hk => by
          have := hnn k (by omega)
          have := (itx_lt W h0 h1 k).2
          (try simp only)
          omega
        have a1 := hnn i (by omega)
        have a2 := hnn j (by omega)
        (try simp only at e3)
        exact hd2 i j e1 (by omega) (by omega)
    refine eop_lit rIs (fun k => h4.size ≤ k) (fun _ h => h) 1 (by omega) [VI (itx xss rs p m)] rfl rfl fun u h5 n5 c5 o5 f5 m5 _ => ⟨u, rfl, hL4.of_no f5, ?_⟩
    have z5 := f5.size
    have r5 : RdI u.own h5 u [itx xss rs p m] := o5.rd
    have hxn : x.n = m := by have := r4.len; simpa using this
    refine eop_append rIs (Ow.no o4 f5) (fun k hk => by omega) r5 (plainVI _) (by have := r5.len; simp at this; omega) fun y h6 n6 o6 f6 d6 => ?_
    have hL6 := (hL4.of_no f5).fr f6 (fun p hp hk => by
      simp only [List.mem_cons, List.not_mem_nil, or_false] at hp
      subst hp
      have := (o4.foot hk).1
      simp only at this
      omega)
    have z6 := f6.size
    have f06 : Fr No h h6 := (f4.no_trans f5).fresh f6 fun k hk => by have := (o4.foot hk).1; omega
    refine ⟨y, rfl, hL6, k_next (G.no f06) (H.no f06) W (hnn m (Nat.le_refl _)) (itx_lt W h0 h1 _).2 _ fun h7 f7 => ⟨_, rfl, hL6.of_no f7, fun e2 => ?_, fun e2 => ?_⟩⟩
    · simp only [decide_eq_true_eq] at e2
      exact HN (itx_neg_mono (k := m + 1) (by rw [itx]; exact e2) hm2) h7 (f06.no_trans f7)
    · simp only [decide_eq_false_iff_not] at e2
      have z7 := f7.size
      rw [← List.map_append] at o6
      refine ⟨xss.length - (m + 1), by omega, m + 1, hm2, rfl, by rw [itx], fun k hk => ?_, ?_, hd2, f06.no_trans f7, by omega⟩
      · by_cases hk2 : k ≤ m
        · exact hnn k hk2
        · obtain rfl : k = m + 1 := by omega
          rw [itx]; omega
      · rw [List.range_succ, List.map_append, List.map_cons, List.map_nil]
        exact Ow.no o6 f7
  · have e := not_f e
    simp only [decide_eq_true_eq] at e
    refine k_IndexI r4 _ _ (fun hn => absurd e hn) fun i hi ei hj => ⟨_, rfl, hL4, pop_cut_l rIs .i64 (by omega) (by have := r4.len; omega) ⟨_, rfl, ?_⟩⟩
    have hi2 : i < m := by simpa using hi
    rw [getD_getI hi] at ei
    simp only [List.getElem_map, List.getElem_range] at ei
    have hper : itx xss rs p i = itx xss rs p (i + (m - i)) := by rw [show i + (m - i) = m by omega]; exact ei
    have hall : ∀ k, 0 ≤ itx xss rs p k := fun k => by
      by_cases hk : k ≤ m
      · exact hnn k hk
      · have := itx_mod hper (k - i)
        rw [show i + (k - i) = k by omega] at this
        rw [this]
        have := Nat.mod_lt (k - i) (show 0 < m - i by omega)
        exact hnn _ (by omega)
    have hx : ((((List.range m).map fun r => itx xss rs p r).drop i).take (x.n - i)) = (List.range (m - i)).map fun r => itx xss rs p (i + r) := by
      have hxn : x.n = m := by have := r4.len; simpa using this
      apply List.ext_getElem
      · simp; omega
      · intro j a b
        simp
    have hc := RdI.cut r4 (l := i) (m := x.n) (by have := r4.len; omega) (by have := r4.len; omega)
    rw [hx] at hc
    exact HS (hall _) _ _ h4 (cyc_mem hper (by omega) (by omega)) (hc.mono fun _ _ => trivial) f4

theorem k_isUnicycle {S S' : Nat → Prop} {h : Heap} {g w : Sl} {xss : List (List Int)} {rs : List Int} {a : Int} (G : RdR S h g xss) (H : RdI S' h w rs) (W : WOK xss (rs, a)) : Ret Try.prog 79 #[.agg #[g.v], .agg #[w.v, VI a]] h (VB (uniB xss rs a)) := by
  intro K HK
  refine v79 g w a h K fun b1 b2 h2 hb1 hb2 f2 hL2 => ?_
  have f2 := f2.in_nil
  refine ⟨fun n i h' => 0 ≤ i ∧ i + n = (xss.length : Int) ∧ (∀ p : Nat, (p : Int) < i → 0 ≤ itx xss rs p xss.length ∧ ∃ k, xss.length ≤ k ∧ itx xss rs p k = a) ∧ Fr No h h', ⟨xss.length, by omega, by omega, fun p hp => by omega, f2⟩, ?_⟩
  rintro n i h3 ⟨i0, i1, i2, f3⟩ hL3
  refine ⟨fun e => ?_, fun e => ?_⟩
  · have hi := (G.no f3).lt e
    have ei : ((i.toNat : Nat) : Int) = i := by omega
    refine k_cycleFrom (G.no f3) (H.no f3) W i0 hi _ (fun hn h4 f4 => ⟨nilSl, false, rfl, hL3.of_no f4, fun _ => ?_, fun e => by simp at e⟩) fun hn t xs h4 hx r4 f4 => ⟨t, true, rfl, hL3.of_no f4, fun e => by simp at e, fun _ => k_ContainsI r4 _ _ ⟨_, rfl, hL3.of_no f4, fun e => ?_, fun e => ?_⟩⟩
    · rw [uniB_f fun h => by have := (h i.toNat (by omega)).1; rw [ei] at this; omega] at HK
      exact HK h4 (f3.no_trans f4)
    · have e := not_t e
      simp only [decide_eq_false_iff_not] at e
      rw [uniB_f fun h => by have := (h i.toNat (by omega)).2; rw [ei] at this; exact e ((hx a).2 this)] at HK
      exact HK h4 (f3.no_trans f4)
    · have e := not_f e
      simp only [decide_eq_true_eq] at e
      rw [G.succ i0 hi]
      refine ⟨n - 1, by omega, by omega, by omega, fun p hp => ?_, f3.no_trans f4⟩
      by_cases hp2 : (p : Int) < i
      · exact i2 p hp2
      · have : (p : Int) = i := by omega
        rw [this]
        exact ⟨hn, (hx a).1 e⟩
  · have hi := (G.no f3).ge e
    rw [uniB_t fun p hp => i2 p (by omega)] at HK
    exact HK h3 f3

theorem k_trUni {S S' : Nat → Prop} {h : Heap} {g w : Sl} {xss : List (List Int)} {rs : List Int} {a : Int} (G : RdR S h g xss) (H : RdI S' h w rs) (W : WOK xss (rs, a)) : Ret Try.prog 75 #[.agg #[g.v], .agg #[w.v, VI a]] h (VB (uniB xss rs a)) := by
  intro K HK
  refine v75 g w a h K fun b1 b2 h2 hb1 hb2 f2 hL2 => ?_
  have f2 := f2.in_nil
  have a0 : 0 ≤ a := W.lo
  have a1 : a < (xss.length : Int) := W.hi
  have ea : ((a.toNat : Nat) : Int) = a := by omega
  refine k_trCycle (G.no f2) (H.no f2) W a0 a1 _ (fun hn h4 f4 => ⟨nilSl, false, rfl, hL2.of_no f4, fun _ => ?_, fun e => by simp at e⟩) fun hn t xs h4 hx r4 f4 => ⟨t, true, rfl, hL2.of_no f4, fun e => by simp at e, fun _ => k_l1Has r4 _ _ ⟨_, rfl, hL2.of_no f4, fun e => ?_, fun e => ?_⟩⟩
  · rw [uniB_f fun h => by have := (h a.toNat (by omega)).1; rw [ea] at this; omega] at HK
    exact HK h4 (f2.no_trans f4)
  · have e := not_t e
    simp only [decide_eq_false_iff_not] at e
    rw [uniB_f fun h => by have := (h a.toNat (by omega)).2; rw [ea] at this; exact e ((hx a).2 this)] at HK
    exact HK h4 (f2.no_trans f4)
  refine ⟨fun n i h' => 0 ≤ i ∧ i + n = (xss.length : Int) ∧ (∀ p : Nat, (p : Int) < i → 0 ≤ itx xss rs p xss.length ∧ ∃ k, xss.length ≤ k ∧ itx xss rs p k = a) ∧ Fr No h h', ⟨xss.length, by omega, by omega, fun p hp => by omega, f2.no_trans f4⟩, ?_⟩
  rintro n i h3 ⟨i0, i1, i2, f3⟩ hL3
  refine ⟨fun e => ?_, fun e => ?_⟩
  · have hi := (G.no f3).lt e
    have ei : ((i.toNat : Nat) : Int) = i := by omega
    refine k_trCycle (G.no f3) (H.no f3) W i0 hi _ (fun hn h4 f4 => ⟨nilSl, false, rfl, hL3.of_no f4, fun _ => ?_, fun e => by simp at e⟩) fun hn t xs h4 hx r4 f4 => ⟨t, true, rfl, hL3.of_no f4, fun e => by simp at e, fun _ => k_l1Has r4 _ _ ⟨_, rfl, hL3.of_no f4, fun e => ?_, fun e => ?_⟩⟩
    · rw [uniB_f fun h => by have := (h i.toNat (by omega)).1; rw [ei] at this; omega] at HK
      exact HK h4 (f3.no_trans f4)
    · have e := not_t e
      simp only [decide_eq_false_iff_not] at e
      rw [uniB_f fun h => by have := (h i.toNat (by omega)).2; rw [ei] at this; exact e ((hx a).2 this)] at HK
      exact HK h4 (f3.no_trans f4)
    · have e := not_f e
      simp only [decide_eq_true_eq] at e
      rw [G.succ i0 hi]
      refine ⟨n - 1, by omega, by omega, by omega, fun p hp => ?_, f3.no_trans f4⟩
      by_cases hp2 : (p : Int) < i
      · exact i2 p hp2
      · have : (p : Int) = i := by omega
        rw [this]
        exact ⟨hn, (hx a).1 e⟩
  · have hi := (G.no f3).ge e
    rw [uniB_t fun p hp => i2 p (by omega)] at HK
    exact HK h3 f3

noncomputable def uniT (g : List (List Int)) (_ : Unit) (s : St) : Bool × Unit := (uniB g s.1 s.2, ())
noncomputable def toUniP (g : List (List Int)) (rs : List Int) (p : Int) : Int × Bool := if walkB g rs p then firstGo g (uniT g) 0 2001 0 () (rs, p) else (0, false)

theorem k_ToUnicycle {S S' : Nat → Prop} {h : Heap} {g w : Sl} {xss : List (List Int)} {rs : List Int} (G : RdR S h g xss) (H : RdI S' h w rs) (p : Int) (K : Value → Heap → Prop) (HK : ∀ h', Fr No h h' → K (.tuple #[VI (toUniP xss rs p).1, VB (toUniP xss rs p).2]) h') : callM Try.prog 29 #[.agg #[g.v], .agg #[w.v, VI p]] h K := by
  refine v29 g w p h K fun b1 b2 h3 hb1 hb2 f3 hL3 => ?_
  have f3 := f3.in_nil
  refine k_isWalk (G.no f3) (H.no f3) p _ fun h4 f4 => ⟨_, rfl, hL3.of_no f4, fun e => ?_, fun e => ?_⟩
  · have e2 : toUniP xss rs p = (0, false) := by unfold toUniP; rw [if_neg (by rw [not_t e]; simp)]
    rw [e2] at HK
    exact HK h4 (f3.no_trans f4)
  have e := not_f e
  have hL4 := hL3.of_no f4
  have f04 := f3.no_trans f4
  have e2 : toUniP xss rs p = firstGo xss (uniT xss) 0 2001 0 () (rs, p) := by unfold toUniP; rw [if_pos e]
  rw [e2] at HK
  have G4 := (G.no f04).low
  refine k_firstTime (S := fun k => k < h4.size) (T := No) (s := (rs, p)) (uniT xss) (fun _ h' => RdR (fun k => k < h4.size) h' g xss) G4 (H.no f04) (wok_of e) 0 _ () G4 (fun _ h => h.elim) (fun _ _ h => h) (fun _ h1 h2 c f => c.fr f fun k hk hk2 => by omega) (fun t x s' h1 K z1 c1 r1 W1 HK => ?_) _ fun h7 f7 => ⟨_, _, rfl, hL4.of_no f7, HK h7 (f04.no_trans f7)⟩
  show callM Try.prog 79 #[.agg #[g.v], .agg #[x.v, VI s'.2]] h1 K
  exact k_isUnicycle c1 r1 W1 K fun h2 f2 => HK h2 (c1.no f2) f2

theorem k_spec_ToUnicycle {S S' : Nat → Prop} {h : Heap} {g w : Sl} {xss : List (List Int)} {rs : List Int} (G : RdR S h g xss) (H : RdI S' h w rs) (p : Int) (K : Value → Heap → Prop) (HK : ∀ h', Fr No h h' → K (.tuple #[VI (toUniP xss rs p).1, VB (toUniP xss rs p).2]) h') : callM Try.prog 28 #[.agg #[g.v], .agg #[w.v, VI p]] h K := by
  refine v28 g w p h K fun b1 b2 h2 hb1 hb2 f2 hL2 => ?_
  have f2 := f2.in_nil
  have l2 : b2 < h2.size := hL2.head.lt
  refine k_spec_waGood (G.no f2) (H.no f2) p _ fun h3 f3 => ⟨_, rfl, hL2.of_no f3, fun e => ?_, fun e => ?_⟩
  · have e2 : toUniP xss rs p = (0, false) := by unfold toUniP; rw [if_neg (by rw [not_t e]; simp)]
    rw [e2] at HK
    exact HK h3 (f2.no_trans f3)
  have e := not_f e
  have hL3 := hL2.of_no f3
  have f03 := f2.no_trans f3
  have e2 : toUniP xss rs p = firstGo xss (uniT xss) 0 2001 0 () (rs, p) := by unfold toUniP; rw [if_pos e]
  rw [e2] at HK
  generalize hR : firstGo xss (uniT xss) 0 2001 0 () (rs, p) = R at HK
  have z3 := f03.size
  refine ⟨fun n i x y h' => ∃ s' : St, y = s'.2 ∧ 0 ≤ i ∧ i + n = 2001 ∧ RdI (fun k => k ≠ b2) h' x s'.1 ∧ WOK xss s' ∧ Fr No h h' ∧ h2.size ≤ h'.size ∧ R = firstGo xss (uniT xss) 0 n i () s', ⟨2001, (rs, p), rfl, by omega, by omega, (rdI_not H hb2).no f03, wok_of e, f03, by have := f3.size; omega, hR.symm⟩, ?_⟩
  rintro n i x y h5 ⟨s', rfl, i0, i1, r5, W5, f5, z5, eq⟩ hL5
  refine ⟨fun e3 => ?_, fun e3 => ?_⟩
  · simp only [decide_eq_true_eq] at e3
    obtain ⟨m, rfl⟩ : ∃ m, n = m + 1 := ⟨n - 1, by omega⟩
    rw [firstGo, if_pos i0] at eq
    refine k_trUni (G.no f5) r5 W5 _ fun h6 f6 => ⟨_, rfl, hL5.of_no f6, fun e4 => ?_, fun e4 => ?_⟩
    · simp only [uniT, e4, if_true] at eq
      rw [eq] at HK
      exact HK h6 (f5.no_trans f6)
    simp only [uniT, e4, Bool.false_eq_true, if_false] at eq
    have f06 := f5.no_trans f6
    have hL6 := hL5.of_no f6
    have z6 := f6.size
    refine k_waStep (G.no f06) (r5.no f6) W5 _ (fun hs h7 f7 => ⟨x, s'.2, false, rfl, hL6.of_no f7, fun _ b3 h8 hb3 f8 hL8 => ?_, fun e => by simp at e⟩) fun s2 hs t h7 o7 f7 => ⟨t, s2.2, true, rfl, hL6.of_no f7, fun e => by simp at e, fun _ b3 h9 hb3 f9 hL9 => ?_⟩
    · rw [hs] at eq
      (try simp only at eq)
      rw [eq] at HK
      exact HK h8 ((f06.no_trans f7).no_trans f8.in_nil)
    · rw [hs] at eq
      (try simp only at eq)
      rw [w64_eq (i + 1) (by omega) (by omega)]
      refine ⟨m, by omega, s2, rfl, by omega, by omega, ?_, W5.step hs, (f06.no_trans f7).fresh f9 (fun k hk => ?_), by have := f7.size; have := f9.size; omega, eq⟩
      · refine (RdI.fr (o7.rdI) f9 fun k hk hk2 => ?_).mono fun k hk => ?_
        · simp only [In, List.mem_cons, List.not_mem_nil, or_false] at hk2
          have := hk.1
          omega
        · have := hk.1
          omega
      · simp only [In, List.mem_cons, List.not_mem_nil, or_false] at hk
        omega
  · simp only [decide_eq_false_iff_not] at e3
    obtain rfl : n = 0 := by omega
    rw [eq] at HK
    exact HK h5 f5

theorem k_lawToUnicycle {h : Heap} {S0 : Nat → Prop} {s0 : Sl} {x0 : List (List Int)} (G0 : RdR S0 h s0 x0) {S1 : Nat → Prop} {s1 : Sl} {x1 : List Int} (G1 : RdI S1 h s1 x1) (n2 : Int) : Ret Try.prog 4 #[.agg #[s0.v], .agg #[s1.v, VI n2]] h (VB true) := by
  intro K HK
  replace G0 := RdR.toIv G0
  replace G1 := RdI.toIv G1
  have fz : Fr No h h := Fr.refl _ _
  refine v4 s0 s1 n2 h K ?_
  have hL : Vars h [] := .nil
  intro b_1 b_2 h_2 hb_b_1 hb_b_2 f1 hL
  have lt_b_1 : b_1 < h_2.size := (hL.tail).head.lt
  have lt_b_2 : b_2 < h_2.size := (hL).head.lt
  replace f1 := f1.in_nil
  have z_f1 := f1.size
  replace G0 := RdR.no G0 f1
  replace G1 := RdI.no G1 f1
  replace fz := fz.no_trans f1
  refine g_szGraph G0 _ (by omega) (by omega) _ fun h_3 r2 f2 hr2 => ⟨r2, rfl, hL.of_no f2, ?_⟩
  replace hL := hL.of_no f2
  have z_f2 := f2.size
  replace G0 := RdR.no G0 f2
  replace G1 := RdI.no G1 f2
  replace fz := fz.no_trans f2
  refine ⟨fun e => ?_, fun e => ?_⟩
  · exact HK _ fz
  (try simp only [decide_eq_false_iff_not] at e)
  refine g_szWalk G1 _ _ (by omega) (by omega) _ fun h_4 r3 f3 hr3 => ⟨r3, rfl, hL.of_no f3, ?_⟩
  replace hL := hL.of_no f3
  have z_f3 := f3.size
  replace G0 := RdR.no G0 f3
  replace G1 := RdI.no G1 f3
  replace fz := fz.no_trans f3
  refine ⟨fun e => ?_, fun e => ?_⟩
  · exact HK _ fz
  (try simp only [decide_eq_false_iff_not] at e)
  refine g_toGraph G0 (by omega) _ fun u4_0 h_5 O4_0 f4 => ⟨u4_0, rfl, hL.of_no f4, ?_⟩
  replace hL := hL.of_no f4
  have z_f4 := f4.size
  replace G0 := RdR.no G0 f4
  replace G1 := RdI.no G1 f4
  replace fz := fz.no_trans f4
  refine g_toWalk G1 _ (by omega) _ fun u5_0 h_6 O5_0 f5 => ⟨u5_0, _, rfl, hL.of_no f5, ?_⟩
  replace hL := hL.of_no f5
  have z_f5 := f5.size
  replace G0 := RdR.no G0 f5
  replace G1 := RdI.no G1 f5
  replace O4_0 := OwR.no O4_0 f5
  replace fz := fz.no_trans f5
  refine k_spec_ToUnicycle (OwR.rdI O4_0) (Ow.rdI O5_0) _ _ fun  h_7  f6 => ⟨_, _, rfl, hL.of_no f6, ?_⟩
  replace hL := hL.of_no f6
  have z_f6 := f6.size
  replace G0 := RdR.no G0 f6
  replace G1 := RdI.no G1 f6
  replace O4_0 := OwR.no O4_0 f6
  replace O5_0 := Ow.no O5_0 f6
  replace fz := fz.no_trans f6
  refine g_toGraph G0 (by omega) _ fun u7_0 h_8 O7_0 f7 => ⟨u7_0, rfl, hL.of_no f7, ?_⟩
  replace hL := hL.of_no f7
  have z_f7 := f7.size
  replace G0 := RdR.no G0 f7
  replace G1 := RdI.no G1 f7
  replace O4_0 := OwR.no O4_0 f7
  replace O5_0 := Ow.no O5_0 f7
  replace fz := fz.no_trans f7
  intro b_3 h_10 hb_b_3 f8 hL
  have lt_b_3 : b_3 < h_10.size := (hL).head.lt
  replace f8 := f8.in_nil
  have z_f8 := f8.size
  replace G0 := RdR.no G0 f8
  replace G1 := RdI.no G1 f8
  replace O4_0 := OwR.no O4_0 f8
  replace O5_0 := Ow.no O5_0 f8
  replace O7_0 := OwR.no O7_0 f8
  replace fz := fz.no_trans f8
  refine g_toWalk G1 _ (by omega) _ fun u9_0 h_11 O9_0 f9 => ⟨u9_0, _, rfl, hL.of_no f9, ?_⟩
  replace hL := hL.of_no f9
  have z_f9 := f9.size
  replace G0 := RdR.no G0 f9
  replace G1 := RdI.no G1 f9
  replace O4_0 := OwR.no O4_0 f9
  replace O5_0 := Ow.no O5_0 f9
  replace O7_0 := OwR.no O7_0 f9
  replace fz := fz.no_trans f9
  intro b_4 h_13 hb_b_4 f10 hL
  have lt_b_4 : b_4 < h_13.size := (hL).head.lt
  replace f10 := f10.in_nil
  have z_f10 := f10.size
  replace G0 := RdR.no G0 f10
  replace G1 := RdI.no G1 f10
  replace O4_0 := OwR.no O4_0 f10
  replace O5_0 := Ow.no O5_0 f10
  replace O7_0 := OwR.no O7_0 f10
  replace O9_0 := Ow.no O9_0 f10
  replace fz := fz.no_trans f10
  refine k_ToUnicycle (OwR.rdI O7_0) (Ow.rdI O9_0) _ _ fun  h_14  f11 => ⟨_, _, rfl, hL.of_no f11, ?_⟩
  replace hL := hL.of_no f11
  have z_f11 := f11.size
  replace G0 := RdR.no G0 f11
  replace G1 := RdI.no G1 f11
  replace O4_0 := OwR.no O4_0 f11
  replace O5_0 := Ow.no O5_0 f11
  replace O7_0 := OwR.no O7_0 f11
  replace O9_0 := Ow.no O9_0 f11
  replace fz := fz.no_trans f11
  refine ⟨fun e => ?_, fun e => ?_⟩
  · first | (simp at e; done) | (simp only [decide_eq_true_eq] at e; omega)
  (try simp only [decide_eq_false_iff_not] at e)
  refine ⟨fun e => ?_, fun e => ?_⟩
  · first | (simp at e; done) | (simp only [decide_eq_true_eq] at e; omega)
  (try simp only [decide_eq_false_iff_not] at e)
  refine g_toGraph G0 (by omega) _ fun u12_0 h_15 O12_0 f12 => ⟨u12_0, rfl, hL.of_no f12, ?_⟩
  replace hL := hL.of_no f12
  have z_f12 := f12.size
  replace G0 := RdR.no G0 f12
  replace G1 := RdI.no G1 f12
  replace O4_0 := OwR.no O4_0 f12
  replace O5_0 := Ow.no O5_0 f12
  replace O7_0 := OwR.no O7_0 f12
  replace O9_0 := Ow.no O9_0 f12
  replace fz := fz.no_trans f12
  refine g_eqGraph (OwR.rdI O7_0) (OwR.rdI O12_0) _ fun h_16 f13 => ⟨_, rfl, hL.of_no f13, ?_⟩
  replace hL := hL.of_no f13
  have z_f13 := f13.size
  replace G0 := RdR.no G0 f13
  replace G1 := RdI.no G1 f13
  replace O4_0 := OwR.no O4_0 f13
  replace O5_0 := Ow.no O5_0 f13
  replace O7_0 := OwR.no O7_0 f13
  replace O9_0 := Ow.no O9_0 f13
  replace O12_0 := OwR.no O12_0 f13
  replace fz := fz.no_trans f13
  refine ⟨fun e => ?_, fun e => ?_⟩
  · first | (simp at e; done) | (simp only [decide_eq_true_eq] at e; omega)
  (try simp only [decide_eq_false_iff_not] at e)
  refine g_toWalk G1 _ (by omega) _ fun u14_0 h_17 O14_0 f14 => ⟨u14_0, _, rfl, hL.of_no f14, ?_⟩
  replace hL := hL.of_no f14
  have z_f14 := f14.size
  replace G0 := RdR.no G0 f14
  replace G1 := RdI.no G1 f14
  replace O4_0 := OwR.no O4_0 f14
  replace O5_0 := Ow.no O5_0 f14
  replace O7_0 := OwR.no O7_0 f14
  replace O9_0 := Ow.no O9_0 f14
  replace O12_0 := OwR.no O12_0 f14
  replace fz := fz.no_trans f14
  refine g_eqWalk (Ow.rdI O9_0) (Ow.rdI O14_0) _ fun h_18 f15 => ⟨_, rfl, hL.of_no f15, ?_⟩
  replace hL := hL.of_no f15
  have z_f15 := f15.size
  replace G0 := RdR.no G0 f15
  replace G1 := RdI.no G1 f15
  replace O4_0 := OwR.no O4_0 f15
  replace O5_0 := Ow.no O5_0 f15
  replace O7_0 := OwR.no O7_0 f15
  replace O9_0 := Ow.no O9_0 f15
  replace O12_0 := OwR.no O12_0 f15
  replace O14_0 := Ow.no O14_0 f15
  replace fz := fz.no_trans f15
  refine ⟨fun e => ?_, fun e => ?_⟩
  · first | (simp at e; done) | (simp only [decide_eq_true_eq] at e; omega)
  (try simp only [decide_eq_false_iff_not] at e)
  exact HK _ fz
end Go.Proofs.Ytjinpagnbflmiaa
