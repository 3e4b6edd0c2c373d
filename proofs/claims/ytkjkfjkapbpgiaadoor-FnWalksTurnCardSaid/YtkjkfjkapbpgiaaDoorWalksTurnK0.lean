import Derived.Test.YtkjkfjkapbpgiaaDoorWalksTurnU2
import Derived.Test.YtkjkfjkapbpgiaaDoorM4
import Derived.WideMake
import Derived.MapKept
import Derived.Laws.BytesArg
import Derived.Test.YtkjkfjkapbpgiaaDoorWalksTurnH
set_option linter.unusedVariables false
set_option linter.unusedSimpArgs false
namespace Go.Proofs.YtkjkfjkapbpgiaaDoor
open Go Go.Mx
@[reducible] def tI : TypeId := 3
@[reducible] def tIs : TypeId := 34
@[reducible] def tIss : TypeId := 22
theorem rIs : rowC Tryd.prog tIs = some (tI, 1, 8, [VI 0]) := by kernel_rfl
theorem rIss : rowC Tryd.prog tIss = some (tIs, 1, 24, [nilSl.v]) := by kernel_rfl
@[reducible] def OwI (h : Heap) (F : Nat → Prop) (s : Sl) (xs : List Int) : Prop := Ow h F tI 1 s (xs.map VI)
@[reducible] def OwX (h : Heap) (F : Nat → Prop) (s : Sl) (xss : List (List Int)) : Prop := OwR h F tIs tI s xss
theorem plainVI (xs : List Int) : (xs.map VI).all plainV = true := by simp [List.all_eq_true, plainV]
theorem k_impl_in (n lo hi : Int) (h : Heap) (K : Value → Heap → Prop) (H : K (VB (decide (lo ≤ n) && decide (n ≤ hi))) h) : callM Tryd.prog 55 #[VI n, VI lo, VI hi] h K := by
  refine v55 n lo hi h K ⟨fun e => ?_, fun e => ?_⟩
  · rw [e, Bool.true_and] at H; exact H
  · rw [e, Bool.false_and] at H; exact H
theorem k_spec_l1In (n lo hi : Int) (h : Heap) (K : Value → Heap → Prop) (H : K (VB (decide (lo ≤ n) && decide (n ≤ hi))) h) : callM Tryd.prog 51 #[VI n, VI lo, VI hi] h K := by
  refine v51 n lo hi h K ⟨fun e => ?_, fun e => ?_⟩
  · rw [e, Bool.true_and] at H; exact H
  · rw [e, Bool.false_and] at H; exact H
def inR (lo hi x : Int) : Bool := decide (lo ≤ x) && decide (x ≤ hi)
def graphB (g : List (List Int)) : Bool := inR 1 8 g.length && g.all fun l => !decide (5 < (l.length : Int)) && l.all (inR 0 ((g.length : Int) - 1))
theorem not_t {b : Bool} (h : (!b) = true) : b = false := by simpa using h
theorem not_f {b : Bool} (h : (!b) = false) : b = true := by simpa using h
theorem k_spec_l1All {S : Nat → Prop} {h : Heap} {l : Sl} {xs : List Int} (H : RdI S h l xs) (lo hi_1 : Int) (K : Value → Heap → Prop) (HK : K (VB (xs.all (inR lo hi_1))) h) : callM Tryd.prog 52 #[l.v, VI lo, VI hi_1] h K := by
  refine v52 l lo hi_1 h K ?_
  refine ⟨fun n i h' => h' = h ∧ 0 ≤ i ∧ i + n = (xs.length : Int) ∧ xs.all (inR lo hi_1) = (xs.drop i.toNat).all (inR lo hi_1), ⟨xs.length, rfl, by omega, by omega, by simp⟩, ?_⟩
  rintro n i _ ⟨rfl, h0, h1, h2⟩ hL
  refine ⟨fun e => ?_, fun e => ?_⟩
  · have hi := H.lt e
    refine ⟨H.inb h0 hi, _, H.get h0 hi, ?_⟩
    rw [drop_cons xs h0 hi, List.all_cons] at h2
    refine k_spec_l1In _ _ _ _ _ ⟨_, rfl, hL, fun e2 => ?_, fun e2 => ?_⟩
    · have e3 : inR lo hi_1 (xs[i.toNat]'(by omega)) = false := not_t e2
      rw [h2, e3] at HK
      exact HK
    · have e3 : inR lo hi_1 (xs[i.toNat]'(by omega)) = true := not_f e2
      rw [e3, Bool.true_and] at h2
      rw [H.succ h0 hi]
      exact ⟨n - 1, by omega, rfl, by omega, by omega, h2⟩
  · have hi := H.ge e
    rw [List.drop_of_length_le (by omega)] at h2
    rw [h2] at HK
    exact HK
theorem k_spec_grGood {S : Nat → Prop} {h : Heap} {g : Sl} {xss : List (List Int)} (H : RdR S h g xss) : Ret Tryd.prog 106 #[.agg #[g.v]] h (VB (graphB xss)) := by
  intro K HK
  refine v106 g h K ?_
  intro b1 h1 hb1 hf1 hL1
  have f1 := hf1.in_nil
  have hlen := H.len
  refine k_spec_l1In _ _ _ _ _ ⟨_, rfl, hL1, fun e => ?_, fun e => ?_⟩
  · have e3 : inR 1 8 xss.length = false := by have := not_t e; rw [hlen] at this; exact this
    have : graphB xss = false := by unfold graphB; rw [e3]; rfl
    rw [← this]; exact HK _ f1
  · have e3 : inR 1 8 xss.length = true := by have := not_f e; rw [hlen] at this; exact this
    have hw : w64 ((g.n : Int) - 1) = (xss.length : Int) - 1 := by rw [hlen]; exact w64_eq _ (by omega) (by have := maxLen_lt H.big; omega)
    have hg : graphB xss = xss.all fun l => !decide (5 < (l.length : Int)) && l.all (inR 0 ((xss.length : Int) - 1)) := by unfold graphB; rw [e3]; rfl
    rw [hw]
    refine ⟨fun n i h' => Fr No h1 h' ∧ 0 ≤ i ∧ i + n = (xss.length : Int) ∧ graphB xss = (xss.drop i.toNat).all (fun l => !decide (5 < (l.length : Int)) && l.all (inR 0 ((xss.length : Int) - 1))), ⟨xss.length, Fr.refl _ _, by omega, by omega, by simp [hg]⟩, ?_⟩
    rintro n i h3 ⟨f3, h0, h2, h4⟩ hL
    have H3 := (H.no f1).no f3
    refine ⟨fun e => ?_, fun e => ?_⟩
    · have hi := H.lt e
      obtain ⟨si, hc, Hi⟩ := H3.get h0 hi
      refine ⟨H3.inb h0 hi, si, hc, fun e5 => ?_, fun e5 => ?_⟩
      · rw [drop_cons xss h0 hi, List.all_cons] at h4
        rw [Hi.len] at e5
        rw [e5] at h4
        have h5 : graphB xss = false := by rw [h4]; rfl
        rw [← h5]; exact HK _ (f1.trans f3)
      · rw [drop_cons xss h0 hi, List.all_cons] at h4
        rw [Hi.len] at e5
        rw [e5] at h4
        refine k_spec_l1All Hi _ _ _ ⟨_, rfl, hL, fun e6 => ?_, fun e6 => ?_⟩
        · rw [not_t e6] at h4
          have h5 : graphB xss = false := by rw [h4]; rfl
          rw [← h5]; exact HK _ (f1.trans f3)
        · rw [not_f e6] at h4
          rw [H.succ h0 hi]
          exact ⟨n - 1, by omega, f3, by omega, by omega, by rw [h4]; rfl⟩
    · have hi := H.ge e
      rw [List.drop_of_length_le (by omega)] at h4
      have h5 : graphB xss = true := by rw [h4]; rfl
      rw [← h5]; exact HK _ (f1.trans f3)
theorem k_IndexFunc {S : Nat → Prop} {h : Heap} {s : Sl} {xs : List Int} (H : RdI S h s xs) (f : Value) (p : Int → Bool) (hf : ∀ (x : Int) (K : Value → Heap → Prop), K (VB (p x)) h → callV Tryd.prog f [VI x] h K) (K : Value → Heap → Prop) (HK : ∀ r : Int, decide (0 ≤ r) = xs.any p → K (VI r) h) : callM Tryd.prog 95 #[s.v, f] h K := by
  refine v95 s f h K ⟨fun n i h' => h' = h ∧ 0 ≤ i ∧ i + n = (xs.length : Int) ∧ xs.any p = (xs.drop i.toNat).any p, ⟨xs.length, rfl, by omega, by omega, by simp⟩, ?_⟩
  rintro n i _ ⟨rfl, i0, i1, i2⟩ hL
  refine ⟨fun e => ?_, fun e => ?_⟩
  · have hi := H.lt e
    rw [drop_cons xs i0 hi, List.any_cons] at i2
    refine ⟨H.inb i0 hi, _, H.get i0 hi, hf _ _ ⟨_, rfl, .nil, fun e => ?_, fun e => ?_⟩⟩
    · rw [e, Bool.true_or] at i2
      exact HK _ (by rw [i2]; simpa using i0)
    · rw [e, Bool.false_or] at i2
      rw [H.succ i0 hi]
      exact ⟨n - 1, by omega, rfl, by omega, by omega, i2⟩
  · have hi := H.ge e
    rw [List.drop_of_length_le (by omega)] at i2
    exact HK _ (by rw [i2]; rfl)
theorem k_ContainsFunc {S : Nat → Prop} {h : Heap} {s : Sl} {xs : List Int} (H : RdI S h s xs) (f : Value) (p : Int → Bool) (hf : ∀ (x : Int) (K : Value → Heap → Prop), K (VB (p x)) h → callV Tryd.prog f [VI x] h K) (K : Value → Heap → Prop) (HK : K (VB (xs.any p)) h) : callM Tryd.prog 56 #[s.v, f] h K := by
  refine v56 s f h K (k_IndexFunc H f p hf _ fun r hr => ⟨r, rfl, .nil, ?_⟩)
  rw [hr]; exact HK
theorem k_isGraph1 {h : Heap} {b : Nat} {n : Int} (x : Int) {L : List (Nat × List Value)} (hL : Vars h ((b, [VI n]) :: L)) (K : Value → Heap → Prop) (HK : K (VB (!inR 0 (w64 (n - 1)) x)) h) : callV Tryd.prog (.func (.func 123) #[] #[VP b 0]) [VI x] h K := by
  refine v123 x b n h K (.cons hL.head (by simp) .nil) ?_
  refine k_impl_in _ _ _ _ _ ⟨_, rfl, .cons hL.head (by simp) .nil, ?_⟩
  exact HK
theorem k_has1 {h : Heap} {b : Nat} {g : Sl} (x : Int) {L : List (Nat × List Value)} (hL : Vars h ((b, [g.v]) :: L)) (K : Value → Heap → Prop) (HK : K (VB (!inR 0 (w64 (g.n - 1)) x)) h) : callV Tryd.prog (.func (.func 110) #[] #[VP b 0]) [VI x] h K := by
  refine v110 x b g h K (.cons hL.head (by simp) .nil) ?_
  refine k_impl_in _ _ _ _ _ ⟨_, rfl, .cons hL.head (by simp) .nil, ?_⟩
  exact HK
theorem graphB_eq {xss : List (List Int)} (e3 : inR 1 8 xss.length = true) : graphB xss = xss.all fun l => !decide (5 < (l.length : Int)) && l.all (inR 0 ((xss.length : Int) - 1)) := by unfold graphB; rw [e3]; rfl
theorem graphB_no {xss : List (List Int)} (e3 : inR 1 8 xss.length = false) : graphB xss = false := by unfold graphB; rw [e3]; rfl
theorem any_not {xs : List Int} {p : Int → Bool} : xs.any (fun x => !p x) = !xs.all p := by
  induction xs with
  | nil => rfl
  | cons x xs ih => simp only [List.any_cons, List.all_cons, ih, Bool.not_and]
theorem len_w64 {S : Nat → Prop} {h : Heap} {g : Sl} {xss : List (List Int)} (H : RdR S h g xss) : w64 ((g.n : Int) - 1) = (xss.length : Int) - 1 := by
  rw [H.len]
  have h1 := maxLen_lt H.big
  have h2 := H.len
  exact w64_eq _ (by omega) (by omega)
theorem k_isGraph {S : Nat → Prop} {h : Heap} {g : Sl} {xss : List (List Int)} (H : RdR S h g xss) : Ret Tryd.prog 109 #[.agg #[g.v]] h (VB (graphB xss)) := by
  intro K HK
  refine v109 g h K fun b1 b2 h1 hb1 hb2 hf1 hL1 => ?_
  have f1 := hf1.in_nil
  have hlen := H.len
  refine k_impl_in _ _ _ _ _ ⟨_, rfl, hL1, fun e => ?_, fun e => ?_⟩
  · have e3 : inR 1 8 xss.length = false := by have := not_t e; rw [hlen] at this; exact this
    rw [← graphB_no e3]; exact HK _ f1
  · have e3 : inR 1 8 xss.length = true := by have := not_f e; rw [hlen] at this; exact this
    have hg := graphB_eq e3
    refine ⟨fun n i x h' => h' = h1 ∧ x = (g.n : Int) ∧ 0 ≤ i ∧ i + n = (xss.length : Int) ∧ graphB xss = (xss.drop i.toNat).all (fun l => !decide (5 < (l.length : Int)) && l.all (inR 0 ((xss.length : Int) - 1))), ⟨xss.length, rfl, rfl, by omega, by omega, by simp [hg]⟩, ?_⟩
    rintro n i x _ ⟨rfl, rfl, h0, h2, h4⟩ hL
    have H3 := H.no f1
    refine ⟨fun e => ?_, fun e => ?_⟩
    · have hi := H.lt e
      obtain ⟨si, hc, Hi⟩ := H3.get h0 hi
      rw [drop_cons xss h0 hi, List.all_cons] at h4
      refine ⟨H3.inb h0 hi, si, hc, fun e5 => ?_, fun e5 => ?_⟩
      · rw [Hi.len] at e5
        rw [e5] at h4
        have h5 : graphB xss = false := by rw [h4]; rfl
        rw [← h5]; exact HK _ f1
      · rw [Hi.len] at e5
        rw [e5] at h4
        refine k_ContainsFunc Hi _ _ (fun x K HK => k_isGraph1 x hL K HK) _ ?_
        refine ⟨_, _, rfl, hL, fun e6 => ?_, fun e6 => ?_⟩
        · rw [any_not, len_w64 H] at e6
          rw [not_t e6] at h4
          have h5 : graphB xss = false := by rw [h4]; rfl
          rw [← h5]; exact HK _ f1
        · rw [any_not, len_w64 H] at e6
          rw [not_f e6] at h4
          rw [H.succ h0 hi]
          exact ⟨n - 1, by omega, rfl, rfl, by omega, by omega, by rw [h4]; rfl⟩
    · have hi := H.ge e
      rw [List.drop_of_length_le (by omega)] at h4
      have h5 : graphB xss = true := by rw [h4]; rfl
      rw [← h5]; exact HK _ f1
theorem k_has {S S' : Nat → Prop} {h : Heap} {g s : Sl} {xss : List (List Int)} {ps : List Int} (H : RdR S h g xss) (Hp : RdI S' h s ps) : Ret Tryd.prog 87 #[.agg #[g.v], s.v] h (VB (graphB xss && ps.all (inR 0 ((xss.length : Int) - 1)))) := by
  intro K HK
  refine v87 g s h K fun b1 h1 hb1 f1 hL1 => ?_
  have f1 := f1.in_nil
  refine k_isGraph (H.no f1) _ fun h2 f2 => ⟨_, rfl, hL1.of_no f2, fun e => ?_, fun e => ?_⟩
  · rw [e, Bool.true_and] at HK
    have hL2 := hL1.of_no f2
    refine k_ContainsFunc ((Hp.no f1).no f2) _ _ (fun x K HK => k_has1 x hL2 K HK) _ ?_
    refine ⟨_, _, rfl, hL2, ?_⟩
    rw [any_not, len_w64 H, Bool.not_not]
    exact HK _ (f1.trans f2)
  · rw [e, Bool.false_and] at HK
    exact HK _ (f1.trans f2)
theorem k_spec_grPlace {S : Nat → Prop} {h : Heap} {g : Sl} {xss : List (List Int)} (H : RdR S h g xss) (p : Int) : Ret Tryd.prog 83 #[.agg #[g.v], VI p] h (VB (graphB xss && inR 0 ((xss.length : Int) - 1) p)) := by
  intro K HK
  refine v83 g p h K fun b1 h1 hb1 f1 hL1 => ?_
  have f1 := f1.in_nil
  refine k_spec_grGood (H.no f1) _ fun h2 f2 => ⟨_, rfl, hL1.of_no f2, fun e => ?_, fun e => ?_⟩
  · rw [e, Bool.true_and] at HK
    refine k_spec_l1In _ _ _ _ _ ⟨_, rfl, hL1.of_no f2, ?_⟩
    rw [len_w64 H]
    exact HK _ (f1.trans f2)
  · rw [e, Bool.false_and] at HK
    exact HK _ (f1.trans f2)
theorem k_spec_l1Most (a b : Int) (h : Heap) (K : Value → Heap → Prop) (HK : K (VI (max a b)) h) : callM Tryd.prog 100 #[VI a, VI b] h K := by
  refine v100 a b h K ⟨fun e => ?_, fun e => ?_⟩
  · simp only [decide_eq_true_eq] at e
    rw [Int.max_eq_left (by omega)] at HK
    exact HK
  · simp only [decide_eq_false_iff_not] at e
    rw [Int.max_eq_right (by omega)] at HK
    exact HK
def rotB (l : List Int) (r : Int) : Bool := inR 0 (max ((l.length : Int) - 1) 0) r
def walkB (g : List (List Int)) (rs : List Int) (p : Int) : Bool := graphB g && inR 0 ((g.length : Int) - 1) p && decide (rs.length = g.length) && (g.zip rs).all fun q => rotB q.1 q.2
theorem walkB_no1 {g : List (List Int)} {rs : List Int} {p : Int} (e : (graphB g && inR 0 ((g.length : Int) - 1) p) = false) : walkB g rs p = false := by unfold walkB; rw [e]; rfl
theorem walkB_no2 {g : List (List Int)} {rs : List Int} {p : Int} (e : ¬ rs.length = g.length) : walkB g rs p = false := by unfold walkB; rw [decide_eq_false e]; simp
theorem walkB_eq {g : List (List Int)} {rs : List Int} {p : Int} (e : (graphB g && inR 0 ((g.length : Int) - 1) p) = true) (e2 : rs.length = g.length) : walkB g rs p = (g.zip rs).all fun q => rotB q.1 q.2 := by unfold walkB; rw [e, decide_eq_true e2]; rfl
theorem zip_drop (g : List (List Int)) (rs : List Int) {i : Int} (h0 : 0 ≤ i) (h1 : i < (g.length : Int)) (h2 : i < (rs.length : Int)) : (g.zip rs).drop i.toNat = (g[i.toNat]'(by omega), rs[i.toNat]'(by omega)) :: (g.zip rs).drop (i + 1).toNat := by
  have := drop_cons (g.zip rs) h0 (by simp; omega)
  simpa using this
theorem len_w64I {S : Nat → Prop} {h : Heap} {g : Sl} {xs : List Int} (H : RdI S h g xs) : w64 ((g.n : Int) - 1) = (xs.length : Int) - 1 := by
  rw [H.len]
  have h1 := maxLen_lt (RdV.big H)
  have h2 := H.len
  exact w64_eq _ (by omega) (by omega)
theorem k_isWalk {S S' : Nat → Prop} {h : Heap} {g s : Sl} {xss : List (List Int)} {rs : List Int} (G : RdR S h g xss) (H : RdI S' h s rs) (p : Int) : Ret Tryd.prog 65 #[.agg #[g.v], .agg #[s.v, VI p]] h (VB (walkB xss rs p)) := by
  intro K HK
  refine v65 g s p h K fun b1 b2 h1 hb1 hb2 f1 hL1 => ?_
  have f1 := f1.in_nil
  refine eop_lit rIs (fun k => h1.size ≤ k) (fun _ h => h) 1 (by omega) [VI p] rfl rfl fun t h2 n2 c2 o2 f2 l2 _ => ⟨t, rfl, hL1.of_no f2, ?_⟩
  have o2 : RdI (fun k => h1.size ≤ k) h2 t [p] := o2.rdF
  refine k_has ((G.no f1).no f2) o2 _ fun h3 f3 => ⟨_, rfl, (hL1.of_no f2).of_no f3, fun e => ?_, fun e => ?_⟩
  all_goals simp only [List.all_cons, List.all_nil, Bool.and_true] at e
  · rw [← walkB_no1 (rs := rs) (not_t e)]; exact HK _ ((f1.no_trans f2).no_trans f3)
  · have f13 := (f1.no_trans f2).no_trans f3
    rw [G.len, H.len]
    refine ⟨fun e2 => ?_, fun e2 => ?_⟩
    · have e3 := not_t e2
      simp only [decide_eq_false_iff_not] at e3
      rw [← walkB_no2 (g := xss) (rs := rs) (p := p) (by omega)]; exact HK _ f13
    · have e3 := not_f e2
      simp only [decide_eq_true_eq] at e3
      have e4 := walkB_eq (not_f e) (rs := rs) (by omega)
      have G3 := G.no f13
      have H3 := H.no f13
      refine ⟨fun n i h' => h' = h3 ∧ 0 ≤ i ∧ i + n = (xss.length : Int) ∧ walkB xss rs p = ((xss.zip rs).drop i.toNat).all fun q => rotB q.1 q.2, ⟨xss.length, rfl, by omega, by omega, by simpa using e4⟩, ?_⟩
      rintro n i _ ⟨rfl, i0, i1, i2⟩ hL
      refine ⟨fun e5 => ?_, fun e5 => ?_⟩
      · have hi : i < (rs.length : Int) := by simpa using e5
        have hi' : i < (xss.length : Int) := by omega
        obtain ⟨si, c1, c2⟩ := G3.get i0 hi'
        rw [zip_drop xss rs i0 hi' hi, List.all_cons] at i2
        refine ⟨H3.inb i0 hi, _, H3.get i0 hi, G3.inb i0 hi', si, c1, ?_⟩
        rw [len_w64I c2]
        refine pop_max _ _ _ _ ⟨_, rfl, k_impl_in _ _ _ _ _ ⟨_, rfl, hL, fun e6 => ?_, fun e6 => ?_⟩⟩
        · have e7 : rotB (xss[i.toNat]'(by omega)) (rs[i.toNat]'(by omega)) = false := not_t e6
          simp only at i2
          rw [e7] at i2
          have e8 : walkB xss rs p = false := by rw [i2]; rfl
          rw [← e8]; exact HK _ f13
        · have e7 : rotB (xss[i.toNat]'(by omega)) (rs[i.toNat]'(by omega)) = true := not_f e6
          simp only at i2
          rw [e7, Bool.true_and] at i2
          rw [H.succ i0 hi]
          exact ⟨n - 1, by omega, rfl, by omega, by omega, i2⟩
      · have hi : ¬ i < (rs.length : Int) := by simpa using e5
        rw [List.drop_of_length_le (by simp; omega)] at i2
        have e8 : walkB xss rs p = true := by rw [i2]; rfl
        rw [← e8]; exact HK _ f13
theorem k_spec_waGood {S S' : Nat → Prop} {h : Heap} {g s : Sl} {xss : List (List Int)} {rs : List Int} (G : RdR S h g xss) (H : RdI S' h s rs) (p : Int) : Ret Tryd.prog 62 #[.agg #[g.v], .agg #[s.v, VI p]] h (VB (walkB xss rs p)) := by
  intro K HK
  refine v62 g s p h K fun b1 b2 h1 hb1 hb2 f1 hL1 => ?_
  have f1 := f1.in_nil
  refine k_spec_grPlace (G.no f1) p _ fun h3 f3 => ⟨_, rfl, hL1.of_no f3, fun e => ?_, fun e => ?_⟩
  · rw [← walkB_no1 (rs := rs) (not_t e)]; exact HK _ (f1.no_trans f3)
  · have f13 := f1.no_trans f3
    rw [G.len, H.len]
    refine ⟨fun e2 => ?_, fun e2 => ?_⟩
    · have e3 := not_t e2
      simp only [decide_eq_false_iff_not] at e3
      rw [← walkB_no2 (g := xss) (rs := rs) (p := p) (by omega)]; exact HK _ f13
    · have e3 := not_f e2
      simp only [decide_eq_true_eq] at e3
      have e4 := walkB_eq (not_f e) (rs := rs) (by omega)
      have G3 := G.no f13
      have H3 := H.no f13
      refine ⟨fun n i h' => h' = h3 ∧ 0 ≤ i ∧ i + n = (xss.length : Int) ∧ walkB xss rs p = ((xss.zip rs).drop i.toNat).all fun q => rotB q.1 q.2, ⟨xss.length, rfl, by omega, by omega, by simpa using e4⟩, ?_⟩
      rintro n i _ ⟨rfl, i0, i1, i2⟩ hL
      refine ⟨fun e5 => ?_, fun e5 => ?_⟩
      · have hi' : i < (xss.length : Int) := by simpa using e5
        have hi : i < (rs.length : Int) := by omega
        obtain ⟨si, c1, c2⟩ := G3.get i0 hi'
        rw [zip_drop xss rs i0 hi' hi, List.all_cons] at i2
        refine ⟨G3.inb i0 hi', si, c1, H3.inb i0 hi, _, H3.get i0 hi, ?_⟩
        rw [len_w64I c2]
        refine k_spec_l1Most _ _ _ _ ⟨_, rfl, hL, H3.get i0 hi, ?_⟩
        rw [Int.max_comm]
        refine k_spec_l1In _ _ _ _ _ ⟨_, rfl, hL, fun e6 => ?_, fun e6 => ?_⟩
        · have e7 : rotB (xss[i.toNat]'(by omega)) (rs[i.toNat]'(by omega)) = false := not_t e6
          simp only at i2
          rw [e7] at i2
          have e8 : walkB xss rs p = false := by rw [i2]; rfl
          rw [← e8]; exact HK _ f13
        · have e7 : rotB (xss[i.toNat]'(by omega)) (rs[i.toNat]'(by omega)) = true := not_f e6
          simp only at i2
          rw [e7, Bool.true_and] at i2
          rw [G.succ i0 hi']
          exact ⟨n - 1, by omega, rfl, by omega, by omega, i2⟩
      · have hi : ¬ i < (xss.length : Int) := by simpa using e5
        rw [List.drop_of_length_le (by simp; omega)] at i2
        have e8 : walkB xss rs p = true := by rw [i2]; rfl
        rw [← e8]; exact HK _ f13
def totR (xss : List (List Int)) : Nat := (xss.map List.length).sum
theorem nil_of_none {S : Nat → Prop} {h : Heap} {s : Sl} {xs : List Int} (H : RdI S h s xs) (hn : s.a = none) : xs = [] := by
  cases xs with
  | nil => rfl
  | cons x xs =>
    obtain ⟨a, ha, _⟩ := RdV.cell H 0 (by simp)
    rw [hn] at ha
    cases ha
theorem k_Clone {S : Nat → Prop} {h : Heap} {s : Sl} {xs : List Int} (H : RdI S h s xs) (hn : xs.length ≤ 1000000000) (K : Value → Heap → Prop) (HK : ∀ t h', OwI h' (Iv h.size h'.size) t xs → Fr No h h' → K t.v h') : callM Tryd.prog 105 #[s.v] h K := by
  refine v105 s h K (pop_isnil rIs _ _ ⟨_, rfl, fun e => ?_, fun e => ?_⟩)
  · have : xs = [] := nil_of_none H (by simpa using e)
    subst this
    exact HK nilSl h (Ow.nil _ _ _ _) (Fr.refl _ _)
  · refine eop_lit rIs (fun k => h.size ≤ k) (fun _ h => h) 0 (by omega) [] rfl rfl fun t h1 n1 c1 o1 f1 l1 _ => ⟨t, rfl, .nil, ?_⟩
    refine eop_append rIs o1 (fun k hk => Nat.le_trans f1.size hk) (H.no f1) (plainVI _) (by have := H.len; omega) fun t' h2 n2 o2 f2 l2 => ⟨t', rfl, .nil, ?_⟩
    exact HK t' h2 (Ow.toIv (by simpa using o2)) (f1.fresh f2 l1)
theorem k_l1Own {S : Nat → Prop} {h : Heap} {s : Sl} {xs : List Int} (H : RdI S h s xs) (hn : xs.length ≤ 1000000000) (K : Value → Heap → Prop) (HK : ∀ t h', OwI h' (Iv h.size h'.size) t xs → Fr No h h' → K t.v h') : callM Tryd.prog 77 #[s.v] h K := by
  refine v77 s h K ?_
  refine eop_lit rIs (fun k => h.size ≤ k) (fun _ h => h) 0 (by omega) [] rfl rfl fun t h1 n1 c1 o1 f1 l1 _ => ⟨t, rfl, .nil, ?_⟩
  refine eop_append rIs o1 (fun k hk => Nat.le_trans f1.size hk) (H.no f1) (plainVI _) (by have := H.len; omega) fun t' h2 n2 o2 f2 l2 => ⟨t', rfl, .nil, ?_⟩
  exact HK t' h2 (Ow.toIv (by simpa using o2)) (f1.fresh f2 l1)
theorem tot_short {n : Nat} : ∀ {xss : List (List Int)} {m : Nat}, xss.length ≤ m → (∀ l, l ∈ xss → l.length ≤ n) → totR xss ≤ m * n
  | [], m, _, _ => by simp [totR]
  | x :: xs, 0, h, _ => by simp at h
  | x :: xs, m + 1, h, h2 => by
    have h3 := tot_short (n := n) (xss := xs) (m := m) (by simpa using h) fun l hl => h2 l (List.mem_cons_of_mem _ hl)
    have h4 := h2 x (by simp)
    have h5 : totR (x :: xs) = x.length + totR xs := by simp [totR]
    rw [h5, Nat.add_mul]
    omega
theorem short_of_tot {xss : List (List Int)} : ∀ l, l ∈ xss → l.length ≤ totR xss := by
  induction xss with
  | nil => intro l h; simp at h
  | cons x xs ih =>
    intro l hl
    have h5 : totR (x :: xs) = x.length + totR xs := by simp [totR]
    rcases List.mem_cons.1 hl with rfl | hl
    · omega
    · have := ih l hl; omega
theorem inR_iff {lo hi x : Int} : inR lo hi x = true ↔ lo ≤ x ∧ x ≤ hi := by simp [inR]
theorem graph_len {g : List (List Int)} (h : graphB g = true) : 1 ≤ g.length ∧ g.length ≤ 8 := by
  unfold graphB at h
  rw [Bool.and_eq_true, inR_iff] at h
  omega
theorem graph_mem {g : List (List Int)} (h : graphB g = true) {l : List Int} (hl : l ∈ g) : l.length ≤ 5 ∧ ∀ x, x ∈ l → 0 ≤ x ∧ x < (g.length : Int) := by
  unfold graphB at h
  rw [Bool.and_eq_true] at h
  have := List.all_eq_true.1 h.2 l hl
  rw [Bool.and_eq_true] at this
  obtain ⟨h1, h2⟩ := this
  simp only [Bool.not_eq_true', decide_eq_false_iff_not] at h1
  refine ⟨by omega, fun x hx => ?_⟩
  have := List.all_eq_true.1 h2 x hx
  rw [inR_iff] at this
  omega
theorem graph_tot {g : List (List Int)} (h : graphB g = true) : totR g ≤ 40 := by
  have := tot_short (n := 5) (xss := g) (m := 8) (graph_len h).2 fun l hl => (graph_mem h hl).1
  omega
theorem getD_get {g : List (List Int)} {i : Nat} (h : i < g.length) : g.getD i [] = g[i] := by simp [List.getD, List.getElem?_eq_getElem h]
theorem tmod_nat {k n : Int} (h0 : 0 ≤ k) (hn : 0 ≤ n) : Int.tmod k n = ((k.toNat % n.toNat : Nat) : Int) := by
  obtain ⟨a, rfl⟩ := Int.eq_ofNat_of_zero_le h0
  obtain ⟨b, rfl⟩ := Int.eq_ofNat_of_zero_le hn
  rfl
abbrev St := List Int × Int
def stepP (g : List (List Int)) (w : St) : Option St :=
  if (g.getD w.2.toNat []).length = 0 then none
  else some (w.1.set w.2.toNat ((((w.1.getD w.2.toNat 0).toNat + 1) % (g.getD w.2.toNat []).length : Nat) : Int), (g.getD w.2.toNat []).getD (((w.1.getD w.2.toNat 0).toNat + 1) % (g.getD w.2.toNat []).length) 0)
structure WOK (g : List (List Int)) (w : St) : Prop where
  graph : graphB g = true
  len : w.1.length = g.length
  lo : 0 ≤ w.2
  hi : w.2 < (g.length : Int)
  rot : ∀ i (h : i < w.1.length) (h' : i < g.length), 0 ≤ w.1[i] ∧ w.1[i] ≤ max ((g[i].length : Int) - 1) 0
theorem wok_of {g : List (List Int)} {rs : List Int} {p : Int} (h : walkB g rs p = true) : WOK g (rs, p) := by
  unfold walkB at h
  simp only [Bool.and_eq_true, decide_eq_true_eq] at h
  obtain ⟨⟨⟨h1, h2⟩, h3⟩, h4⟩ := h
  rw [inR_iff] at h2
  refine ⟨h1, h3, h2.1, by simp only; omega, fun i a b => ?_⟩
  have := List.all_eq_true.1 h4 (g[i], rs[i]) (by
    rw [show (g[i], rs[i]) = (g.zip rs)[i]'(by simp only [List.length_zip]; simp only at a; omega) by simp]
    exact List.getElem_mem _)
  unfold rotB at this
  rw [inR_iff] at this
  exact this
theorem stepP_none {g : List (List Int)} {w : St} (W : WOK g w) (hp : w.2.toNat < g.length) : (g[w.2.toNat]).length = 0 → stepP g w = none := fun h => by
  unfold stepP
  rw [getD_get hp, if_pos h]
theorem getD_getI {xs : List Int} {i : Nat} (h : i < xs.length) : xs.getD i 0 = xs[i] := by simp [List.getD, List.getElem?_eq_getElem h]
theorem stepP_some {g : List (List Int)} {w : St} (W : WOK g w) (hp : w.2.toNat < g.length) (hr : w.2.toNat < w.1.length) (h : (g[w.2.toNat]).length ≠ 0) :
    stepP g w = some (w.1.set w.2.toNat ((((w.1[w.2.toNat]).toNat + 1) % (g[w.2.toNat]).length : Nat) : Int), (g[w.2.toNat])[((w.1[w.2.toNat]).toNat + 1) % (g[w.2.toNat]).length]'(Nat.mod_lt _ (by omega))) := by
  unfold stepP
  rw [getD_get hp, if_neg h, getD_getI hr, getD_getI (Nat.mod_lt _ (by omega))]
theorem WOK.step {g : List (List Int)} {w w' : St} (W : WOK g w) (h : stepP g w = some w') : WOK g w' := by
  have hp : w.2.toNat < g.length := by have := W.hi; have := W.lo; omega
  have hr : w.2.toNat < w.1.length := by rw [W.len]; exact hp
  by_cases h0 : (g[w.2.toNat]).length = 0
  · rw [stepP_none W hp h0] at h; cases h
  · rw [stepP_some W hp hr h0] at h
    have hm := Nat.mod_lt ((w.1[w.2.toNat]).toNat + 1) (show 0 < (g[w.2.toNat]).length by omega)
    simp only [Option.some.injEq] at h
    subst h
    have hmem := (graph_mem W.graph (List.getElem_mem hp)).2 _ (List.getElem_mem hm)
    refine ⟨W.graph, by simpa using W.len, hmem.1, hmem.2, fun i a b => ?_⟩
    simp only [List.length_set] at a
    simp only [List.getElem_set]
    split
    · rename_i e
      subst e
      omega
    · exact W.rot i a b
theorem k_copiedW {S : Nat → Prop} {h : Heap} {s : Sl} {xs : List Int} (H : RdI S h s xs) (p : Int) (hn : xs.length ≤ 1000000000) (K : Value → Heap → Prop) (HK : ∀ t h', OwI h' (Iv h.size h'.size) t xs → Fr No h h' → K (.agg #[t.v, VI p]) h') : callM Tryd.prog 69 #[.agg #[s.v, VI p]] h K := by
  refine v69 s p h K fun b1 b2 h2 hb1 hb2 f2 hL2 => ?_
  have f2 := f2.in_nil
  have l2 : b2 < h2.size := hL2.head.lt
  have s2 := f2.size
  refine k_Clone (H.no f2) hn _ fun t h3 o3 f3 => ⟨t, rfl, hL2.of_no f3, fun h4 f4 hL4 => ?_⟩
  have f4 := f4.inIv (lo := h.size) (hi := h2.size) ⟨⟨hb2, l2⟩, trivial⟩
  exact HK t h4 ((Ow.iv o3 f4 (.inr (Nat.le_refl _))).mono fun k hk hF => ⟨Nat.le_trans s2 hF.1, Nat.lt_of_lt_of_le hF.2 f4.size⟩) ((f2.no_trans f3).ivFresh f4 (Nat.le_refl _))
theorem k_stepF {F S : Nat → Prop} {b : Nat} {h : Heap} {g w : Sl} {xss : List (List Int)} {s : St} (G : RdR S h g xss) (V : IsVar h b [w.v, VI s.2]) (H : OwI h F w s.1) (hS : ∀ k, S k → ¬ F k) (hFb : F b) (hbw : ¬ w.own b) (W : WOK xss s) (K : Value → Heap → Prop)
    (HN : stepP xss s = none → ∀ h', Fr No h h' → K (VB false) h') (HS : ∀ s', stepP xss s = some s' → ∀ h', OwI h' F w s'.1 → IsVar h' b [w.v, VI s'.2] → Fr F h h' → K (VB true) h') :
    callM Tryd.prog 92 #[.agg #[g.v], VP b 0] h K := by
  have hp : s.2.toNat < xss.length := by have := W.hi; have := W.lo; omega
  have hr : s.2.toNat < s.1.length := by rw [W.len]; exact hp
  have hlo := W.lo
  refine v92 g b w s.2 h K (.cons V (by simp) .nil) ⟨G.inb W.lo W.hi, fun b2 h1 hb2 f1 hL1 => ?_⟩
  have f1 := f1.in_nil
  obtain ⟨si, c1, c2⟩ := (G.no f1).get W.lo W.hi
  have H1 := Ow.no H f1
  have hn1 : w.n = s.1.length := RdI.len H.rdF
  refine ⟨si, c1, fun e => ?_, fun e => ?_⟩
  · simp only [decide_eq_true_eq] at e
    exact HN (stepP_none W hp (by have := c2.len; omega)) h1 f1
  · simp only [decide_eq_false_iff_not] at e
    have h0 : (xss[s.2.toNat]'hp).length ≠ 0 := by have := c2.len; omega
    have hst := stepP_some W hp hr h0
    have hm := Nat.mod_lt ((s.1[s.2.toNat]'hr).toNat + 1) (show 0 < (xss[s.2.toNat]'hp).length by omega)
    have hrot := W.rot _ hr hp
    have hbig := (graph_mem W.graph (List.getElem_mem hp)).1
    have hw : w64 (s.1[s.2.toNat]'hr + 1) = s.1[s.2.toNat]'hr + 1 := w64_eq _ (by omega) (by omega)
    have hm2 : Int.tmod (s.1[s.2.toNat]'hr + 1) (si.n : Int) = ((((s.1[s.2.toNat]'hr).toNat + 1) % (xss[s.2.toNat]'hp).length : Nat) : Int) := by
      rw [tmod_nat (by omega) (by omega), c2.len]
      congr 2
      omega
    have R1 : RdI F h1 w s.1 := H1.rdF
    refine ⟨R1.inb hlo (by omega), _, R1.get hlo (by omega), by omega, R1.inb hlo (by omega), ?_⟩
    rw [hw, hm2]
    obtain ⟨w1, w2, w3⟩ := H1.store1 hlo (by omega) (VI ((((s.1[s.2.toNat]'hr).toNat + 1) % (xss[s.2.toNat]'hp).length : Nat) : Int))
    have w3' : Fr F h1 _ := w3.mono fun k _ hk => (H1.foot hk).1
    have hbl := V.lt
    have hL2 := hL1.fr w3 fun p hp => by
      simp only [List.mem_cons, List.not_mem_nil, or_false] at hp
      rcases hp with rfl | rfl
      · exact fun hk => by have := (H.foot hk).2; simp only at this; omega
      · exact hbw
    refine ⟨w1, hL2, fun h2 e2 _ => ?_⟩
    subst e2
    rw [← List.map_set] at w2
    have R2 : RdI F _ w _ := w2.rdF
    have c2' := RdI.fr c2 w3' hS
    have hv : hcell (hset h1 (w.at s.2 1) (VI ((((s.1[s.2.toNat]'hr).toNat + 1) % (xss[s.2.toNat]'hp).length : Nat) : Int))) (w.at s.2 1) = some (VI ((((s.1[s.2.toNat]'hr).toNat + 1) % (xss[s.2.toNat]'hp).length : Nat) : Int)) := by
      have := R2.get (i := s.2) hlo (by simp; omega)
      simpa using this
    have hq := c2'.get (i := ((((s.1[s.2.toNat]'hr).toNat + 1) % (xss[s.2.toNat]'hp).length : Nat) : Int)) (by omega) (by omega)
    simp only [Int.toNat_natCast] at hq
    refine ⟨R2.inb hlo (by simp; omega), _, hv, c2'.inb (by omega) (by omega), _, hq, fun h3 f3 hL3 => ?_⟩
    have f3' : Fr F _ h3 := f3.mono fun k _ hk => by simp only [In, List.mem_cons, List.not_mem_nil, or_false] at hk; subst hk; exact hFb
    refine HS _ hst h3 ?_ ?_ ((f1.of_no.trans w3').trans f3')
    · exact Ow.fr w2 f3 fun k hk hk2 => by
        simp only [In, List.mem_cons, List.not_mem_nil, or_false] at hk2
        subst hk2
        exact hbw hk
    · exact hL3.tail.head
theorem k_waStep {S S' : Nat → Prop} {h : Heap} {g w : Sl} {xss : List (List Int)} {s : St} (G : RdR S h g xss) (H : RdI S' h w s.1) (W : WOK xss s) (K : Value → Heap → Prop)
    (HN : stepP xss s = none → ∀ h', Fr No h h' → K (.tuple #[.agg #[w.v, VI s.2], VB false]) h') (HS : ∀ s', stepP xss s = some s' → ∀ t h', OwI h' (Iv h.size h'.size) t s'.1 → Fr No h h' → K (.tuple #[.agg #[t.v, VI s'.2], VB true]) h') :
    callM Tryd.prog 80 #[.agg #[g.v], .agg #[w.v, VI s.2]] h K := by
  have hp : s.2.toNat < xss.length := by have := W.hi; have := W.lo; omega
  have hr : s.2.toNat < s.1.length := by rw [W.len]; exact hp
  have hlo := W.lo
  refine v80 g w s.2 h K ⟨G.inb W.lo W.hi, fun b1 b2 b3 h3 hb1 hb2 hb3 f3 hL3 => ?_⟩
  have f3 := f3.in_nil
  have l3 : b3 < h3.size := hL3.head.lt
  have l2 : b2 < h3.size := hL3.tail.head.lt
  have l1 : b1 < h3.size := hL3.tail.tail.head.lt
  have s3 := f3.size
  have G3 := G.low.no f3
  obtain ⟨si, c1, c2⟩ := G3.get W.lo W.hi
  refine ⟨si, c1, fun e h4 f4 hL4 => ?_, fun e => ?_⟩
  · simp only [decide_eq_true_eq] at e
    have f4 := f4.inIv (lo := h.size) (hi := h3.size) ⟨⟨hb3, l3⟩, trivial⟩
    exact HN (stepP_none W hp (by have := c2.len; omega)) h4 (f3.ivFresh f4 (Nat.le_refl _))
  · simp only [decide_eq_false_iff_not] at e
    have h0 : (xss[s.2.toNat]'hp).length ≠ 0 := by have := c2.len; omega
    have hst := stepP_some W hp hr h0
    have hm := Nat.mod_lt ((s.1[s.2.toNat]'hr).toNat + 1) (show 0 < (xss[s.2.toNat]'hp).length by omega)
    have hrot := W.rot _ hr hp
    have hbig := (graph_mem W.graph (List.getElem_mem hp)).1
    have hglen := graph_len W.graph
    have hw : w64 (s.1[s.2.toNat]'hr + 1) = s.1[s.2.toNat]'hr + 1 := w64_eq _ (by omega) (by omega)
    have hm2 : Int.tmod (s.1[s.2.toNat]'hr + 1) (si.n : Int) = ((((s.1[s.2.toNat]'hr).toNat + 1) % (xss[s.2.toNat]'hp).length : Nat) : Int) := by
      rw [tmod_nat (by omega) (by omega), c2.len]
      congr 2
      omega
    refine k_l1Own (H.no f3) (by have := W.len; omega) _ fun t h5 o5 f5 => ⟨t, rfl, hL3.of_no f5, (H.inb hlo (by omega)), fun b4 h7 hb4 f7 hL7 => ?_⟩
    have f7 := f7.in_nil
    have s5 := f5.size
    have s7 := f7.size
    have l4 : b4 < h7.size := hL7.head.lt
    have f07 := (f3.no_trans f5).no_trans f7
    have H7 := H.no f07
    have o7 := Ow.no o5 f7
    have hn7 : t.n = s.1.length := RdI.len o7.rdF
    refine ⟨_, H7.get hlo (by omega), by omega, o7.inb hlo (by omega), ?_⟩
    rw [hw, hm2]
    obtain ⟨w1, w2, w3⟩ := o7.store1 hlo (by omega) (VI ((((s.1[s.2.toNat]'hr).toNat + 1) % (xss[s.2.toNat]'hp).length : Nat) : Int))
    have w3' : Fr (Iv h3.size h5.size) h7 _ := w3.mono fun k _ hk => (o7.foot hk).1
    have hL8 := hL7.iv w3' ⟨.inr hb4, .inl l3, .inl l2, .inl l1, trivial⟩
    refine ⟨w1, hL8, fun h8 e8 _ => ?_⟩
    subst e8
    rw [← List.map_set] at w2
    have c2' := ((c2.no f5).no f7).fr w3' fun k hk hk2 => by have := hk2.1; omega
    have hq := c2'.get (i := ((((s.1[s.2.toNat]'hr).toNat + 1) % (xss[s.2.toNat]'hp).length : Nat) : Int)) (by omega) (by omega)
    simp only [Int.toNat_natCast] at hq
    refine ⟨c2'.inb (by omega) (by omega), _, hq, fun h10 f10 hL10 => ?_⟩
    have s8 := w3'.size
    have e1 : Fr No h h10 := by
      refine (f07.ivFresh w3' (by omega)).fresh f10 fun k hk => ?_
      simp only [In, List.mem_cons, List.not_mem_nil, or_false] at hk
      rcases hk with rfl | rfl <;> omega
    refine HS _ hst t h10 ?_ e1
    have s10 := f10.size
    refine (Ow.fr w2 f10 fun k hk hk2 => ?_).mono fun k _ hk => ⟨by have := hk.1; omega, by have := hk.2; omega⟩
    have := (o7.foot hk).1
    have h1 := this.1
    have h2 := this.2
    simp only [In, List.mem_cons, List.not_mem_nil, or_false] at hk2
    rcases hk2 with rfl | rfl <;> omega
def runT {τ : Type} (g : List (List Int)) (upd : τ → St → St → τ) : Nat → τ → St → Option (τ × St)
  | 0, t, s => some (t, s)
  | n + 1, t, s => match stepP g s with
    | none => none
    | some s' => runT g upd n (upd t s s') s'
theorem runT_snoc {τ : Type} {g : List (List Int)} {upd : τ → St → St → τ} {s'' : St} : ∀ (n : Nat) (t : τ) (s : St) (t' : τ) (s' : St), runT g upd n t s = some (t', s') → stepP g s' = some s'' → runT g upd (n + 1) t s = some (upd t' s' s'', s'')
  | 0, t, s, t', s', h, hs => by
    simp only [runT, Option.some.injEq, Prod.mk.injEq] at h
    obtain ⟨rfl, rfl⟩ := h
    rw [runT, hs]
    rfl
  | n + 1, t, s, t', s', h, hs => by
    rw [runT] at h
    rw [runT]
    split at h
    · cases h
    · rename_i s2 h2
      exact runT_snoc n _ _ _ _ h hs
theorem k_run {τ : Type} (upd : τ → St → St → τ) (C : Nat → τ → Heap → Prop) (T0 : Nat → Prop) {F S : Nat → Prop} {b : Nat} {h : Heap} {g w : Sl} {xss : List (List Int)} {s0 : St} (G : RdR S h g xss) (V : IsVar h b [w.v, VI s0.2]) (H : OwI h F w s0.1) (hS : ∀ k, S k → ¬ F k ∧ ¬ T0 k) (hFb : F b) (hbw : ¬ w.own b) (W : WOK xss s0) (n : Int) (hn0 : 0 ≤ n) (hn1 : n ≤ 1000000) (wt : Value) (t0 : τ)
    (hF : ∀ k, F k → k < h.size) (hT0 : ∀ k, T0 k → ¬ F k ∧ k < h.size) (hC0 : ∀ N, h.size ≤ N → C N t0 h) (hC : ∀ N t h1 h2 (U : Nat → Prop), C N t h1 → Fr U h1 h2 → (∀ k, U k → ¬ T0 k ∧ k < N) → C N t h2)
    (hw : ∀ N t s s' h1 (K : Value → Heap → Prop), h.size ≤ N → N ≤ h1.size → C N t h1 → IsVar h1 b [w.v, VI s'.2] → OwI h1 F w s'.1 → WOK xss s → stepP xss s = some s' → (∃ m : Nat, (m : Int) < n ∧ runT xss upd m t0 s0 = some (t, s)) → (∀ h2 v, C N (upd t s s') h2 → Fr (fun k => T0 k ∨ N ≤ k) h1 h2 → K v h2) → callV Tryd.prog wt [VI s.2] h1 K)
    (K : Value → Heap → Prop)
    (HN : runT xss upd n.toNat t0 s0 = none → ∀ N t' h' p, h.size ≤ N → C N t' h' → IsVar h' b [w.v, VI p] → Fr (fun k => F k ∨ T0 k) h h' → K (VB false) h')
    (HS : ∀ t' s', runT xss upd n.toNat t0 s0 = some (t', s') → ∀ N h', h.size ≤ N → C N t' h' → OwI h' F w s'.1 → WOK xss s' → IsVar h' b [w.v, VI s'.2] → Fr (fun k => F k ∨ T0 k) h h' → K (VB true) h') :
    callM Tryd.prog 71 #[.agg #[g.v], VP b 0, VI n, wt] h K := by
  have hbl := V.lt
  refine v71 g b w s0.2 n wt h K (.cons V (by simp) .nil) fun b2 h1 hb2 f1 hL1 => ?_
  have f1 := f1.in_nil
  have l2 : b2 < h1.size := hL1.head.lt
  have z1 := f1.size
  have dis : ∀ k, F k → ¬ T0 k := fun k hk hk2 => (hT0 k hk2).1 hk
  refine ⟨fun m i x p h' => ∃ (t : τ) (s' : St), x = w ∧ p = s'.2 ∧ 0 ≤ i ∧ i + m = n ∧ C h1.size t h' ∧ OwI h' F w s'.1 ∧ WOK xss s' ∧ Fr (fun k => F k ∨ T0 k) h h' ∧ h1.size ≤ h'.size ∧ runT xss upd i.toNat t0 s0 = some (t, s') ∧ runT xss upd n.toNat t0 s0 = runT xss upd m t s', ⟨n.toNat, t0, s0, rfl, rfl, by omega, by omega, hC _ _ _ _ _ (hC0 _ z1) f1 (fun k hk => hk.elim), Ow.no H f1, W, f1.of_no, Nat.le_refl _, rfl, rfl⟩, ?_⟩
  rintro m i x p h2 ⟨t, s', rfl, rfl, i0, i1, c2, o2, W2, f2, z2, hm, eq⟩ hL2
  refine ⟨fun e => ?_, fun e => ?_⟩
  · simp only [decide_eq_true_eq] at e
    obtain ⟨m, rfl⟩ : ∃ q, m = q + 1 := ⟨m - 1, by omega⟩
    rw [runT] at eq
    have G2 : RdR S h2 g xss := G.fr f2 fun k hk hk2 => by
      rcases hk2 with hk2 | hk2
      · exact (hS k hk).1 hk2
      · exact (hS k hk).2 hk2
    refine k_stepF G2 hL2.tail.head o2 (fun k hk => (hS k hk).1) hFb hbw W2 _ (fun hs h3 f3 => ?_) fun s3 hs h3 o3 v3 f3 => ?_
    · rw [hs] at eq
      have hL3 := hL2.of_no f3
      exact ⟨x, s'.2, _, rfl, hL3, fun _ => HN eq _ _ h3 _ z1 (hC _ _ _ _ _ c2 f3 fun k hk => hk.elim) hL3.tail.head (f2.trans f3.of_no), fun e => by simp at e⟩
    · rw [hs] at eq
      have hL3 : Vars h3 [(b2, [g.v]), (b, [x.v, VI s3.2])] := .cons (hL2.head.fr f3 fun hk => by have := hF _ hk; omega) (fun p hp => by simp only [List.mem_cons, List.not_mem_nil, or_false] at hp; subst hp; simp only; omega) (.cons v3 (by simp) .nil)
      have c3 := hC _ _ _ _ _ c2 f3 fun k hk => ⟨dis k hk, by have := hF k hk; omega⟩
      have z3 := f3.size
      refine ⟨x, s3.2, _, rfl, hL3, fun e => by simp at e, fun _ => ?_⟩
      refine hw h1.size t s' s3 h3 _ z1 (by omega) c3 v3 o3 W2 hs ⟨i.toNat, by omega, hm⟩ fun h4 v c4 f4 => ?_
      have hL4 : Vars h4 [(b2, [g.v]), (b, [x.v, VI s3.2])] := hL3.fr f4 fun p hp hk => by
        simp only [List.mem_cons, List.not_mem_nil, or_false] at hp
        rcases hp with rfl | rfl <;> simp only at hk
        · rcases hk with hk | hk
          · have := (hT0 _ hk).2; omega
          · omega
        · rcases hk with hk | hk
          · exact (hT0 _ hk).1 hFb
          · have := hF _ hFb; omega
      rw [w64_eq (i + 1) (by omega) (by omega)]
      refine ⟨hL4, m, by omega, _, s3, rfl, rfl, by omega, by omega, c4, Ow.fr o3 f4 fun k hk hk2 => ?_, W2.step hs, ?_, by have := f4.size; omega, by rw [toNat_succ i0]; exact runT_snoc _ _ _ _ _ hm hs, eq⟩
      · have h5 := (o3.foot hk).1
        rcases hk2 with hk2 | hk2
        · exact (hT0 _ hk2).1 h5
        · have := hF _ h5; omega
      · refine ⟨by have := f2.size; have := f4.size; omega, fun k hk ht => ?_⟩
        rw [f4.same k (by have := f2.size; omega) fun h => by
          rcases h with h | h
          · exact ht (.inr h)
          · omega]
        rw [f3.same k (by have := f2.size; omega) fun h => ht (.inl h)]
        exact f2.same k hk ht
  · simp only [decide_eq_false_iff_not] at e
    obtain rfl : m = 0 := by omega
    rw [runT] at eq
    exact HS t s' eq h1.size h2 z1 c2 o2 W2 hL2.tail.head f2
theorem k_isRun {S S' : Nat → Prop} {h : Heap} {g s : Sl} {xss : List (List Int)} {rs : List Int} (G : RdR S h g xss) (H : RdI S' h s rs) (p n most : Int) : Ret Tryd.prog 68 #[.agg #[g.v], .agg #[s.v, VI p], VI n, VI most] h (VB (walkB xss rs p && inR 0 most n)) := by
  intro K HK
  refine v68 g s p n most h K fun b1 b2 h2 hb1 hb2 f2 hL2 => ?_
  have f2 := f2.in_nil
  refine k_isWalk (G.no f2) (H.no f2) p _ fun h3 f3 => ⟨_, rfl, hL2.of_no f3, fun e => ?_, fun e => ?_⟩
  · rw [e, Bool.true_and] at HK
    exact k_impl_in _ _ _ _ _ ⟨_, rfl, hL2.of_no f3, HK _ (f2.no_trans f3)⟩
  · rw [e, Bool.false_and] at HK
    exact HK _ (f2.no_trans f3)
theorem k_waAsked {S S' : Nat → Prop} {h : Heap} {g s : Sl} {xss : List (List Int)} {rs : List Int} (G : RdR S h g xss) (H : RdI S' h s rs) (p n : Int) : Ret Tryd.prog 73 #[.agg #[g.v], .agg #[s.v, VI p], VI n] h (VB (walkB xss rs p && inR 0 2000 n)) := by
  intro K HK
  refine v73 g s p n h K fun b1 b2 h2 hb1 hb2 f2 hL2 => ?_
  have f2 := f2.in_nil
  refine k_spec_waGood (G.no f2) (H.no f2) p _ fun h3 f3 => ⟨_, rfl, hL2.of_no f3, fun e => ?_, fun e => ?_⟩
  · rw [e, Bool.true_and] at HK
    exact k_spec_l1In _ _ _ _ _ ⟨_, rfl, hL2.of_no f3, HK _ (f2.no_trans f3)⟩
  · rw [e, Bool.false_and] at HK
    exact HK _ (f2.no_trans f3)
def runOfP (g : List (List Int)) (rs : List Int) (p n : Int) : St × Bool :=
  if walkB g rs p && inR 0 2000 n then match runT g (fun (_ : Unit) _ _ => ()) n.toNat () (rs, p) with
    | none => (([], 0), false)
    | some (_, s) => (s, true)
  else (([], 0), false)
theorem k_RunOf {S S' : Nat → Prop} {h : Heap} {g w : Sl} {xss : List (List Int)} {rs : List Int} (G : RdR S h g xss) (H : RdI S' h w rs) (p n : Int) (K : Value → Heap → Prop) (HK : ∀ t h', OwI h' (Iv h.size h'.size) t (runOfP xss rs p n).1.1 → Fr No h h' → K (.tuple #[.agg #[t.v, VI (runOfP xss rs p n).1.2], VB (runOfP xss rs p n).2]) h') : callM Tryd.prog 26 #[.agg #[g.v], .agg #[w.v, VI p], VI n] h K := by
  refine v26 g w p n h K fun b1 b2 b3 h3 hb1 hb2 hb3 f3 hL3 => ?_
  have f3 := f3.in_nil
  have l3 : b3 < h3.size := hL3.head.lt
  have l2 : b2 < h3.size := hL3.tail.head.lt
  have l1 : b1 < h3.size := hL3.tail.tail.head.lt
  have z3 := f3.size
  refine k_isRun (G.no f3) (H.no f3) p n 2000 _ fun h4 f4 => ⟨_, rfl, hL3.of_no f4, fun e h5 f5 hL5 => ?_, fun e => ?_⟩
  · have e2 : runOfP xss rs p n = (([], 0), false) := by unfold runOfP; rw [if_neg (by rw [not_t e]; simp)]
    have f5 := f5.inIv (lo := h.size) (hi := h3.size) ⟨⟨hb3, l3⟩, trivial⟩
    have := HK nilSl h5 (by rw [e2]; exact Ow.nil _ _ _ _) ((f3.no_trans f4).ivFresh f5 (Nat.le_refl _))
    rw [e2] at this
    exact this
  have e := not_f e
  have e2 : runOfP xss rs p n = match runT xss (fun (_ : Unit) _ _ => ()) n.toNat () (rs, p) with
    | none => (([], 0), false)
    | some (_, s) => (s, true) := by unfold runOfP; rw [if_pos e]
  rw [Bool.and_eq_true, inR_iff] at e
  have W := wok_of e.1
  have hgl := graph_len W.graph
  have hL4 := hL3.of_no f4
  have z4 := f4.size
  have f04 := f3.no_trans f4
  refine k_copiedW (H.no f04) p (by have := W.len; simp only at this; omega) _ fun u h6 o6 f6 => ⟨u, p, rfl, hL4.of_no f6, fun b4 h8 hb4 f8 hL8 => ?_⟩
  have f8 := f8.in_nil
  have z6 := f6.size
  have z8 := f8.size
  have l4 : b4 < h8.size := hL8.head.lt
  have f48 := f6.no_trans f8
  have G8 : RdR (Iv 0 h4.size) h8 g xss := (G.no f04).toIv.no f48
  have o8 : OwI h8 (Iv h4.size h8.size) u rs := (Ow.no o6 f8).mono fun k _ hk => ⟨hk.1, by have := hk.2; omega⟩
  have hub : ¬ u.own b4 := fun hk => by have := (o6.foot hk).2; omega
  have fT : ∀ {x y : Heap}, Fr (fun k => Iv h4.size h8.size k ∨ False) x y → Fr (Iv h4.size h8.size) x y := fun f => f.mono fun k _ hk => by rcases hk with hk | hk; exact hk; exact hk.elim
  refine k_run (s0 := (rs, p)) (fun (_ : Unit) _ _ => ()) (fun _ _ _ => True) (fun _ => False) G8 hL8.head o8 (fun k hk => ⟨fun hk2 => by have := hk.2; have := hk2.1; omega, fun h => h⟩) ⟨by omega, l4⟩ hub W n (by omega) (by omega) _ () (fun k hk => hk.2) (fun k hk => hk.elim) (fun _ _ => trivial) (fun _ _ _ _ _ _ _ _ => trivial) (fun N t s s' h1 K hN hN2 _ V O W hs _ HK => ?_) _ (fun hr N t h9 q hN _ v9 f9 => ?_) fun t' s' hr N h9 hN _ o9 W9 v9 f9 => ?_
  · refine v76 s.2 h1 K ?_
    exact HK h1 _ trivial (Fr.refl _ _)
  · have f9 := fT f9
    have hL9 : Vars h9 [(b4, [u.v, VI q]), (b3, [nilSl.v, VI 0]), (b2, [w.v, VI p]), (b1, [g.v])] := .cons v9 hL8.ne (hL8.tail.iv f9 ⟨.inl (by omega), .inl (by omega), .inl (by omega), trivial⟩)
    refine ⟨u, q, _, rfl, hL9, fun _ h10 f10 hL10 => ?_, fun e => by simp at e⟩
    have f10 := f10.inIv (lo := h.size) (hi := h3.size) ⟨⟨hb3, l3⟩, trivial⟩
    rw [hr] at e2
    have := HK nilSl h10 (by rw [e2]; exact Ow.nil _ _ _ _) (((f04.no_trans f48).ivFresh f9 (by omega)).ivFresh f10 (Nat.le_refl _))
    rw [e2] at this
    exact this
  · have f9 := fT f9
    have hL9 : Vars h9 [(b4, [u.v, VI s'.2]), (b3, [nilSl.v, VI 0]), (b2, [w.v, VI p]), (b1, [g.v])] := .cons v9 hL8.ne (hL8.tail.iv f9 ⟨.inl (by omega), .inl (by omega), .inl (by omega), trivial⟩)
    refine ⟨u, s'.2, _, rfl, hL9, fun e => by simp at e, fun _ h10 f10 hL10 => ?_⟩
    have f10 := f10.inIv (lo := h.size) (hi := h3.size) ⟨⟨hb3, l3⟩, trivial⟩
    rw [hr] at e2
    have z9 := f9.size
    have z10 := f10.size
    have := HK u h10 (by rw [e2]; exact (Ow.iv o9 f10 (.inr (by omega))).mono fun k _ hk => ⟨by have := hk.1; omega, by have := hk.2; omega⟩) (((f04.no_trans f48).ivFresh f9 (by omega)).ivFresh f10 (Nat.le_refl _))
    rw [e2] at this
    exact this
theorem k_StepOf {S S' : Nat → Prop} {h : Heap} {g w : Sl} {xss : List (List Int)} {rs : List Int} (G : RdR S h g xss) (H : RdI S' h w rs) (p : Int) (K : Value → Heap → Prop) (HK : ∀ t h', OwI h' (Iv h.size h'.size) t (runOfP xss rs p 1).1.1 → Fr No h h' → K (.tuple #[.agg #[t.v, VI (runOfP xss rs p 1).1.2], VB (runOfP xss rs p 1).2]) h') : callM Tryd.prog 35 #[.agg #[g.v], .agg #[w.v, VI p]] h K := by
  refine v35 g w p h K fun b1 b2 b3 h3 hb1 hb2 hb3 f3 hL3 => ?_
  have f3 := f3.in_nil
  have l3 : b3 < h3.size := hL3.head.lt
  have z3 := f3.size
  refine k_RunOf (G.no f3) (H.no f3) p 1 _ fun t h4 o4 f4 => ⟨t, _, _, rfl, hL3.of_no f4, fun h5 f5 hL5 => ?_⟩
  have f5 := f5.inIv (lo := h.size) (hi := h3.size) ⟨⟨hb3, l3⟩, trivial⟩
  have z5 := f5.size
  exact HK t h5 ((Ow.iv o4 f5 (.inr (Nat.le_refl _))).mono fun k _ hk => ⟨by have := hk.1; omega, by have := hk.2; omega⟩) ((f3.no_trans f4).ivFresh f5 (Nat.le_refl _))
theorem k_spec_StepOf {S S' : Nat → Prop} {h : Heap} {g w : Sl} {xss : List (List Int)} {rs : List Int} (G : RdR S h g xss) (H : RdI S' h w rs) (p : Int) (K : Value → Heap → Prop) (HK : ∀ t h', OwI h' (Iv h.size h'.size) t (runOfP xss rs p 1).1.1 → Fr No h h' → K (.tuple #[.agg #[t.v, VI (runOfP xss rs p 1).1.2], VB (runOfP xss rs p 1).2]) h') : callM Tryd.prog 37 #[.agg #[g.v], .agg #[w.v, VI p]] h K := by
  refine v37 g w p h K fun b1 b2 b3 h3 hb1 hb2 hb3 f3 hL3 => ?_
  have f3 := f3.in_nil
  have l3 : b3 < h3.size := hL3.head.lt
  have z3 := f3.size
  refine k_spec_waGood (G.no f3) (H.no f3) p _ fun h4 f4 => ⟨_, rfl, hL3.of_no f4, fun e h5 f5 hL5 => ?_, fun e => ?_⟩
  · have e2 : runOfP xss rs p 1 = (([], 0), false) := by unfold runOfP; rw [if_neg (by rw [not_t e]; simp)]
    have f5 := f5.inIv (lo := h.size) (hi := h3.size) ⟨⟨hb3, l3⟩, trivial⟩
    have := HK nilSl h5 (by rw [e2]; exact Ow.nil _ _ _ _) ((f3.no_trans f4).ivFresh f5 (Nat.le_refl _))
    rw [e2] at this
    exact this
  have e := not_f e
  have f04 := f3.no_trans f4
  have e2 : runOfP xss rs p 1 = match stepP xss (rs, p) with
    | none => (([], 0), false)
    | some s => (s, true) := by
    unfold runOfP
    rw [if_pos (by rw [e]; rfl)]
    show (match runT xss (fun (_ : Unit) _ _ => ()) 1 () (rs, p) with
      | none => (([], 0), false)
      | some (_, s) => (s, true)) = _
    rw [runT]
    cases stepP xss (rs, p) with
    | none => rfl
    | some s => rfl
  refine k_waStep (s := (rs, p)) (G.no f04) (H.no f04) (wok_of e) _ (fun hs h6 f6 => ⟨w, p, false, rfl, (hL3.of_no f4).of_no f6, fun _ b4 h9 hb4 f9 hL9 => ?_, fun e => by simp at e⟩) fun s' hs t h6 o6 f6 => ⟨t, s'.2, true, rfl, (hL3.of_no f4).of_no f6, fun e => by simp at e, fun _ b4 h9 hb4 f9 hL9 => ?_⟩
  · have f9 := f9.inIv (lo := h.size) (hi := h3.size) ⟨⟨hb3, l3⟩, trivial⟩
    rw [hs] at e2
    have := HK nilSl h9 (by rw [e2]; exact Ow.nil _ _ _ _) ((f04.no_trans f6).ivFresh f9 (Nat.le_refl _))
    rw [e2] at this
    exact this
  · have f9 := f9.inIv (lo := h.size) (hi := h3.size) ⟨⟨hb3, l3⟩, trivial⟩
    rw [hs] at e2
    have z4 := f4.size
    have z9 := f9.size
    have := HK t h9 (by rw [e2]; exact (Ow.iv o6 f9 (.inr (by omega))).mono fun k _ hk => ⟨by have := hk.1; omega, by have := hk.2; omega⟩) ((f04.no_trans f6).ivFresh f9 (Nat.le_refl _))
    rw [e2] at this
    exact this
structure Rn where
  s : St
  ps : List Int
  vs : List Int
  us : List (List Int)
def bump (l : List Int) (i : Nat) : List Int := l.set i (l.getD i 0 + 1)
def goP (g : List (List Int)) : Nat → Rn → Option Rn
  | 0, r => some r
  | n + 1, r => match stepP g r.s with
    | none => none
    | some s' => goP g n ⟨s', r.ps ++ [s'.2], bump r.vs s'.2.toNat, r.us.set r.s.2.toNat (bump (r.us.getD r.s.2.toNat []) (s'.1.getD r.s.2.toNat 0).toNat)⟩
def zerosR (g : List (List Int)) : List (List Int) := g.map fun l => List.replicate l.length 0
def go0 (g : List (List Int)) (s : St) : Rn := ⟨s, [s.2], List.replicate g.length 0, zerosR g⟩
structure RnOK (g : List (List Int)) (m : Nat) (r : Rn) : Prop where
  w : WOK g r.s
  ps : r.ps.length = m + 1
  vs : r.vs.length = g.length
  us : r.us.length = g.length
  row : ∀ i (h : i < r.us.length) (h' : i < g.length), r.us[i].length = g[i].length
  vb : ∀ x, x ∈ r.vs → 0 ≤ x ∧ x ≤ m
  ub : ∀ l, l ∈ r.us → ∀ x, x ∈ l → 0 ≤ x ∧ x ≤ m
theorem bump_length (l : List Int) (i : Nat) : (bump l i).length = l.length := by simp [bump]
theorem bump_mem {l : List Int} {i m : Nat} (h : ∀ x, x ∈ l → 0 ≤ x ∧ x ≤ (m : Int)) : ∀ x, x ∈ bump l i → 0 ≤ x ∧ x ≤ ((m + 1 : Nat) : Int) := by
  intro x hx
  unfold bump at hx
  rcases List.mem_or_eq_of_mem_set hx with hx | rfl
  · have := h x hx; omega
  · by_cases hi : i < l.length
    · rw [getD_getI hi]
      have := h _ (List.getElem_mem hi)
      omega
    · rw [show l.getD i 0 = 0 by simp [List.getD, List.getElem?_eq_none (by omega : l.length ≤ i)]]
      omega
theorem RnOK.step {g : List (List Int)} {m : Nat} {r : Rn} (R : RnOK g m r) {s' : St} (hs : stepP g r.s = some s') : RnOK g (m + 1) ⟨s', r.ps ++ [s'.2], bump r.vs s'.2.toNat, r.us.set r.s.2.toNat (bump (r.us.getD r.s.2.toNat []) (s'.1.getD r.s.2.toNat 0).toNat)⟩ := by
  have hp : r.s.2.toNat < r.us.length := by rw [R.us]; have := R.w.hi; have := R.w.lo; omega
  refine ⟨R.w.step hs, by simp [R.ps], by simp [bump_length, R.vs], by simp [R.us], fun i a b => ?_, bump_mem R.vb, fun l hl => ?_⟩
  · simp only [List.length_set] at a
    simp only [List.getElem_set]
    split
    · rename_i e
      subst e
      rw [bump_length, getD_get hp]
      exact R.row _ a b
    · exact R.row i a b
  · rcases List.mem_or_eq_of_mem_set hl with hl | rfl
    · exact fun x hx => by have := R.ub l hl x hx; omega
    · rw [getD_get hp]
      exact bump_mem (R.ub _ (List.getElem_mem hp))
theorem go0_ok {g : List (List Int)} {s : St} (W : WOK g s) : RnOK g 0 (go0 g s) := by
  refine ⟨W, rfl, by simp [go0], by simp [go0, zerosR], fun i a b => by simp [go0, zerosR], fun x hx => ?_, fun l hl x hx => ?_⟩
  · simp only [go0, List.mem_replicate] at hx
    omega
  · simp only [go0, zerosR, List.mem_map] at hl
    obtain ⟨l', _, rfl⟩ := hl
    simp only [List.mem_replicate] at hx
    omega
theorem k_waGo {S S' : Nat → Prop} {h : Heap} {g w : Sl} {xss : List (List Int)} {rs : List Int} (G : RdR S h g xss) (H : RdI S' h w rs) (p n : Int) (W : WOK xss (rs, p)) (hn0 : 0 ≤ n) (hn1 : n ≤ 2000) (K : Value → Heap → Prop)
    (HN : goP xss n.toNat (go0 xss (rs, p)) = none → ∀ h', Fr No h h' → K (.tuple #[.agg #[nilSl.v, VI 0, nilSl.v, nilSl.v, nilSl.v], VB false]) h')
    (HS : ∀ r, goP xss n.toNat (go0 xss (rs, p)) = some r → RnOK xss n.toNat r → ∀ e ps vs us h', RdI (fun _ => True) h' e r.s.1 → RdI (fun k => h.size ≤ k) h' ps r.ps → RdI (fun k => h.size ≤ k) h' vs r.vs → RdR (fun k => h.size ≤ k) h' us r.us → Fr No h h' → K (.tuple #[.agg #[e.v, VI r.s.2, ps.v, vs.v, us.v], VB true]) h') :
    callM Tryd.prog 74 #[.agg #[g.v], .agg #[w.v, VI p], VI n] h K := by
  refine v74 g w p n h K fun b1 b2 b3 h3 hb1 hb2 hb3 f3 hL3 => ?_
  have f3 := f3.in_nil
  have l3 : b3 < h3.size := hL3.head.lt
  have l2 : b2 < h3.size := hL3.tail.head.lt
  have l1 : b1 < h3.size := hL3.tail.tail.head.lt
  have z3 := f3.size
  have hgl := graph_len W.graph
  have hgt := graph_tot W.graph
  have lit : ∀ {h1 : Heap} {K : Value → Heap → Prop}, (∀ t h2, OwI h2 (Iv h1.size h2.size) t [p] → Fr No h1 h2 → K t.v h2) → eop Tryd.prog (Instr.buildSlice tIs 1 #[(0, VI p)]) h1 K := fun HK => eop_lit rIs (fun k => _ ≤ k) (fun _ h => h) 1 (by omega) [VI p] rfl rfl fun t h2 n2 c2 o2 f2 m2 _ => HK t h2 (Ow.toIv o2) f2
  have mk : ∀ {h1 : Heap} {K : Value → Heap → Prop}, (∀ t h2, OwI h2 (Iv h1.size h2.size) t (List.replicate xss.length 0) → Fr No h1 h2 → K t.v h2) → eop Tryd.prog (Instr.makeSlice tIs (VI (g.n : Int)) (VI (g.n : Int))) h1 K := fun HK => eop_make rIs (fun k => _ ≤ k) (fun _ h => h) .i64 .i64 g.n g.n (Nat.le_refl _) (by rw [G.len]; omega) fun t h2 n2 c2 o2 f2 m2 _ => HK t h2 (Ow.toIv (by
    have e : (List.replicate g.n [VI 0]).flatten = (List.replicate xss.length (0 : Int)).map VI := by rw [G.len]; simp [List.flatten_replicate_singleton]
    rw [e] at o2; exact o2)) f2
  refine ⟨fun b x1 x2 x3 x4 x5 h' => x1 = w ∧ x2 = p ∧ x5 = nilSl ∧ ∃ i1 j1 i2 j2, OwI h' (Iv i1 j1) x3 [p] ∧ OwI h' (Iv i2 j2) x4 (List.replicate xss.length 0) ∧ (j1 ≤ i2 ∨ j2 ≤ i1) ∧ (b < i1 ∨ j1 ≤ b) ∧ (b < i2 ∨ j2 ≤ b) ∧ h3.size ≤ i1 ∧ h3.size ≤ i2 ∧ h3.size ≤ b ∧ j1 ≤ h'.size ∧ j2 ≤ h'.size ∧ Fr No h3 h', ⟨?_, ?_, ?_⟩, ?_⟩
  · refine lit fun t h4 o4 f4 => ⟨t, rfl, hL3.of_no f4, ?_⟩
    have z4 := f4.size
    have hL4 := hL3.of_no f4
    refine ⟨mk fun u h5 o5 f5 => ⟨u, rfl, hL4.of_no f5, fun b5 h6 hb5 f6 hL6 h7 f7 hL7 => ?_⟩, fun b6 h8 hb6 f8 hL8 => mk fun u h9 o9 f9 => ⟨u, rfl, hL8.of_no f9, fun h10 f10 hL10 => ?_⟩⟩
    · have f6 := f6.in_nil
      have z5 := f5.size
      have z6 := f6.size
      have lb := hL6.head.lt
      have f7 := f7.inIv (lo := h5.size) (hi := h6.size) ⟨⟨hb5, lb⟩, trivial⟩
      have z7 := f7.size
      exact ⟨rfl, rfl, rfl, h3.size, h4.size, h4.size, h5.size, ((Ow.no o4 f5).no f6).iv f7 (by omega), (Ow.no o5 f6).iv f7 (by omega), by omega, by omega, by omega, by omega, by omega, by omega, by omega, by omega, ((f4.no_trans f5).no_trans f6).ivFresh f7 (by omega)⟩
    · have f8 := f8.in_nil
      have z8 := f8.size
      have z9 := f9.size
      have lb := hL8.head.lt
      have f10 := f10.inIv (lo := h4.size) (hi := h8.size) ⟨⟨hb6, lb⟩, trivial⟩
      have z10 := f10.size
      exact ⟨rfl, rfl, rfl, h3.size, h4.size, h8.size, h9.size, ((Ow.no o4 f8).no f9).iv f10 (by omega), Ow.iv o9 f10 (by omega), by omega, by omega, by omega, by omega, by omega, by omega, by omega, by omega, ((f4.no_trans f8).no_trans f9).ivFresh f10 (by omega)⟩
  · refine mk fun u h4 o4 f4 => ⟨u, rfl, hL3.of_no f4, ?_⟩
    have z4 := f4.size
    have hL4 := hL3.of_no f4
    refine ⟨lit fun t h5 o5 f5 => ⟨t, rfl, hL4.of_no f5, fun b5 h6 hb5 f6 hL6 h7 f7 hL7 => ?_⟩, fun b6 h8 hb6 f8 hL8 => lit fun t h9 o9 f9 => ⟨t, rfl, hL8.of_no f9, fun h10 f10 hL10 => ?_⟩⟩
    · have f6 := f6.in_nil
      have z5 := f5.size
      have z6 := f6.size
      have lb := hL6.head.lt
      have f7 := f7.inIv (lo := h5.size) (hi := h6.size) ⟨⟨hb5, lb⟩, trivial⟩
      have z7 := f7.size
      exact ⟨rfl, rfl, rfl, h4.size, h5.size, h3.size, h4.size, (Ow.no o5 f6).iv f7 (by omega), ((Ow.no o4 f5).no f6).iv f7 (by omega), by omega, by omega, by omega, by omega, by omega, by omega, by omega, by omega, ((f4.no_trans f5).no_trans f6).ivFresh f7 (by omega)⟩
    · have f8 := f8.in_nil
      have z8 := f8.size
      have z9 := f9.size
      have lb := hL8.head.lt
      have f10 := f10.inIv (lo := h4.size) (hi := h8.size) ⟨⟨hb6, lb⟩, trivial⟩
      have z10 := f10.size
      exact ⟨rfl, rfl, rfl, h8.size, h9.size, h3.size, h4.size, Ow.iv o9 f10 (by omega), ((Ow.no o4 f8).no f9).iv f10 (by omega), by omega, by omega, by omega, by omega, by omega, by omega, by omega, by omega, ((f4.no_trans f8).no_trans f9).ivFresh f10 (by omega)⟩
  · intro b9 h4 hb9 f4 hL4
    have f4 := f4.in_nil
    have z4 := f4.size
    have lb := hL4.head.lt
    refine ⟨lit fun t h5 o5 f5 => ⟨t, rfl, hL4.of_no f5, mk fun u h6 o6 f6 => ⟨u, rfl, (hL4.of_no f5).of_no f6, fun h7 f7 hL7 => ?_⟩⟩, mk fun u h5 o5 f5 => ⟨u, rfl, hL4.of_no f5, lit fun t h6 o6 f6 => ⟨t, rfl, (hL4.of_no f5).of_no f6, fun h7 f7 hL7 => ?_⟩⟩⟩
    · have z5 := f5.size
      have z6 := f6.size
      have f7 := f7.inIv (lo := h3.size) (hi := h4.size) ⟨⟨hb9, lb⟩, trivial⟩
      have z7 := f7.size
      exact ⟨rfl, rfl, rfl, h4.size, h5.size, h5.size, h6.size, (Ow.no o5 f6).iv f7 (by omega), Ow.iv o6 f7 (by omega), by omega, by omega, by omega, by omega, by omega, by omega, by omega, by omega, ((f4.no_trans f5).no_trans f6).ivFresh f7 (by omega)⟩
    · have z5 := f5.size
      have z6 := f6.size
      have f7 := f7.inIv (lo := h3.size) (hi := h4.size) ⟨⟨hb9, lb⟩, trivial⟩
      have z7 := f7.size
      exact ⟨rfl, rfl, rfl, h5.size, h6.size, h4.size, h5.size, Ow.iv o6 f7 (by omega), (Ow.no o5 f6).iv f7 (by omega), by omega, by omega, by omega, by omega, by omega, by omega, by omega, by omega, ((f4.no_trans f5).no_trans f6).ivFresh f7 (by omega)⟩
  rintro b4 x1 x2 ps0 vs0 x5 h25 ⟨rfl, rfl, rfl, i1, j1, i2, j2, o1, o2, d12, d1, d2, e1, e2, e3, e4, e5, f25⟩ hL25
  have f025 := f3.no_trans f25
  have z25 := f25.size
  have lb4 : b4 < h25.size := hL25.head.lt
  refine ⟨fun m i x6 x7 x8 x9 x10 h' => x6 = x1 ∧ x7 = x2 ∧ x8 = ps0 ∧ x9 = vs0 ∧ 0 ≤ i ∧ i + m = (xss.length : Int) ∧ OwX h' (fun k => h25.size ≤ k) x10 (zerosR (xss.take i.toNat)) ∧ Fr (Iv b4 (b4 + 1)) h25 h' ∧ h25.size ≤ h'.size, ⟨xss.length, rfl, rfl, rfl, rfl, by omega, by omega, by simpa [zerosR] using OwR.nil _ _ _ _, Fr.refl _ _, Nat.le_refl _⟩, ?_⟩
  rintro m i x6 x7 x8 x9 x10 h26 ⟨rfl, rfl, rfl, rfl, i0, im, o10, f26, z26⟩ hL26
  have f026 : Fr No h h26 := f025.ivFresh f26 (by omega)
  refine ⟨fun e => ?_, fun e => ?_⟩
  · have hi := G.lt e
    obtain ⟨si, c1, c2⟩ := (G.no f026).get i0 hi
    have hsi := (graph_mem W.graph (List.getElem_mem (show i.toNat < xss.length by omega))).1
    refine ⟨(G.no f026).inb i0 hi, si, c1, ?_⟩
    refine eop_make rIs (fun k => h26.size ≤ k) (fun _ h => h) .i64 .i64 si.n si.n (Nat.le_refl _) (by have := c2.len; omega) fun t h27 n27 c27 o27 f27 m27 _ => ⟨t, rfl, hL26.of_no f27, ?_⟩
    have o27 : OwI h27 (fun k => h26.size ≤ k) t (List.replicate (xss[i.toNat]'(by omega)).length 0) := by
      have e : (List.replicate si.n [VI 0]).flatten = (List.replicate (xss[i.toNat]'(by omega)).length (0 : Int)).map VI := by rw [c2.len]; simp [List.flatten_replicate_singleton]
      rw [e] at o27; exact o27
    refine eop_lit rIss (fun k => h27.size ≤ k) (fun _ h => h) 1 (by omega) [t.v] rfl rfl fun u h28 n28 c28 o28 f28 m28 _ => ⟨u, rfl, (hL26.of_no f27).of_no f28, ?_⟩
    have z27 := f27.size
    have z28 := f28.size
    refine OwR.snoc rIss ((o10.toIv.no f27).no f28) (F' := fun k => h25.size ≤ k) (fun k _ hk => hk.1) (fun k hk => by omega) ((Ow.no o27 f28).mono fun k _ hk => Nat.le_trans z26 hk) (fun k hk hk2 => by have := (o27.foot hk).1; have := hk2.2; omega) o28.rd (by simp [zerosR]; omega) fun y h29 o29 f29 => ⟨y, rfl, ((hL26.of_no f27).of_no f28).iv f29 ⟨.inl lb4, .inl (by omega), .inl (by omega), .inl (by omega), trivial⟩, fun h30 f30 hL30 => ?_⟩
    have z29 := f29.size
    have f30 := f30.inIv (lo := b4) (hi := b4 + 1) ⟨⟨Nat.le_refl _, Nat.lt_succ_self _⟩, trivial⟩
    have z30 := f30.size
    rw [G.succ i0 hi]
    refine ⟨m - 1, by omega, rfl, rfl, rfl, rfl, by omega, by omega, ?_, ?_, by omega⟩
    · rw [take_snoc xss i0 hi]
      have : zerosR (xss.take i.toNat ++ [xss[i.toNat]'(by omega)]) = zerosR (xss.take i.toNat) ++ [List.replicate (xss[i.toNat]'(by omega)).length 0] := by simp only [zerosR, List.map_append, List.map_cons, List.map_nil]
      rw [this]
      exact (o29.toIv.iv f30 (.inr (by omega))).mono fun k _ hk => hk.1
    · exact (f26.fresh2 (f27.no_trans f28).of_no (fun k (hk : Iv h25.size h26.size k) => hk.1)).fresh2 f29 (fun k hk => hk.1) |>.trans f30
  have hi := G.ge e
  rw [List.take_of_length_le (by omega)] at o10
  -- the rounds
  generalize hR : goP xss n.toNat (go0 xss (rs, x7)) = R at HN HS
  have o1' := Ow.iv o1 f26 (by omega)
  have o2' := Ow.iv o2 f26 (by omega)
  refine ⟨fun q n2 x11 x12 x13 x14 x15 h' => ∃ (r : Rn) (m : Nat) (E : Nat → Prop), RnOK xss m r ∧ n2 = q ∧ m + q = n.toNat ∧ x12 = r.s.2 ∧ x14 = x9 ∧ x15 = x10 ∧ RdI E h' x11 r.s.1 ∧ (∀ k, E k → (k < h.size ∨ h26.size ≤ k) ∧ k < h'.size ∧ ¬ x13.own k) ∧ OwI h' (fun k => h3.size ≤ k) x13 r.ps ∧ (∀ k, x13.own k → Iv i1 j1 k ∨ h26.size ≤ k) ∧ OwI h' (Iv i2 j2) x9 r.vs ∧ OwX h' (Iv h25.size h26.size) x10 r.us ∧ Fr No h h' ∧ h26.size ≤ h'.size ∧ R = goP xss q r,
    ⟨n.toNat, go0 xss (rs, x7), 0, fun k => k < h.size, go0_ok W, by omega, by omega, rfl, rfl, rfl, H.low.no f026, fun k hk => ⟨.inl hk, by have := f026.size; omega, fun hk2 => by have := (o1'.foot hk2).1.1; omega⟩, o1'.mono fun k _ hk => by have := hk.1; omega, fun k hk => .inl (o1'.foot hk).1, o2', o10.toIv, f026, Nat.le_refl _, hR.symm⟩, ?_⟩
  rintro q n2 x11 x12 x13 x14 x15 h31 ⟨r, m', E, ok, rfl, hm, rfl, rfl, rfl, rE, hE, oP, hP, oV, oU, f31, z31, eq⟩ hL31
  refine ⟨fun e => ?_, fun e => ?_⟩
  · simp only [decide_eq_true_eq] at e
    obtain ⟨q, rfl⟩ : ∃ q', q = q' + 1 := ⟨q - 1, by omega⟩
    rw [goP] at eq
    refine k_waStep (G.no f31) rE ok.w _ (fun hs h32 f32 => ⟨x11, r.s.2, false, rfl, hL31.of_no f32, fun _ b10 h35 hb10 f35 hL35 => ?_, fun e => by simp at e⟩) fun s' hs t h32 o32 f32 => ⟨t, s'.2, true, rfl, hL31.of_no f32, fun e => by simp at e, fun _ => ?_⟩
    · rw [hs] at eq
      have f35 := f35.inIv (lo := h.size) (hi := h3.size) ⟨⟨hb3, l3⟩, trivial⟩
      exact HN eq h35 ((f31.no_trans f32).ivFresh f35 (Nat.le_refl _))
    · rw [hs] at eq
      simp only at eq
      have z32 := f32.size
      have hp : r.s.2.toNat < r.us.length := by rw [ok.us]; have := ok.w.hi; have := ok.w.lo; omega
      have hlo := ok.w.lo
      have W' := ok.w.step hs
      have hlo' := W'.lo
      have hhi' := W'.hi
      have hgl' := ok.us
      have oP2 := Ow.no oP f32
      have oV2 := Ow.no oV f32
      have oU2 := oU.no f32
      have f032 := f31.no_trans f32
      refine ⟨oU2.rd.inb hlo (by omega), fun b10 h34 hb10 f34 hL34 => ?_⟩
      have f34 := f34.in_nil
      have z34 := f34.size
      have oP4 := Ow.no oP2 f34
      have oV4 := Ow.no oV2 f34
      have oU4 := oU2.no f34
      have oT4 := Ow.no o32 f34
      obtain ⟨si, d1', d2', d3'⟩ := oU4.inner hlo (by omega)
      have hrow : (r.us[r.s.2.toNat]'hp).length = (xss[r.s.2.toNat]'(by omega)).length := ok.row _ hp (by omega)
      have hsl : si.n = (r.us[r.s.2.toNat]'hp).length := RdI.len d2'.rdF
      have hTl : r.s.2.toNat < s'.1.length := by rw [W'.len]; omega
      have hrot := W'.rot _ hTl (by omega)
      have hne : (xss[r.s.2.toNat]'(by omega)).length ≠ 0 := fun h0 => by rw [stepP_none ok.w (by omega) h0] at hs; cases hs
      have hr0 : 0 ≤ s'.1[r.s.2.toNat]'hTl := hrot.1
      have hr1 : s'.1[r.s.2.toNat]'hTl < ((r.us[r.s.2.toNat]'hp).length : Int) := by omega
      have RT : RdI (Iv h31.size h32.size) h34 t s'.1 := oT4.rdI
      have RU : RdI (Iv h25.size h26.size) h34 si (r.us[r.s.2.toNat]'hp) := d2'.rdI
      have hub := ok.ub _ (List.getElem_mem hp) _ (List.getElem_mem (show (s'.1[r.s.2.toNat]'hTl).toNat < (r.us[r.s.2.toNat]'hp).length by omega))
      have hwu : w64 ((r.us[r.s.2.toNat]'hp)[(s'.1[r.s.2.toNat]'hTl).toNat]'(by omega) + 1) = (r.us[r.s.2.toNat]'hp)[(s'.1[r.s.2.toNat]'hTl).toNat]'(by omega) + 1 := w64_eq _ (by omega) (by omega)
      refine ⟨si, d1', RT.inb hlo (by omega), _, RT.get hlo (by omega), RU.inb hr0 hr1, _, RU.get hr0 hr1, RU.inb hr0 hr1, ?_⟩
      rw [hwu]
      obtain ⟨w1, w2, w3⟩ := d2'.store1 hr0 (by omega) (VI ((r.us[r.s.2.toNat]'hp)[(s'.1[r.s.2.toNat]'hTl).toNat]'(by omega) + 1))
      have w3' : Fr (Iv h25.size h26.size) h34 _ := w3.mono fun k _ hk => (d2'.foot hk).1
      have hL36 := hL34.iv w3' ⟨.inr (by omega), .inl lb4, .inl (by omega), .inl (by omega), .inl (by omega), trivial⟩
      refine ⟨w1, hL36, fun h36 e36 _ => ?_⟩
      subst e36
      rw [← List.map_set] at w2
      have oU6 := d3' _ _ w3 w2
      have oV6 := Ow.iv oV4 w3' (by omega)
      have hvl := ok.vs
      have hV : s'.2.toNat < r.vs.length := by omega
      have RV : RdI (Iv i2 j2) _ x14 r.vs := oV6.rdI
      have hvb := ok.vb _ (List.getElem_mem hV)
      have hwv : w64 ((r.vs[s'.2.toNat]'hV) + 1) = (r.vs[s'.2.toNat]'hV) + 1 := w64_eq _ (by omega) (by omega)
      refine ⟨RV.inb hlo' (by omega), _, RV.get hlo' (by omega), RV.inb hlo' (by omega), ?_⟩
      rw [hwv]
      have hvn : x14.n = r.vs.length := RdI.len RV
      obtain ⟨y1, y2, y3⟩ := oV6.store1 hlo' (by omega) (VI ((r.vs[s'.2.toNat]'hV) + 1))
      have y3' : Fr (Iv i2 j2) _ _ := y3.mono fun k _ hk => (oV6.foot hk).1
      have hL37 := hL36.iv y3' ⟨.inr (by omega), (by have h1 := d2; exact h1.elim .inl .inr), .inl (by omega), .inl (by omega), .inl (by omega), trivial⟩
      refine ⟨y1, hL37, fun h37 e37 _ => ?_⟩
      subst e37
      rw [← List.map_set] at y2
      have z36 := w3'.size
      have z37 := y3'.size
      have offU : ∀ k, x13.own k → ¬ Iv h25.size h26.size k := fun k hk hk2 => by
        have h1 := hk2.1
        have h2 := hk2.2
        rcases hP k hk with h3 | h3
        · have := h3.2; omega
        · omega
      have offV : ∀ k, x13.own k → ¬ Iv i2 j2 k := fun k hk hk2 => by
        have h1 := hk2.1
        have h2 := hk2.2
        rcases hP k hk with h3 | h3
        · have := h3.1; have := h3.2; omega
        · omega
      have oP7 := (Ow.fr oP4 w3' offU).fr y3' offV
      refine eop_lit rIs (fun k => _ ≤ k) (fun _ h => h) 1 (by omega) [VI s'.2] rfl rfl fun v h38 n38 c38 o38 f38 m38 _ => ⟨v, rfl, hL37.of_no f38, ?_⟩
      have z38 := f38.size
      have o38 : RdI v.own h38 v [s'.2] := o38.rd
      have hpn : x13.n = r.ps.length := RdI.len oP7.rdF
      have hvn1 : v.n = 1 := o38.len
      refine eop_append rIs (oP7.no f38) (fun k hk => by omega) o38 (plainVI _) (by have := ok.ps; omega) fun y h39 n39 o39 f39 d39 => ?_
      have z39 := f39.size
      have hL39 := (hL37.of_no f38).fr f39 fun p hp hk => by
        have h1 := (oP.foot hk).2
        have h2 := (oP.foot hk).1
        simp only [List.mem_cons, List.not_mem_nil, or_false] at hp
        rcases hp with rfl | rfl | rfl | rfl | rfl <;> simp only at h1 h2 hk
        · omega
        · rcases hP _ hk with h3 | h3
          · have := h3.1; have := h3.2; omega
          · omega
        · omega
        · omega
        · omega
      refine ⟨y, rfl, hL39, fun h41 f41 hL41 => ?_⟩
      have f41 := f41.inIv (lo := b4) (hi := b4 + 1) ⟨⟨Nat.le_refl _, Nat.lt_succ_self _⟩, ⟨Nat.le_refl _, Nat.lt_succ_self _⟩, trivial⟩
      have z41 := f41.size
      have hb4 : ∀ k, x13.own k → ¬ k = b4 := fun k hk e => by
        subst e
        rcases hP _ hk with h3 | h3
        · have := h3.1; have := h3.2; omega
        · omega
      rw [w64_eq _ (by omega) (by omega)]
      rw [← List.map_append] at o39
      have eV : r.vs.set s'.2.toNat ((r.vs[s'.2.toNat]'hV) + 1) = bump r.vs s'.2.toNat := by unfold bump; rw [getD_getI hV]
      have eU : (r.us[r.s.2.toNat]'hp).set (s'.1[r.s.2.toNat]'hTl).toNat ((r.us[r.s.2.toNat]'hp)[(s'.1[r.s.2.toNat]'hTl).toNat]'(by omega) + 1) = bump (r.us.getD r.s.2.toNat []) (s'.1.getD r.s.2.toNat 0).toNat := by unfold bump; rw [getD_get hp, getD_getI hTl, getD_getI (by omega)]
      rw [eV] at y2
      rw [eU] at oU6
      have offE : ∀ k, x13.own k → ¬ Iv h31.size h32.size k := fun k hk hk2 => by have := (oP.foot hk).2; have := hk2.1; omega
      refine ⟨q, by omega, _, m' + 1, Iv h31.size h32.size, ok.step hs, by omega, by omega, rfl, rfl, rfl, ?_, fun k hk => ⟨.inr (by have := hk.1; omega), by have := hk.2; omega, fun hk2 => ?_⟩, ?_, fun k hk => ?_, ?_, ?_, ?_, by omega, eq⟩
      · exact (((((oT4.iv w3' (by omega)).iv y3' (by omega)).no f38).fr f39 fun k hk hk2 => offE k hk2 (oT4.foot hk).1).iv f41 (by omega)).rdI
      · rcases d39 k hk2 with h1 | h1
        · exact offE k h1 hk
        · have := hk.2; omega
      · exact Ow.fr o39 f41 fun k hk hk2 => by
          have h1 := hk2.1
          have h2 := hk2.2
          rcases d39 k hk with h3 | h3
          · exact hb4 k h3 (by omega)
          · omega
      · rcases d39 k hk with h1 | h1
        · exact hP k h1
        · exact .inr (by omega)
      · exact ((Ow.no y2 f38).fr f39 fun k hk hk2 => offV k hk2 (y2.foot hk).1).iv f41 (by omega)
      · exact (((oU6.iv y3' (by omega)).no f38).fr f39 fun k _ hk hk2 => offU k hk2 hk).iv f41 (by omega)
      · exact ((((((f032.no_trans f34).ivFresh w3' (by omega)).ivFresh y3' (by omega)).no_trans f38).fresh f39 fun k hk => by have := (oP.foot hk).1; omega).ivFresh f41 (by omega))
  · simp only [decide_eq_false_iff_not] at e
    obtain rfl : q = 0 := by omega
    rw [goP] at eq
    intro h42 f42 hL42
    have f42 := f42.inIv (lo := h.size) (hi := h3.size) ⟨⟨hb3, l3⟩, trivial⟩
    have em : m' = n.toNat := by omega
    subst em
    refine HS r eq ok x11 x13 x14 x15 h42 ?_ ?_ ?_ ?_ (f31.ivFresh f42 (Nat.le_refl _))
    · exact (RdI.fr rE f42 fun k hk hk2 => by have := (hE k hk).1; have := hk2.1; have := hk2.2; omega).mono fun _ _ => trivial
    · exact (RdI.fr oP.rd f42 fun k hk hk2 => by
        have h1 := hk2.1
        have h2 := hk2.2
        rcases hP k hk with h3 | h3
        · have := h3.1; omega
        · omega).mono fun k hk => by have := (oP.foot hk).1; omega
    · exact (RdI.iv oV.rdI f42 (by omega)).mono fun k hk => by have := hk.1; omega
    · exact (RdR.iv oU.rdI f42 (by omega)).mono fun k hk => by have := hk.1; omega
def nextR (r : Rn) (s' : St) : Rn := ⟨s', r.ps ++ [s'.2], bump r.vs s'.2.toNat, r.us.set r.s.2.toNat (bump (r.us.getD r.s.2.toNat []) (s'.1.getD r.s.2.toNat 0).toNat)⟩
theorem go_run {τ : Type} (g : List (List Int)) (f : Rn → τ) (upd : τ → St → St → τ) (hf : ∀ r s', f (nextR r s') = upd (f r) r.s s') : ∀ (n : Nat) (r : Rn), runT g upd n (f r) r.s = (goP g n r).map fun r => (f r, r.s)
  | 0, r => by simp [runT, goP]
  | n + 1, r => by
    rw [runT, goP]
    cases stepP g r.s with
    | none => rfl
    | some s' =>
      show runT g upd n (upd (f r) r.s s') s' = (goP g n (nextR r s')).map _
      rw [← go_run g f upd hf n (nextR r s'), hf]
      rfl
theorem k_spec_RunOf {S S' : Nat → Prop} {h : Heap} {g w : Sl} {xss : List (List Int)} {rs : List Int} (G : RdR S h g xss) (H : RdI S' h w rs) (p n : Int) (K : Value → Heap → Prop) (HK : ∀ t h', OwI h' (Iv h.size h'.size) t (runOfP xss rs p n).1.1 → Fr No h h' → K (.tuple #[.agg #[t.v, VI (runOfP xss rs p n).1.2], VB (runOfP xss rs p n).2]) h') : callM Tryd.prog 27 #[.agg #[g.v], .agg #[w.v, VI p], VI n] h K := by
  refine v27 g w p n h K fun b1 b2 b3 h3 hb1 hb2 hb3 f3 hL3 => ?_
  have f3 := f3.in_nil
  have l3 : b3 < h3.size := hL3.head.lt
  have z3 := f3.size
  refine k_waAsked (G.no f3) (H.no f3) p n _ fun h4 f4 => ⟨_, rfl, hL3.of_no f4, fun e h5 f5 hL5 => ?_, fun e => ?_⟩
  · have e2 : runOfP xss rs p n = (([], 0), false) := by unfold runOfP; rw [if_neg (by rw [not_t e]; simp)]
    have f5 := f5.inIv (lo := h.size) (hi := h3.size) ⟨⟨hb3, l3⟩, trivial⟩
    have := HK nilSl h5 (by rw [e2]; exact Ow.nil _ _ _ _) ((f3.no_trans f4).ivFresh f5 (Nat.le_refl _))
    rw [e2] at this
    exact this
  have e := not_f e
  have e2 : runOfP xss rs p n = match runT xss (fun (_ : Unit) _ _ => ()) n.toNat () (rs, p) with
    | none => (([], 0), false)
    | some (_, s) => (s, true) := by unfold runOfP; exact if_pos e
  rw [show runT xss (fun (_ : Unit) _ _ => ()) n.toNat () (rs, p) = _ from go_run xss (fun _ => ()) (fun (_ : Unit) _ _ => ()) (fun _ _ => rfl) n.toNat (go0 xss (rs, p))] at e2
  rw [Bool.and_eq_true, inR_iff] at e
  have W := wok_of e.1
  have hgl := graph_len W.graph
  have f04 := f3.no_trans f4
  have hL4 := hL3.of_no f4
  refine k_waGo (G.no f04) (H.no f04) p n W e.2.1 e.2.2 _ (fun hr h6 f6 => ⟨nilSl, 0, nilSl, nilSl, nilSl, false, rfl, hL4.of_no f6, fun _ b4 h9 hb4 f9 hL9 => ?_, fun e => by simp at e⟩) fun r hr ok e' ps vs us h6 r1 r2 r3 r4 f6 => ⟨e', r.s.2, ps, vs, us, true, rfl, hL4.of_no f6, fun e => by simp at e, fun _ b4 h8 hb4 f8 hL8 => ?_⟩
  · have f9 := f9.inIv (lo := h.size) (hi := h3.size) ⟨⟨hb3, l3⟩, trivial⟩
    rw [hr] at e2
    have := HK nilSl h9 (by rw [e2]; exact Ow.nil _ _ _ _) ((f04.no_trans f6).ivFresh f9 (Nat.le_refl _))
    rw [e2] at this
    exact this
  · have f8 := f8.in_nil
    rw [hr] at e2
    have f08 := (f04.no_trans f6).no_trans f8
    refine k_l1Own (r1.no f8) (by have := ok.w.len; omega) _ fun t h10 o10 f10 => ⟨t, rfl, hL8.of_no f10, fun h11 f11 hL11 => ?_⟩
    have f11 := f11.inIv (lo := h.size) (hi := h3.size) ⟨⟨hb3, l3⟩, trivial⟩
    have z4 := f4.size
    have z6 := f6.size
    have z8 := f8.size
    have z10 := f10.size
    have z11 := f11.size
    have := HK t h11 (by rw [e2]; exact (Ow.iv o10 f11 (.inr (by omega))).ivs (by omega) (by omega)) ((f08.no_trans f10).ivFresh f11 (Nat.le_refl _))
    rw [e2] at this
    exact this
def passU (t : List Int) (_ s' : St) : List Int := t ++ [s'.2]
def passP (g : List (List Int)) (rs : List Int) (p n : Int) : List Int × Bool :=
  if walkB g rs p && inR 0 200 n then match runT g passU n.toNat [p] (rs, p) with
    | none => ([], false)
    | some (t, _) => (t, true)
  else ([], false)
def visU (t : List Int) (_ s' : St) : List Int := bump t s'.2.toNat
def visP (g : List (List Int)) (rs : List Int) (p n : Int) : List Int × Bool :=
  if walkB g rs p && inR 0 2000 n then match runT g visU n.toNat (List.replicate g.length 0) (rs, p) with
    | none => ([], false)
    | some (t, _) => (t, true)
  else ([], false)
def useU (t : List (List Int)) (s s' : St) : List (List Int) := t.set s.2.toNat (bump (t.getD s.2.toNat []) (s'.1.getD s.2.toNat 0).toNat)
def useP (g : List (List Int)) (rs : List Int) (p n : Int) : List (List Int) × Bool :=
  if walkB g rs p && inR 0 2000 n then match runT g useU n.toNat (zerosR g) (rs, p) with
    | none => ([], false)
    | some (t, _) => (t, true)
  else ([], false)
theorem k_spec_PlacesPassed {S S' : Nat → Prop} {h : Heap} {g w : Sl} {xss : List (List Int)} {rs : List Int} (G : RdR S h g xss) (H : RdI S' h w rs) (p n : Int) (K : Value → Heap → Prop) (HK : ∀ t h', RdI (Iv h.size h'.size) h' t (passP xss rs p n).1 → Fr No h h' → K (.tuple #[t.v, VB (passP xss rs p n).2]) h') : callM Tryd.prog 29 #[.agg #[g.v], .agg #[w.v, VI p], VI n] h K := by
  refine v29 g w p n h K fun b1 b2 h2 hb1 hb2 f2 hL2 => ?_
  have f2 := f2.in_nil
  have no : passP xss rs p n = ([], false) → ∀ h', Fr No h h' → K (.tuple #[nilSl.v, VB false]) h' := fun e h' f => by
    have := HK nilSl h' (by rw [e]; exact RdV.nil _ _ _) f
    rw [e] at this
    exact this
  refine k_spec_waGood (G.no f2) (H.no f2) p _ fun h3 f3 => ⟨_, rfl, hL2.of_no f3, fun e => ?_, fun e => ?_⟩
  · exact no (by unfold passP; rw [if_neg (by rw [not_t e]; simp)]) _ (f2.no_trans f3)
  have e := not_f e
  have f03 := f2.no_trans f3
  have hL3 := hL2.of_no f3
  refine k_spec_l1In _ _ _ _ _ ⟨_, rfl, hL3, fun e1 => ?_, fun e1 => ?_⟩
  · have e1 : inR 0 200 n = false := not_t e1
    exact no (by unfold passP; rw [if_neg (by rw [e, e1]; simp)]) _ f03
  have e1 : inR 0 200 n = true := not_f e1
  have e2 : passP xss rs p n = match runT xss passU n.toNat [p] (rs, p) with
    | none => ([], false)
    | some (t, _) => (t, true) := by unfold passP; exact if_pos (by rw [e, e1]; rfl)
  rw [show runT xss passU n.toNat [p] (rs, p) = _ from go_run xss Rn.ps passU (fun _ _ => rfl) n.toNat (go0 xss (rs, p))] at e2
  rw [inR_iff] at e1
  have z03 := f03.size
  refine k_waGo (G.no f03) (H.no f03) p n (wok_of e) e1.1 (by omega) _ (fun hr h6 f6 => ⟨nilSl, 0, nilSl, nilSl, nilSl, false, rfl, hL3.of_no f6, fun b3 h7 hb3 f7 hL7 => ?_⟩) fun r hr ok e' ps vs us h6 r1 r2 r3 r4 f6 => ⟨e', r.s.2, ps, vs, us, true, rfl, hL3.of_no f6, fun b3 h7 hb3 f7 hL7 => ?_⟩
  · rw [hr] at e2
    exact no e2 _ ((f03.no_trans f6).no_trans f7.in_nil)
  · rw [hr] at e2
    have z7 := f7.in_nil.size
    have := HK ps h7 (by rw [e2]; exact ((RdV.lt r2).mono fun k hk => ⟨by have := hk.1; omega, by have := hk.2; omega⟩ : RdI _ h6 ps _).no f7.in_nil) ((f03.no_trans f6).no_trans f7.in_nil)
    rw [e2] at this
    exact this
theorem k_spec_VisitsOf {S S' : Nat → Prop} {h : Heap} {g w : Sl} {xss : List (List Int)} {rs : List Int} (G : RdR S h g xss) (H : RdI S' h w rs) (p n : Int) (K : Value → Heap → Prop) (HK : ∀ t h', RdI (Iv h.size h'.size) h' t (visP xss rs p n).1 → Fr No h h' → K (.tuple #[t.v, VB (visP xss rs p n).2]) h') : callM Tryd.prog 25 #[.agg #[g.v], .agg #[w.v, VI p], VI n] h K := by
  refine v25 g w p n h K fun b1 b2 h2 hb1 hb2 f2 hL2 => ?_
  have f2 := f2.in_nil
  have no : visP xss rs p n = ([], false) → ∀ h', Fr No h h' → K (.tuple #[nilSl.v, VB false]) h' := fun e h' f => by
    have := HK nilSl h' (by rw [e]; exact RdV.nil _ _ _) f
    rw [e] at this
    exact this
  refine k_waAsked (G.no f2) (H.no f2) p n _ fun h3 f3 => ⟨_, rfl, hL2.of_no f3, fun e => ?_, fun e => ?_⟩
  · exact no (by unfold visP; rw [if_neg (by rw [not_t e]; simp)]) _ (f2.no_trans f3)
  have e := not_f e
  have f03 := f2.no_trans f3
  have hL3 := hL2.of_no f3
  have e2 : visP xss rs p n = match runT xss visU n.toNat (List.replicate xss.length 0) (rs, p) with
    | none => ([], false)
    | some (t, _) => (t, true) := by unfold visP; exact if_pos e
  rw [show runT xss visU n.toNat (List.replicate xss.length 0) (rs, p) = _ from go_run xss Rn.vs visU (fun _ _ => rfl) n.toNat (go0 xss (rs, p))] at e2
  rw [Bool.and_eq_true, inR_iff] at e
  have z03 := f03.size
  refine k_waGo (G.no f03) (H.no f03) p n (wok_of e.1) e.2.1 e.2.2 _ (fun hr h6 f6 => ⟨nilSl, 0, nilSl, nilSl, nilSl, false, rfl, hL3.of_no f6, fun b3 h7 hb3 f7 hL7 => ?_⟩) fun r hr ok e' ps vs us h6 r1 r2 r3 r4 f6 => ⟨e', r.s.2, ps, vs, us, true, rfl, hL3.of_no f6, fun b3 h7 hb3 f7 hL7 => ?_⟩
  · rw [hr] at e2
    exact no e2 _ ((f03.no_trans f6).no_trans f7.in_nil)
  · rw [hr] at e2
    have z7 := f7.in_nil.size
    have := HK vs h7 (by rw [e2]; exact ((RdV.lt r3).mono fun k hk => ⟨by have := hk.1; omega, by have := hk.2; omega⟩ : RdI _ h6 vs _).no f7.in_nil) ((f03.no_trans f6).no_trans f7.in_nil)
    rw [e2] at this
    exact this
theorem eop_putI {L : List (Nat × List Value)} {F : Nat → Prop} {h : Heap} {o : Sl} {xs : List Int} {x : Int} (O : OwI h F o xs) (hF : ∀ k, h.size ≤ k → F k) (hL : Vars h L) (hoff : ∀ p, p ∈ L → ¬ F p.1) (hb : xs.length ≤ 1000000) (R : Sl → Heap → Prop) (HR : ∀ t h', OwI h' F t (xs ++ [x]) → Fr F h h' → Vars h' L → R t h') : eop Tryd.prog (Instr.buildSlice tIs 1 #[(0, VI x)]) h fun rv h1 => ∃ t : Sl, rv = t.v ∧ Vars h1 L ∧ eop Tryd.prog (appS tIs tIs tIs o.v t.v) h1 fun rv2 h2 => ∃ t2 : Sl, rv2 = t2.v ∧ Vars h2 L ∧ R t2 h2 := by
  refine eop_lit rIs (fun k => h.size ≤ k) (fun _ h => h) 1 (by omega) [VI x] rfl rfl fun t h1 n1 c1 o1 f1 m1 _ => ⟨t, rfl, hL.of_no f1, ?_⟩
  have z1 := f1.size
  have O1 : OwI h1 F o xs := Ow.no O f1
  have on := O1.rd.len
  have tn := o1.rd.len
  simp only [List.length_map, Nat.mul_one, List.length_cons, List.length_nil] at on tn
  refine eop_append rIs O1 (fun k hk => hF k (by omega)) o1.rd (plainVI [x]) (by omega) fun s' h2 n2 o2 f2 d2 => ?_
  have g2 : Fr F h1 h2 := f2.mono fun k _ hk => (O1.foot hk).1
  have V2 : Vars h2 L := (hL.of_no f1).fr g2 hoff
  exact ⟨s', rfl, V2, HR s' h2 (by rw [OwI, List.map_append]; exact o2) (f1.of_no.trans g2) V2⟩
section
variable {g : List (List Int)} {rs : List Int} {a : Int}
end
def itf (f : Int → Int) (p : Int) : Nat → Int
  | 0 => p
  | k + 1 => f (itf f p k)
def ret (f : Int → Int) (p : Int) : Nat → Nat → Option Nat
  | 0, _ => none
  | r + 1, m => if itf f p m = p then some m else ret f p r (m + 1)
def sx (g S : List (List Int)) (p : Int) : Int := if p < 0 then -1 else if (S.getD p.toNat []).length = 0 then -1 else (g.getD p.toNat []).getD ((S.getD p.toNat []).getD 0 0).toNat 0
structure SOK (g S : List (List Int)) : Prop where
  graph : graphB g = true
  len : S.length = g.length
  short : ∀ i (h : i < S.length), S[i].length ≤ 12
  ent : ∀ i (h : i < S.length) (h' : i < g.length), ∀ x, x ∈ S[i] → 0 ≤ x ∧ x < (g[i].length : Int)
section
variable {g S : List (List Int)}
theorem sx_neg {p : Int} (h : p < 0) : sx g S p = -1 := by unfold sx; rw [if_pos h]
theorem its_neg {p : Int} {k : Nat} (h : itf (sx g S) p k < 0) : ∀ m, itf (sx g S) p (k + m) < 0
  | 0 => h
  | m + 1 => by
    rw [← Nat.add_assoc, itf, sx_neg (its_neg h m)]
    omega
end
def popP (S : List (List Int)) (c : List Int) : List (List Int) := (List.range S.length).map fun (i : Nat) => if (i : Int) ∈ c then (S.getD i []).drop 1 else S.getD i []
theorem popP_length (S : List (List Int)) (c : List Int) : (popP S c).length = S.length := by simp [popP]
theorem popP_get (S : List (List Int)) (c : List Int) (i : Nat) (h : i < (popP S c).length) (h' : i < S.length) : (popP S c)[i] = if (i : Int) ∈ c then (S[i]).drop 1 else S[i] := by
  simp only [popP, List.getElem_map, List.getElem_range]
  rw [getD_get h']
theorem SOK.pop {g S : List (List Int)} (W : SOK g S) (c : List Int) : SOK g (popP S c) := by
  refine ⟨W.graph, by rw [popP_length]; exact W.len, fun i h => ?_, fun i h h' x hx => ?_⟩
  · have h2 : i < S.length := by rw [popP_length] at h; exact h
    have := W.short i h2
    rw [popP_get S c i h h2]
    split
    · simp; omega
    · exact this
  · have h2 : i < S.length := by rw [popP_length] at h; exact h
    rw [popP_get S c i h h2] at hx
    split at hx
    · exact W.ent i h2 h' x (List.mem_of_mem_drop hx)
    · exact W.ent i h2 h' x hx
theorem SOK.tot {g S : List (List Int)} (W : SOK g S) : S.length + totR S ≤ 104 := by
  have h1 := graph_len W.graph
  have h2 := W.len
  have := tot_short (n := 12) (xss := S) (m := 8) (by omega) fun l hl => by
    obtain ⟨i, hi, rfl⟩ := List.getElem_of_mem hl
    exact W.short i hi
  omega
theorem pop_and {P : Program} {t : TypeId} {K : Value → Prop} (k : IntKind) (a b : Int) (H : K (.int k (bits .and k a b))) : pop P (binA .and t (.int k a) (.int k b)) K :=
  .mk' (fun w => by simp [binA, eqGuard, binOp, intBits_and, bind, Sem.bind, pure, Sem.run]) H
theorem pop_shr {P : Program} {t : TypeId} {K : Value → Prop} (k : IntKind) (a b : Int) (hb : 0 ≤ b) (H : K (.int k (a.fdiv (2 ^ (min b.toNat k.bits))))) : pop P (binA .shr t (.int k a) (.int k b)) K :=
  .mk' (fun w => by simp [binA, eqGuard, binOp, Op.shift, show ¬ b < 0 by omega, bind, Sem.bind, pure, Sem.run]) H
theorem rop_conv {P : Program} {src dst : TypeId} {k k' : IntKind} (hs : P.underlying src = some (.int k)) (hd : P.underlying dst = some (.int k')) {h : Heap} {K : Value → Prop} (n : Int) (H : K (.int k' (k'.wrap n))) : rop P (convert src dst (.int k n)) h K := by
  have hk : P.intKind dst = k' := by simp [Program.intKind, hd]
  refine ⟨_, fun w hw => run_convert_int w src dst k n (by simp [hs]) (by rw [hk]; exact hd), ?_⟩
  rw [hk]
  exact H
def negs (l : List Int) : Nat := (l.filter fun x => decide (x < 0)).length
theorem negs_set {l : List Int} {i : Nat} {v : Int} (h : i < l.length) (h1 : l[i] < 0) (h2 : 0 ≤ v) : negs (l.set i v) + 1 = negs l := by
  induction l generalizing i with
  | nil => simp at h
  | cons x xs ih =>
    cases i with
    | zero =>
      simp only [List.getElem_cons_zero] at h1
      simp only [negs, List.set_cons_zero, List.filter_cons, show ¬ v < 0 by omega, h1, decide_true, decide_false, if_true, Bool.false_eq_true, if_false, List.length_cons]
    | succ i =>
      have := ih (by simpa using h) (by simpa using h1)
      simp only [negs, List.set_cons_succ, List.filter_cons] at this ⊢
      split <;> (try simp only [List.length_cons]) <;> simp_all <;> omega
structure BOK (n : Nat) (far : List Int) : Prop where
  len : far.length = n
  lo : ∀ v, v ∈ far → -1 ≤ v
  hi : ∀ v, v ∈ far → v + negs far ≤ n
theorem BOK.step {n : Nat} {far : List Int} (B : BOK n far) {x q : Int} (hx : x.toNat < n) (hq : q.toNat < n) (hn : far.getD q.toNat 0 < 0) : BOK n (far.set q.toNat (far.getD x.toNat 0 + 1)) ∧ negs (far.set q.toNat (far.getD x.toNat 0 + 1)) + 1 = negs far := by
  have hl := B.len
  rw [getD_getI (by omega)] at hn
  rw [getD_getI (show x.toNat < far.length by omega)]
  have h1 := B.lo _ (List.getElem_mem (show x.toNat < far.length by omega))
  have h2 := B.hi _ (List.getElem_mem (show x.toNat < far.length by omega))
  have h3 := negs_set (show q.toNat < far.length by omega) hn (v := far[x.toNat]'(by omega) + 1) (by omega)
  refine ⟨⟨by simp [hl], fun v hv => ?_, fun v hv => ?_⟩, h3⟩
  · rcases List.mem_or_eq_of_mem_set hv with hv | rfl
    · exact B.lo v hv
    · omega
  · rcases List.mem_or_eq_of_mem_set hv with hv | rfl
    · have := B.hi v hv; omega
    · omega
abbrev Lo := List Int × List Int
def mvP (g : List (List Int)) (l : Lo) (p : Int) : Lo := match stepP g (l.1, p) with
  | none => l
  | some s => (s.1, (l.2.set p.toNat (l.2.getD p.toNat 0 - 1)).set s.2.toNat ((l.2.set p.toNat (l.2.getD p.toNat 0 - 1)).getD s.2.toNat 0 + 1))
theorem WOK.to {g : List (List Int)} {rs : List Int} {a p : Int} (W : WOK g (rs, a)) (h0 : 0 ≤ p) (h1 : p < (g.length : Int)) : WOK g (rs, p) := ⟨W.graph, W.len, h0, h1, W.rot⟩
def Cyc (g S : List (List Int)) (c : List Int) : Prop := ∃ (p : Int) (k : Nat), 1 ≤ k ∧ 0 ≤ p ∧ p < (g.length : Int) ∧ itf (sx g S) p k = p ∧ ∀ x, x ∈ c ↔ ∃ j, j < k ∧ itf (sx g S) p j = x
def Red (g : List (List Int)) : Nat → List (List Int) → List (List Int) → Prop
  | 0, S, E => S = E
  | n + 1, S, E => ∃ c, Cyc g S c ∧ Red g n (popP S c) E
theorem popP_congr {S : List (List Int)} {c d : List Int} (h : ∀ x, x ∈ c ↔ x ∈ d) : popP S c = popP S d := by
  unfold popP
  refine List.map_congr_left fun i _ => ?_
  by_cases hc : (i : Int) ∈ c
  · rw [if_pos hc, if_pos ((h _).1 hc)]
  · rw [if_neg hc, if_neg fun hd => hc ((h _).2 hd)]
theorem popP_getD (S : List (List Int)) (c : List Int) (i : Nat) : (popP S c).getD i [] = if (i : Int) ∈ c then (S.getD i []).drop 1 else S.getD i [] := by
  by_cases hi : i < S.length
  · have h1 : i < (popP S c).length := by rw [popP_length]; exact hi
    rw [List.getD_eq_getElem?_getD, List.getElem?_eq_getElem h1, Option.getD_some, popP_get S c i h1 hi, List.getD_eq_getElem?_getD, List.getElem?_eq_getElem hi, Option.getD_some]
  · have h1 : ¬ i < (popP S c).length := by rw [popP_length]; exact hi
    have e1 : (popP S c).getD i [] = [] := by rw [List.getD_eq_getElem?_getD, List.getElem?_eq_none (by omega)]; rfl
    have e2 : S.getD i [] = [] := by rw [List.getD_eq_getElem?_getD, List.getElem?_eq_none (by omega)]; rfl
    rw [e1, e2]
    split <;> rfl
theorem popP_comm (S : List (List Int)) (c d : List Int) : popP (popP S c) d = popP (popP S d) c := by
  apply List.ext_getElem (by simp only [popP_length])
  intro i h1 h2
  have h0 : i < S.length := by rw [popP_length, popP_length] at h1; exact h1
  have a1 : i < (popP S c).length := by rw [popP_length]; exact h0
  have a2 : i < (popP S d).length := by rw [popP_length]; exact h0
  rw [popP_get _ d i h1 a1, popP_get _ c i h2 a2, popP_get _ c i a1 h0, popP_get _ d i a2 h0]
  split <;> split <;> rfl
theorem itf_add (f : Int → Int) (p : Int) (i : Nat) : ∀ m, itf f p (i + m) = itf f (itf f p i) m
  | 0 => rfl
  | m + 1 => by rw [← Nat.add_assoc, itf, itf, itf_add f p i m]
theorem itf_mod {f : Int → Int} {p : Int} {k : Nat} (h : itf f p k = p) (hk : 1 ≤ k) : ∀ m, ∃ j, j < k ∧ itf f p j = itf f p m
  | 0 => ⟨0, by omega, rfl⟩
  | m + 1 => by
    obtain ⟨j, h1, h2⟩ := itf_mod h hk m
    by_cases e : j + 1 = k
    · exact ⟨0, by omega, by
        show p = f (itf f p m)
        rw [← h2]
        show p = itf f p (j + 1)
        rw [e, h]⟩
    · exact ⟨j + 1, by omega, by rw [itf, itf, h2]⟩
theorem Cyc.cl {g S : List (List Int)} {c : List Int} (h : Cyc g S c) {x : Int} (hx : x ∈ c) : ∀ m, itf (sx g S) x m ∈ c := by
  obtain ⟨p, k, hk, h0, h1, e, hm⟩ := h
  intro m
  obtain ⟨j, h2, h3⟩ := (hm x).1 hx
  obtain ⟨j', h4, h5⟩ := itf_mod e hk (j + m)
  rw [itf_add, h3] at h5
  exact (hm _).2 ⟨j', h4, h5⟩
theorem Cyc.to {g S : List (List Int)} {c : List Int} (h : Cyc g S c) {x y : Int} (hx : x ∈ c) (hy : y ∈ c) : ∃ m, itf (sx g S) x m = y := by
  obtain ⟨p, k, hk, h0, h1, e, hm⟩ := h
  obtain ⟨i, h2, h3⟩ := (hm x).1 hx
  obtain ⟨j, h4, h5⟩ := (hm y).1 hy
  refine ⟨k - i + j, ?_⟩
  rw [← h3, ← itf_add, show i + (k - i + j) = k + j by omega, itf_add, e, h5]
theorem Cyc.same {g S : List (List Int)} {c d : List Int} (h : Cyc g S c) (h' : Cyc g S d) {x : Int} (hc : x ∈ c) (hd : x ∈ d) : ∀ y, y ∈ c ↔ y ∈ d := by
  intro y
  constructor
  · intro hy
    obtain ⟨m, e⟩ := h.to hc hy
    rw [← e]; exact h'.cl hd m
  · intro hy
    obtain ⟨m, e⟩ := h'.to hd hy
    rw [← e]; exact h.cl hc m
theorem Cyc.ne {g S : List (List Int)} {c : List Int} (h : Cyc g S c) : ∃ p, p ∈ c := by
  obtain ⟨p, k, hk, h0, h1, e, hm⟩ := h
  exact ⟨p, (hm p).2 ⟨0, by omega, rfl⟩⟩
theorem Cyc.pos {g S : List (List Int)} {c : List Int} (h : Cyc g S c) {x : Int} (hx : x ∈ c) : 0 ≤ x := by
  obtain ⟨p, k, hk, h0, h1, e, hm⟩ := h
  obtain ⟨j, h2, h3⟩ := (hm x).1 hx
  refine Int.not_lt.1 fun hn => ?_
  have := its_neg (g := g) (S := S) (p := p) (k := j) (by rw [h3]; exact hn) (k - j)
  rw [show j + (k - j) = k by omega, e] at this
  omega
theorem sx_pop {g S : List (List Int)} {c : List Int} {x : Int} (h : x ∉ c) : sx g (popP S c) x = sx g S x := by
  unfold sx
  split
  · rfl
  · rename_i h0
    have e : ((x.toNat : Nat) : Int) = x := by omega
    rw [popP_getD, e, if_neg h]
theorem Cyc.keep {g S : List (List Int)} {c d : List Int} (h : Cyc g S d) (hd : ∀ x, x ∈ c → x ∉ d) : Cyc g (popP S c) d := by
  have hh := h
  obtain ⟨p, k, hk, h0, h1, e, hm⟩ := h
  have hp : p ∈ d := (hm p).2 ⟨0, by omega, rfl⟩
  have key : ∀ j, itf (sx g (popP S c)) p j = itf (sx g S) p j := by
    intro j
    induction j with
    | zero => rfl
    | succ j ih =>
      rw [itf, itf, ih]
      exact sx_pop fun hc => hd _ hc (hh.cl hp j)
  exact ⟨p, k, hk, h0, h1, by rw [key]; exact e, fun x => by rw [hm x]; simp only [key]⟩
theorem Red.after {g E : List (List Int)} (hE : ∀ c, ¬ Cyc g E c) : ∀ {n : Nat} {S : List (List Int)} {d : List Int}, Red g n S E → Cyc g S d → ∃ m, n = m + 1 ∧ Red g m (popP S d) E
  | 0, S, d, h, hd => by rw [show S = E from h] at hd; exact absurd hd (hE d)
  | n + 1, S, d, h, hd => by
    obtain ⟨c, hc, hr⟩ := h
    by_cases hx : ∃ x, x ∈ c ∧ x ∈ d
    · obtain ⟨x, h1, h2⟩ := hx
      exact ⟨n, rfl, by rw [← popP_congr (hc.same hd h1 h2)]; exact hr⟩
    · have hx1 : ∀ x, x ∈ c → x ∉ d := fun x h1 h2 => hx ⟨x, h1, h2⟩
      obtain ⟨m, e, hr'⟩ := Red.after hE hr (hd.keep hx1)
      subst e
      refine ⟨m + 1, rfl, c, hc.keep fun x h1 h2 => hx ⟨x, h2, h1⟩, ?_⟩
      rw [popP_comm]; exact hr'
theorem Red.same {g E : List (List Int)} (hE : ∀ c, ¬ Cyc g E c) : ∀ {n m : Nat} {S E' : List (List Int)}, Red g n S E → Red g m S E' → (∀ c, ¬ Cyc g E' c) → n = m ∧ E = E'
  | n, 0, S, E', h, h', hE' => by
    rw [show S = E' from h'] at h
    match n, h with
    | 0, h => exact ⟨rfl, (show E' = E from h).symm⟩
    | n + 1, h => obtain ⟨c, hc, _⟩ := h; exact absurd hc (hE' c)
  | n, m + 1, S, E', h, h', hE' => by
    obtain ⟨c, hc, hr⟩ := h'
    obtain ⟨k, e, hk⟩ := h.after hE hc
    obtain ⟨a, b⟩ := Red.same hE hk hr hE'
    exact ⟨by omega, b⟩
theorem Red.rest {g E : List (List Int)} : ∀ {n : Nat} {S : List (List Int)}, Red g n S E → E.length = S.length ∧ ∀ i, ∃ k, E.getD i [] = (S.getD i []).drop k
  | 0, S, h => by rw [← show S = E from h]; exact ⟨rfl, fun i => ⟨0, rfl⟩⟩
  | n + 1, S, h => by
    obtain ⟨c, hc, hr⟩ := h
    obtain ⟨a, b⟩ := Red.rest hr
    refine ⟨by rw [a, popP_length], fun i => ?_⟩
    obtain ⟨k, hk⟩ := b i
    rw [popP_getD] at hk
    split at hk
    · exact ⟨1 + k, by rw [hk, List.drop_drop]⟩
    · exact ⟨k, hk⟩
def lenS (S : List (List Int)) : Nat → Nat
  | 0 => 0
  | i + 1 => lenS S i + (S.getD i []).length
def InOK (g S : List (List Int)) (sink : Int) (I : List Bool) : Prop := ∀ x : Int, 0 ≤ x → I.getD x.toNat false = true → ∃ m, itf (sx g S) x m = sink ∧ ∀ j, j ≤ m → 0 ≤ itf (sx g S) x j ∧ I.getD (itf (sx g S) x j).toNat false = true
structure WayOK (g S : List (List Int)) (I : List Bool) (way : List Int) : Prop where
  ne : way ≠ []
  nodup : way.Nodup
  rng : ∀ x, x ∈ way → 0 ≤ x ∧ x < (g.length : Int)
  chain : ∀ i, i + 1 < way.length → sx g S (way.getD i 0) = way.getD (i + 1) 0
  out : ∀ i, i + 1 < way.length → I.getD (way.getD i 0).toNat false = false
theorem InOK.keep {g S : List (List Int)} {sink : Int} {I : List Bool} (h : InOK g S sink I) {c : List Int} (hc : ∀ x, x ∈ c → I.getD x.toNat false = false) : InOK g (popP S c) sink I := by
  intro x hx hI
  obtain ⟨m, e, hj⟩ := h x hx hI
  have key : ∀ j, j ≤ m → itf (sx g (popP S c)) x j = itf (sx g S) x j := by
    intro j
    induction j with
    | zero => intro _; rfl
    | succ j ih =>
      intro hle
      rw [itf, itf, ih (by omega)]
      refine sx_pop fun hm => ?_
      have a := hc _ hm
      have b := (hj j (by omega)).2
      rw [a] at b; cases b
  exact ⟨m, by rw [key m (Nat.le_refl _)]; exact e, fun j hle => by rw [key j hle]; exact hj j hle⟩
theorem WayOK.itf {g S : List (List Int)} {I : List Bool} {way : List Int} (h : WayOK g S I way) {i : Nat} : ∀ j, i + j < way.length → itf (sx g S) (way.getD i 0) j = way.getD (i + j) 0
  | 0, _ => rfl
  | j + 1, hl => by
    rw [Go.Proofs.YtkjkfjkapbpgiaaDoor.itf, h.itf j (by omega), h.chain (i + j) (by omega)]
    rfl
def dstP (g : List (List Int)) (rs : List Int) (q j : Nat) : Int := (g.getD q []).getD (((rs.getD q 0).toNat + j) % (g.getD q []).length) 0
def arrP (g : List (List Int)) (rs : List Int) (q : Nat) : Nat → Nat → Nat
  | 0, _ => 0
  | k + 1, p => arrP g rs q k p + (if dstP g rs q (k + 1) = (p : Int) then 1 else 0)
def sumN (f : Nat → Nat) : Nat → Nat
  | 0 => 0
  | n + 1 => sumN f n + f n
theorem sumN_congr {f f' : Nat → Nat} : ∀ {n : Nat}, (∀ i, i < n → f i = f' i) → sumN f n = sumN f' n
  | 0, _ => rfl
  | n + 1, h => by rw [sumN, sumN, sumN_congr fun i hi => h i (by omega), h n (by omega)]
theorem sumN_one {f f' : Nat → Nat} {p d : Nat} (hp : f' p = f p + d) (ho : ∀ i, i ≠ p → f' i = f i) : ∀ n, sumN f' n = sumN f n + (if p < n then d else 0)
  | 0 => by simp [sumN]
  | n + 1 => by
    rw [sumN, sumN, sumN_one hp ho n]
    by_cases e : n = p
    · subst e; rw [hp, if_neg (by omega), if_pos (by omega)]; omega
    · rw [ho n e]
      by_cases h : p < n
      · rw [if_pos h, if_pos (by omega)]; omega
      · rw [if_neg h, if_neg (by omega), Nat.add_zero, Nat.add_zero]
def upC (c : Nat → Nat) (p : Nat) : Nat → Nat := fun i => if i = p then c i + 1 else c i
theorem upC_at (c : Nat → Nat) (p : Nat) : upC c p p = c p + 1 := by unfold upC; rw [if_pos rfl]
theorem upC_ne (c : Nat → Nat) {p i : Nat} (h : i ≠ p) : upC c p i = c i := by unfold upC; rw [if_neg h]
structure IsSt (g : List (List Int)) (l : Lo) (c : Nat → Nat) (l' : Lo) : Prop where
  len1 : l'.1.length = g.length
  len2 : l'.2.length = g.length
  ex : ∀ q, q < g.length → (g.getD q []).length = 0 → c q = 0
  rot : ∀ q, q < g.length → l'.1.getD q 0 = if (g.getD q []).length = 0 then l.1.getD q 0 else ((((l.1.getD q 0).toNat + c q) % (g.getD q []).length : Nat) : Int)
  chip : ∀ p, p < g.length → l'.2.getD p 0 = l.2.getD p 0 - (c p : Int) + ((sumN (fun q => arrP g l.1 q (c q) p) g.length : Nat) : Int)
theorem ext_getD {xs ys : List Int} (hl : xs.length = ys.length) (h : ∀ i, i < xs.length → xs.getD i 0 = ys.getD i 0) : xs = ys := by
  apply List.ext_getElem hl
  intro i h1 h2
  have := h i h1
  rwa [getD_getI h1, getD_getI h2] at this
theorem IsSt.same {g : List (List Int)} {l a b : Lo} {c c' : Nat → Nat} (A : IsSt g l c a) (B : IsSt g l c' b) (hc : ∀ i, i < g.length → c i = c' i) : a = b := by
  have h1 : a.1 = b.1 := ext_getD (by rw [A.len1, B.len1]) fun i hi => by
    rw [A.len1] at hi
    rw [A.rot i hi, B.rot i hi, hc i hi]
  have h2 : a.2 = b.2 := ext_getD (by rw [A.len2, B.len2]) fun i hi => by
    rw [A.len2] at hi
    rw [A.chip i hi, B.chip i hi, hc i hi, sumN_congr (f := fun q => arrP g l.1 q (c q) i) (f' := fun q => arrP g l.1 q (c' q) i) fun q hq => by simp only [hc q hq]]
  exact Prod.ext h1 h2
theorem getD_set {xs : List Int} {i j : Nat} {v : Int} (hi : i < xs.length) : (xs.set i v).getD j 0 = if j = i then v else xs.getD j 0 := by
  by_cases hj : j < xs.length
  · rw [getD_getI (by rw [List.length_set]; exact hj), List.getElem_set, getD_getI hj]
    by_cases e : i = j
    · rw [if_pos e, if_pos e.symm]
    · rw [if_neg e, if_neg fun h => e h.symm]
  · rw [if_neg (by omega), List.getD_eq_getElem?_getD, List.getElem?_eq_none (by rw [List.length_set]; omega), List.getD_eq_getElem?_getD, List.getElem?_eq_none (by omega)]
def Leg (g : List (List Int)) (sink : Int) : List Int → Lo → Lo → Prop
  | [], l, l' => l = l'
  | p :: w, l, l' => 0 ≤ p ∧ p < (g.length : Int) ∧ p ≠ sink ∧ 1 ≤ l.2.getD p.toNat 0 ∧ Leg g sink w (mvP g l p) l'
theorem Leg.append {g : List (List Int)} {sink : Int} : ∀ {w v : List Int} {l l' l'' : Lo}, Leg g sink w l l' → Leg g sink v l' l'' → Leg g sink (w ++ v) l l''
  | [], v, l, l', l'', h, h' => by rw [show l = l' from h]; exact h'
  | p :: w, v, l, l', l'', h, h' => ⟨h.1, h.2.1, h.2.2.1, h.2.2.2.1, h.2.2.2.2.append h'⟩
theorem Leg.rng {g : List (List Int)} {sink : Int} : ∀ {w : List Int} {l l' : Lo}, Leg g sink w l l' → ∀ p, p ∈ w → 0 ≤ p ∧ p < (g.length : Int)
  | q :: w, l, l', h, p, hp => by
    rcases List.mem_cons.1 hp with e | e
    · rw [e]; exact ⟨h.1, h.2.1⟩
    · exact h.2.2.2.2.rng p e
theorem Leg.off {g : List (List Int)} {sink : Int} : ∀ {w : List Int} {l l' : Lo}, Leg g sink w l l' → ∀ p, p ∈ w → p ≠ sink
  | q :: w, l, l', h, p, hp => by
    rcases List.mem_cons.1 hp with e | e
    · rw [e]; exact h.2.2.1
    · exact h.2.2.2.2.off p e
def CntOK (n : Nat) (c : Nat → Nat) (xs : List Int) : Prop := xs.length = n ∧ ∀ i, i < n → xs.getD i 0 = (c i : Int)
theorem CntOK.bump {n : Nat} {c : Nat → Nat} {xs : List Int} (h : CntOK n c xs) {p : Nat} (hp : p < n) : CntOK n (upC c p) (Go.Proofs.YtkjkfjkapbpgiaaDoor.bump xs p) := by
  refine ⟨by rw [bump_length]; exact h.1, fun i hi => ?_⟩
  unfold Go.Proofs.YtkjkfjkapbpgiaaDoor.bump
  rw [getD_set (by rw [h.1]; exact hp)]
  by_cases e : i = p
  · subst e; rw [if_pos rfl, upC_at, h.2 i hi]; omega
  · rw [if_neg e, upC_ne c e, h.2 i hi]
theorem CntOK.same {n : Nat} {c d : Nat → Nat} {xs ys : List Int} (h : CntOK n c xs) (h' : CntOK n d ys) (hc : ∀ i, i < n → c i = d i) : xs = ys :=
  ext_getD (by rw [h.1, h'.1]) fun i hi => by
    rw [h.1] at hi
    rw [h.2 i hi, h'.2 i hi, hc i hi]
theorem CntOK.zero (n : Nat) : CntOK n (fun _ => 0) (List.replicate n 0) := ⟨by simp, fun i hi => by rw [getD_getI (by simpa using hi)]; simp⟩
def sq (g : List (List Int)) (s : St) : Nat → Option St
  | 0 => some s
  | n + 1 => (sq g s n).bind (stepP g)
theorem sq_succ' (g : List (List Int)) {s s' : St} (h : stepP g s = some s') : ∀ n, sq g s (n + 1) = sq g s' n
  | 0 => by rw [sq, sq]; exact h
  | n + 1 => by rw [sq, sq_succ' g h n, sq]
theorem sq_add (g : List (List Int)) (s : St) (a : Nat) : ∀ b, sq g s (a + b) = (sq g s a).bind fun t => sq g t b
  | 0 => by rw [Nat.add_zero]; cases sq g s a <;> rfl
  | b + 1 => by
    rw [← Nat.add_assoc, sq, sq_add g s a b]
    cases sq g s a <;> rfl
theorem sq_shift {g : List (List Int)} {s : St} {a b : Nat} (h : sq g s a = sq g s b) (k : Nat) : sq g s (a + k) = sq g s (b + k) := by
  rw [sq_add, sq_add, h]
theorem sq_none {g : List (List Int)} {s : St} {a : Nat} (h : sq g s a = none) (k : Nat) : sq g s (a + k) = none := by
  rw [sq_add, h]; rfl
structure Rho (g : List (List Int)) (s : St) (m n : Nat) : Prop where
  lt : m < n
  eq : sq g s m = sq g s n
  some : sq g s m ≠ none
  dis : ∀ i j, i < j → j < n → sq g s i ≠ sq g s j
theorem Rho.mul {g : List (List Int)} {s : St} {m n : Nat} (R : Rho g s m n) {a : Nat} (h : m ≤ a) : ∀ k, sq g s (a + k * (n - m)) = sq g s a
  | 0 => by rw [Nat.zero_mul, Nat.add_zero]
  | k + 1 => by
    have := sq_shift R.eq (a + k * (n - m) - m)
    have hlt := R.lt
    rw [show m + (a + k * (n - m) - m) = a + k * (n - m) by omega, R.mul h k] at this
    rw [this, Nat.succ_mul]
    congr 1; omega
theorem Rho.all {g : List (List Int)} {s : St} {m n : Nat} (R : Rho g s m n) (a : Nat) : sq g s a ≠ none := by
  intro h
  have h1 := sq_none h (m + a * (n - m))
  have hlt := R.lt
  have h2 := R.mul (a := m) (Nat.le_refl _) a
  have : a ≤ a * (n - m) := Nat.le_mul_of_pos_right _ (by omega)
  have h3 := sq_none h (m + a * (n - m) - a)
  rw [show a + (m + a * (n - m) - a) = m + a * (n - m) by omega, h2] at h3
  exact R.some h3
def idxL : List St → St → Option Nat
  | [], _ => none
  | x :: xs, s => if x = s then some 0 else (idxL xs s).map (· + 1)
theorem idxL_none : ∀ {hs : List St} {s : St}, idxL hs s = none → s ∉ hs
  | [], s, _ => by simp
  | x :: xs, s, h => by
    rw [idxL] at h
    split at h
    · cases h
    · rename_i e
      cases hm : idxL xs s with
      | none =>
        intro hx
        rcases List.mem_cons.1 hx with a | a
        · exact e a.symm
        · exact idxL_none hm a
      | some k => rw [hm] at h; simp at h
structure Hist (g : List (List Int)) (s0 : St) (n : Nat) (s : St) (hs : List St) : Prop where
  len : hs.length = n
  at_ : ∀ i, i < n → hs[i]? = sq g s0 i
  now : sq g s0 n = some s
  dis : ∀ i j, i < j → j < n → sq g s0 i ≠ sq g s0 j
theorem Hist.next {g : List (List Int)} {s0 s s' : St} {n : Nat} {hs : List St} (H : Hist g s0 n s hs) (h : idxL hs s = none) (hs' : stepP g s = some s') : Hist g s0 (n + 1) s' (hs ++ [s]) := by
  refine ⟨by rw [List.length_append, H.len]; rfl, fun i hi => ?_, by rw [sq, H.now]; exact hs', fun i j h1 h2 => ?_⟩
  · by_cases e : i = n
    · subst e
      rw [List.getElem?_append_right (by rw [H.len]; exact Nat.le_refl _), H.len, Nat.sub_self, H.now]; rfl
    · rw [List.getElem?_append_left (by rw [H.len]; omega)]
      exact H.at_ i (by omega)
  · by_cases e : j = n
    · subst e
      intro he
      rw [H.now, ← H.at_ i h1] at he
      exact idxL_none h (List.mem_of_getElem? he)
    · exact H.dis i j h1 (by omega)
end Go.Proofs.YtkjkfjkapbpgiaaDoor
