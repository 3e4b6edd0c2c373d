/-
  What each function that the law 'FnChipsInAnyOrder' comes to does: the contracts.
-/
import Derived.Test.YtbhnecochpehdaaChipsInAnyOrderU2
import Derived.Test.YtbhnecochpehdaaM4
set_option linter.unusedVariables false
set_option linter.unusedSimpArgs false
namespace Go.Proofs.Ytbhnecochpehdaa
open Go Go.Mx
@[reducible] def tI : TypeId := 3
@[reducible] def tIs : TypeId := 25
@[reducible] def tIss : TypeId := 22
theorem rIs : rowC Try.prog tIs = some (tI, 1, 8, [VI 0]) := by kernel_rfl
theorem rIss : rowC Try.prog tIss = some (tIs, 1, 24, [nilSl.v]) := by kernel_rfl
@[reducible] def OwI (h : Heap) (F : Nat → Prop) (s : Sl) (xs : List Int) : Prop := Ow h F tI 1 s (xs.map VI)
@[reducible] def OwX (h : Heap) (F : Nat → Prop) (s : Sl) (xss : List (List Int)) : Prop := OwR h F tIs tI s xss
theorem plainVI (xs : List Int) : (xs.map VI).all plainV = true := by simp [List.all_eq_true, plainV]

theorem k_bool {f : FuncId} {args : Array Value} {h : Heap} {v w : Value} (H : Ret Try.prog f args h v) (e : v = w) : Ret Try.prog f args h w := e ▸ H

theorem k_impl_in (n lo hi : Int) (h : Heap) (K : Value → Heap → Prop) (H : K (VB (decide (lo ≤ n) && decide (n ≤ hi))) h) : callM Try.prog 113 #[VI n, VI lo, VI hi] h K := by
  refine v113 n lo hi h K ⟨fun e => ?_, fun e => ?_⟩
  · rw [e, Bool.true_and] at H; exact H
  · rw [e, Bool.false_and] at H; exact H

theorem k_spec_l1In (n lo hi : Int) (h : Heap) (K : Value → Heap → Prop) (H : K (VB (decide (lo ≤ n) && decide (n ≤ hi))) h) : callM Try.prog 117 #[VI n, VI lo, VI hi] h K := by
  refine v117 n lo hi h K ⟨fun e => ?_, fun e => ?_⟩
  · rw [e, Bool.true_and] at H; exact H
  · rw [e, Bool.false_and] at H; exact H

def inR (lo hi x : Int) : Bool := decide (lo ≤ x) && decide (x ≤ hi)
def graphB (g : List (List Int)) : Bool := inR 1 8 g.length && g.all fun l => !decide (5 < (l.length : Int)) && l.all (inR 0 ((g.length : Int) - 1))
theorem not_t {b : Bool} (h : (!b) = true) : b = false := by simpa using h
theorem not_f {b : Bool} (h : (!b) = false) : b = true := by simpa using h

theorem k_spec_l1All {S : Nat → Prop} {h : Heap} {l : Sl} {xs : List Int} (H : RdI S h l xs) (lo hi_1 : Int) (K : Value → Heap → Prop) (HK : K (VB (xs.all (inR lo hi_1))) h) : callM Try.prog 104 #[l.v, VI lo, VI hi_1] h K := by
  refine v104 l lo hi_1 h K ?_
  refine ⟨fun n i h' => h' = h ∧ 0 ≤ i ∧ i + n = (xs.length : Int) ∧ xs.all (inR lo hi_1) = (xs.drop i.toNat).all (inR lo hi_1), ⟨xs.length, rfl, by omega, by omega, by simp⟩, ?_⟩
  rintro n i _ ⟨rfl, h0, h1, h2⟩ hL
  refine ⟨fun e => ?_, fun e => ?_⟩
  · have hi := H.lt e
    refine ⟨H.inb h0 hi, _, H.get h0 hi, ?_⟩
    rw [drop_cons xs h0 hi, List.all_cons] at h2
    refine k_spec_l1In _ _ _ _ _ ⟨_, rfl, hL, fun e2 => ?_, fun e2 => ?_⟩
    · have e3 : inR lo hi_1 (xs[i.toNat]'(by omega)) = false := not_t e2
      rw [h2, e3] at HK
      exact HK
    · have e3 : inR lo hi_1 (xs[i.toNat]'(by omega)) = true := not_f e2
      rw [e3, Bool.true_and] at h2
      rw [H.succ h0 hi]
      exact ⟨n - 1, by omega, rfl, by omega, by omega, h2⟩
  · have hi := H.ge e
    rw [List.drop_of_length_le (by omega)] at h2
    rw [h2] at HK
    exact HK

theorem k_spec_grGood {S : Nat → Prop} {h : Heap} {g : Sl} {xss : List (List Int)} (H : RdR S h g xss) : Ret Try.prog 165 #[.agg #[g.v]] h (VB (graphB xss)) := by
  intro K HK
  refine v165 g h K ?_
  intro b1 h1 hb1 hf1 hL1
  have f1 := hf1.in_nil
  have hlen := H.len
  refine k_spec_l1In _ _ _ _ _ ⟨_, rfl, hL1, fun e => ?_, fun e => ?_⟩
  · have e3 : inR 1 8 xss.length = false := by have := not_t e; rw [hlen] at this; exact this
    have : graphB xss = false := by unfold graphB; rw [e3]; rfl
    rw [← this]; exact HK _ f1
  · have e3 : inR 1 8 xss.length = true := by have := not_f e; rw [hlen] at this; exact this
    have hw : w64 ((g.n : Int) - 1) = (xss.length : Int) - 1 := by rw [hlen]; exact w64_eq _ (by omega) (by have := maxLen_lt H.big; omega)
    have hg : graphB xss = xss.all fun l => !decide (5 < (l.length : Int)) && l.all (inR 0 ((xss.length : Int) - 1)) := by unfold graphB; rw [e3]; rfl
    rw [hw]
    refine ⟨fun n i h' => Fr No h1 h' ∧ 0 ≤ i ∧ i + n = (xss.length : Int) ∧ graphB xss = (xss.drop i.toNat).all (fun l => !decide (5 < (l.length : Int)) && l.all (inR 0 ((xss.length : Int) - 1))), ⟨xss.length, Fr.refl _ _, by omega, by omega, by simp [hg]⟩, ?_⟩
    rintro n i h3 ⟨f3, h0, h2, h4⟩ hL
    have H3 := (H.no f1).no f3
    refine ⟨fun e => ?_, fun e => ?_⟩
    · have hi := H.lt e
      obtain ⟨si, hc, Hi⟩ := H3.get h0 hi
      refine ⟨H3.inb h0 hi, si, hc, fun e5 => ?_, fun e5 => ?_⟩
      · rw [drop_cons xss h0 hi, List.all_cons] at h4
        rw [Hi.len] at e5
        rw [e5] at h4
        have h5 : graphB xss = false := by rw [h4]; rfl
        rw [← h5]; exact HK _ (f1.trans f3)
      · rw [drop_cons xss h0 hi, List.all_cons] at h4
        rw [Hi.len] at e5
        rw [e5] at h4
        refine k_spec_l1All Hi _ _ _ ⟨_, rfl, hL, fun e6 => ?_, fun e6 => ?_⟩
        · rw [not_t e6] at h4
          have h5 : graphB xss = false := by rw [h4]; rfl
          rw [← h5]; exact HK _ (f1.trans f3)
        · rw [not_f e6] at h4
          rw [H.succ h0 hi]
          exact ⟨n - 1, by omega, f3, by omega, by omega, by rw [h4]; rfl⟩
    · have hi := H.ge e
      rw [List.drop_of_length_le (by omega)] at h4
      have h5 : graphB xss = true := by rw [h4]; rfl
      rw [← h5]; exact HK _ (f1.trans f3)

theorem k_IndexFunc {S : Nat → Prop} {h : Heap} {s : Sl} {xs : List Int} (H : RdI S h s xs) (f : Value) (p : Int → Bool) (hf : ∀ (x : Int) (K : Value → Heap → Prop), K (VB (p x)) h → callV Try.prog f [VI x] h K) (K : Value → Heap → Prop) (HK : ∀ r : Int, decide (0 ≤ r) = xs.any p → K (VI r) h) : callM Try.prog 159 #[s.v, f] h K := by
  refine v159 s f h K ⟨fun n i h' => h' = h ∧ 0 ≤ i ∧ i + n = (xs.length : Int) ∧ xs.any p = (xs.drop i.toNat).any p, ⟨xs.length, rfl, by omega, by omega, by simp⟩, ?_⟩
  rintro n i _ ⟨rfl, i0, i1, i2⟩ hL
  refine ⟨fun e => ?_, fun e => ?_⟩
  · have hi := H.lt e
    rw [drop_cons xs i0 hi, List.any_cons] at i2
    refine ⟨H.inb i0 hi, _, H.get i0 hi, hf _ _ ⟨_, rfl, .nil, fun e => ?_, fun e => ?_⟩⟩
    · rw [e, Bool.true_or] at i2
      exact HK _ (by rw [i2]; simpa using i0)
    · rw [e, Bool.false_or] at i2
      rw [H.succ i0 hi]
      exact ⟨n - 1, by omega, rfl, by omega, by omega, i2⟩
  · have hi := H.ge e
    rw [List.drop_of_length_le (by omega)] at i2
    exact HK _ (by rw [i2]; rfl)

theorem k_ContainsFunc {S : Nat → Prop} {h : Heap} {s : Sl} {xs : List Int} (H : RdI S h s xs) (f : Value) (p : Int → Bool) (hf : ∀ (x : Int) (K : Value → Heap → Prop), K (VB (p x)) h → callV Try.prog f [VI x] h K) (K : Value → Heap → Prop) (HK : K (VB (xs.any p)) h) : callM Try.prog 102 #[s.v, f] h K := by
  refine v102 s f h K (k_IndexFunc H f p hf _ fun r hr => ⟨r, rfl, .nil, ?_⟩)
  rw [hr]; exact HK

theorem k_isGraph1 {h : Heap} {b : Nat} {n : Int} (x : Int) {L : List (Nat × List Value)} (hL : Vars h ((b, [VI n]) :: L)) (K : Value → Heap → Prop) (HK : K (VB (!inR 0 (w64 (n - 1)) x)) h) : callV Try.prog (.func (.func 150) #[] #[VP b 0]) [VI x] h K := by
  refine v150 x b n h K (.cons hL.head (by simp) .nil) ?_
  refine k_impl_in _ _ _ _ _ ⟨_, rfl, .cons hL.head (by simp) .nil, ?_⟩
  exact HK

theorem k_has1 {h : Heap} {b : Nat} {g : Sl} (x : Int) {L : List (Nat × List Value)} (hL : Vars h ((b, [g.v]) :: L)) (K : Value → Heap → Prop) (HK : K (VB (!inR 0 (w64 (g.n - 1)) x)) h) : callV Try.prog (.func (.func 161) #[] #[VP b 0]) [VI x] h K := by
  refine v161 x b g h K (.cons hL.head (by simp) .nil) ?_
  refine k_impl_in _ _ _ _ _ ⟨_, rfl, .cons hL.head (by simp) .nil, ?_⟩
  exact HK

theorem graphB_eq {xss : List (List Int)} (e3 : inR 1 8 xss.length = true) : graphB xss = xss.all fun l => !decide (5 < (l.length : Int)) && l.all (inR 0 ((xss.length : Int) - 1)) := by unfold graphB; rw [e3]; rfl
theorem graphB_no {xss : List (List Int)} (e3 : inR 1 8 xss.length = false) : graphB xss = false := by unfold graphB; rw [e3]; rfl
theorem any_not {xs : List Int} {p : Int → Bool} : xs.any (fun x => !p x) = !xs.all p := by
  induction xs with
  | nil => rfl
  | cons x xs ih => simp only [List.any_cons, List.all_cons, ih, Bool.not_and]
theorem len_w64 {S : Nat → Prop} {h : Heap} {g : Sl} {xss : List (List Int)} (H : RdR S h g xss) : w64 ((g.n : Int) - 1) = (xss.length : Int) - 1 := by
  rw [H.len]
  have h1 := maxLen_lt H.big
  have h2 := H.len
  exact w64_eq _ (by omega) (by omega)

theorem k_isGraph {S : Nat → Prop} {h : Heap} {g : Sl} {xss : List (List Int)} (H : RdR S h g xss) : Ret Try.prog 88 #[.agg #[g.v]] h (VB (graphB xss)) := by
  intro K HK
  refine v88 g h K fun b1 b2 h1 hb1 hb2 hf1 hL1 => ?_
  have f1 := hf1.in_nil
  have hlen := H.len
  refine k_impl_in _ _ _ _ _ ⟨_, rfl, hL1, fun e => ?_, fun e => ?_⟩
  · have e3 : inR 1 8 xss.length = false := by have := not_t e; rw [hlen] at this; exact this
    rw [← graphB_no e3]; exact HK _ f1
  · have e3 : inR 1 8 xss.length = true := by have := not_f e; rw [hlen] at this; exact this
    have hg := graphB_eq e3
    refine ⟨fun n i x h' => h' = h1 ∧ x = (g.n : Int) ∧ 0 ≤ i ∧ i + n = (xss.length : Int) ∧ graphB xss = (xss.drop i.toNat).all (fun l => !decide (5 < (l.length : Int)) && l.all (inR 0 ((xss.length : Int) - 1))), ⟨xss.length, rfl, rfl, by omega, by omega, by simp [hg]⟩, ?_⟩
    rintro n i x _ ⟨rfl, rfl, h0, h2, h4⟩ hL
    have H3 := H.no f1
    refine ⟨fun e => ?_, fun e => ?_⟩
    · have hi := H.lt e
      obtain ⟨si, hc, Hi⟩ := H3.get h0 hi
      rw [drop_cons xss h0 hi, List.all_cons] at h4
      refine ⟨H3.inb h0 hi, si, hc, fun e5 => ?_, fun e5 => ?_⟩
      · rw [Hi.len] at e5
        rw [e5] at h4
        have h5 : graphB xss = false := by rw [h4]; rfl
        rw [← h5]; exact HK _ f1
      · rw [Hi.len] at e5
        rw [e5] at h4
        refine k_ContainsFunc Hi _ _ (fun x K HK => k_isGraph1 x hL K HK) _ ?_
        refine ⟨_, _, rfl, hL, fun e6 => ?_, fun e6 => ?_⟩
        · rw [any_not, len_w64 H] at e6
          rw [not_t e6] at h4
          have h5 : graphB xss = false := by rw [h4]; rfl
          rw [← h5]; exact HK _ f1
        · rw [any_not, len_w64 H] at e6
          rw [not_f e6] at h4
          rw [H.succ h0 hi]
          exact ⟨n - 1, by omega, rfl, rfl, by omega, by omega, by rw [h4]; rfl⟩
    · have hi := H.ge e
      rw [List.drop_of_length_le (by omega)] at h4
      have h5 : graphB xss = true := by rw [h4]; rfl
      rw [← h5]; exact HK _ f1

theorem k_has {S S' : Nat → Prop} {h : Heap} {g s : Sl} {xss : List (List Int)} {ps : List Int} (H : RdR S h g xss) (Hp : RdI S' h s ps) : Ret Try.prog 107 #[.agg #[g.v], s.v] h (VB (graphB xss && ps.all (inR 0 ((xss.length : Int) - 1)))) := by
  intro K HK
  refine v107 g s h K fun b1 h1 hb1 f1 hL1 => ?_
  have f1 := f1.in_nil
  refine k_isGraph (H.no f1) _ fun h2 f2 => ⟨_, rfl, hL1.of_no f2, fun e => ?_, fun e => ?_⟩
  · rw [e, Bool.true_and] at HK
    have hL2 := hL1.of_no f2
    refine k_ContainsFunc ((Hp.no f1).no f2) _ _ (fun x K HK => k_has1 x hL2 K HK) _ ?_
    refine ⟨_, _, rfl, hL2, ?_⟩
    rw [any_not, len_w64 H, Bool.not_not]
    exact HK _ (f1.trans f2)
  · rw [e, Bool.false_and] at HK
    exact HK _ (f1.trans f2)

theorem k_spec_grPlace {S : Nat → Prop} {h : Heap} {g : Sl} {xss : List (List Int)} (H : RdR S h g xss) (p : Int) : Ret Try.prog 116 #[.agg #[g.v], VI p] h (VB (graphB xss && inR 0 ((xss.length : Int) - 1) p)) := by
  intro K HK
  refine v116 g p h K fun b1 h1 hb1 f1 hL1 => ?_
  have f1 := f1.in_nil
  refine k_spec_grGood (H.no f1) _ fun h2 f2 => ⟨_, rfl, hL1.of_no f2, fun e => ?_, fun e => ?_⟩
  · rw [e, Bool.true_and] at HK
    refine k_spec_l1In _ _ _ _ _ ⟨_, rfl, hL1.of_no f2, ?_⟩
    rw [len_w64 H]
    exact HK _ (f1.trans f2)
  · rw [e, Bool.false_and] at HK
    exact HK _ (f1.trans f2)

theorem k_spec_l1Most (a b : Int) (h : Heap) (K : Value → Heap → Prop) (HK : K (VI (max a b)) h) : callM Try.prog 173 #[VI a, VI b] h K := by
  refine v173 a b h K ⟨fun e => ?_, fun e => ?_⟩
  · simp only [decide_eq_true_eq] at e
    rw [Int.max_eq_left (by omega)] at HK
    exact HK
  · simp only [decide_eq_false_iff_not] at e
    rw [Int.max_eq_right (by omega)] at HK
    exact HK

def rotB (l : List Int) (r : Int) : Bool := inR 0 (max ((l.length : Int) - 1) 0) r
def walkB (g : List (List Int)) (rs : List Int) (p : Int) : Bool := graphB g && inR 0 ((g.length : Int) - 1) p && decide (rs.length = g.length) && (g.zip rs).all fun q => rotB q.1 q.2
theorem walkB_no1 {g : List (List Int)} {rs : List Int} {p : Int} (e : (graphB g && inR 0 ((g.length : Int) - 1) p) = false) : walkB g rs p = false := by unfold walkB; rw [e]; rfl
theorem walkB_no2 {g : List (List Int)} {rs : List Int} {p : Int} (e : ¬ rs.length = g.length) : walkB g rs p = false := by unfold walkB; rw [decide_eq_false e]; simp
theorem walkB_eq {g : List (List Int)} {rs : List Int} {p : Int} (e : (graphB g && inR 0 ((g.length : Int) - 1) p) = true) (e2 : rs.length = g.length) : walkB g rs p = (g.zip rs).all fun q => rotB q.1 q.2 := by unfold walkB; rw [e, decide_eq_true e2]; rfl
theorem zip_drop (g : List (List Int)) (rs : List Int) {i : Int} (h0 : 0 ≤ i) (h1 : i < (g.length : Int)) (h2 : i < (rs.length : Int)) : (g.zip rs).drop i.toNat = (g[i.toNat]'(by omega), rs[i.toNat]'(by omega)) :: (g.zip rs).drop (i + 1).toNat := by
  have := drop_cons (g.zip rs) h0 (by simp; omega)
  simpa using this
theorem len_w64I {S : Nat → Prop} {h : Heap} {g : Sl} {xs : List Int} (H : RdI S h g xs) : w64 ((g.n : Int) - 1) = (xs.length : Int) - 1 := by
  rw [H.len]
  have h1 := maxLen_lt (RdV.big H)
  have h2 := H.len
  exact w64_eq _ (by omega) (by omega)

theorem k_isWalk {S S' : Nat → Prop} {h : Heap} {g s : Sl} {xss : List (List Int)} {rs : List Int} (G : RdR S h g xss) (H : RdI S' h s rs) (p : Int) : Ret Try.prog 174 #[.agg #[g.v], .agg #[s.v, VI p]] h (VB (walkB xss rs p)) := by
  intro K HK
  refine v174 g s p h K fun b1 b2 h1 hb1 hb2 f1 hL1 => ?_
  have f1 := f1.in_nil
  refine eop_lit rIs (fun k => h1.size ≤ k) (fun _ h => h) 1 (by omega) [VI p] rfl rfl fun t h2 n2 c2 o2 f2 l2 _ => ⟨t, rfl, hL1.of_no f2, ?_⟩
  have o2 : RdI (fun k => h1.size ≤ k) h2 t [p] := o2.rdF
  refine k_has ((G.no f1).no f2) o2 _ fun h3 f3 => ⟨_, rfl, (hL1.of_no f2).of_no f3, fun e => ?_, fun e => ?_⟩
  all_goals simp only [List.all_cons, List.all_nil, Bool.and_true] at e
  · rw [← walkB_no1 (rs := rs) (not_t e)]; exact HK _ ((f1.no_trans f2).no_trans f3)
  · have f13 := (f1.no_trans f2).no_trans f3
    rw [G.len, H.len]
    refine ⟨fun e2 => ?_, fun e2 => ?_⟩
    · have e3 := not_t e2
      simp only [decide_eq_false_iff_not] at e3
      rw [← walkB_no2 (g := xss) (rs := rs) (p := p) (by omega)]; exact HK _ f13
    · have e3 := not_f e2
      simp only [decide_eq_true_eq] at e3
      have e4 := walkB_eq (not_f e) (rs := rs) (by omega)
      have G3 := G.no f13
      have H3 := H.no f13
      refine ⟨fun n i h' => h' = h3 ∧ 0 ≤ i ∧ i + n = (xss.length : Int) ∧ walkB xss rs p = ((xss.zip rs).drop i.toNat).all fun q => rotB q.1 q.2, ⟨xss.length, rfl, by omega, by omega, by simpa using e4⟩, ?_⟩
      rintro n i _ ⟨rfl, i0, i1, i2⟩ hL
      refine ⟨fun e5 => ?_, fun e5 => ?_⟩
      · have hi : i < (rs.length : Int) := by simpa using e5
        have hi' : i < (xss.length : Int) := by omega
        obtain ⟨si, c1, c2⟩ := G3.get i0 hi'
        rw [zip_drop xss rs i0 hi' hi, List.all_cons] at i2
        refine ⟨H3.inb i0 hi, _, H3.get i0 hi, G3.inb i0 hi', si, c1, ?_⟩
        rw [len_w64I c2]
        refine pop_max _ _ _ _ ⟨_, rfl, k_impl_in _ _ _ _ _ ⟨_, rfl, hL, fun e6 => ?_, fun e6 => ?_⟩⟩
        · have e7 : rotB (xss[i.toNat]'(by omega)) (rs[i.toNat]'(by omega)) = false := not_t e6
          simp only at i2
          rw [e7] at i2
          have e8 : walkB xss rs p = false := by rw [i2]; rfl
          rw [← e8]; exact HK _ f13
        · have e7 : rotB (xss[i.toNat]'(by omega)) (rs[i.toNat]'(by omega)) = true := not_f e6
          simp only at i2
          rw [e7, Bool.true_and] at i2
          rw [H.succ i0 hi]
          exact ⟨n - 1, by omega, rfl, by omega, by omega, i2⟩
      · have hi : ¬ i < (rs.length : Int) := by simpa using e5
        rw [List.drop_of_length_le (by simp; omega)] at i2
        have e8 : walkB xss rs p = true := by rw [i2]; rfl
        rw [← e8]; exact HK _ f13

theorem k_spec_waGood {S S' : Nat → Prop} {h : Heap} {g s : Sl} {xss : List (List Int)} {rs : List Int} (G : RdR S h g xss) (H : RdI S' h s rs) (p : Int) : Ret Try.prog 138 #[.agg #[g.v], .agg #[s.v, VI p]] h (VB (walkB xss rs p)) := by
  intro K HK
  refine v138 g s p h K fun b1 b2 h1 hb1 hb2 f1 hL1 => ?_
  have f1 := f1.in_nil
  refine k_spec_grPlace (G.no f1) p _ fun h3 f3 => ⟨_, rfl, hL1.of_no f3, fun e => ?_, fun e => ?_⟩
  · rw [← walkB_no1 (rs := rs) (not_t e)]; exact HK _ (f1.no_trans f3)
  · have f13 := f1.no_trans f3
    rw [G.len, H.len]
    refine ⟨fun e2 => ?_, fun e2 => ?_⟩
    · have e3 := not_t e2
      simp only [decide_eq_false_iff_not] at e3
      rw [← walkB_no2 (g := xss) (rs := rs) (p := p) (by omega)]; exact HK _ f13
    · have e3 := not_f e2
      simp only [decide_eq_true_eq] at e3
      have e4 := walkB_eq (not_f e) (rs := rs) (by omega)
      have G3 := G.no f13
      have H3 := H.no f13
      refine ⟨fun n i h' => h' = h3 ∧ 0 ≤ i ∧ i + n = (xss.length : Int) ∧ walkB xss rs p = ((xss.zip rs).drop i.toNat).all fun q => rotB q.1 q.2, ⟨xss.length, rfl, by omega, by omega, by simpa using e4⟩, ?_⟩
      rintro n i _ ⟨rfl, i0, i1, i2⟩ hL
      refine ⟨fun e5 => ?_, fun e5 => ?_⟩
      · have hi' : i < (xss.length : Int) := by simpa using e5
        have hi : i < (rs.length : Int) := by omega
        obtain ⟨si, c1, c2⟩ := G3.get i0 hi'
        rw [zip_drop xss rs i0 hi' hi, List.all_cons] at i2
        refine ⟨G3.inb i0 hi', si, c1, H3.inb i0 hi, _, H3.get i0 hi, ?_⟩
        rw [len_w64I c2]
        refine k_spec_l1Most _ _ _ _ ⟨_, rfl, hL, H3.get i0 hi, ?_⟩
        rw [Int.max_comm]
        refine k_spec_l1In _ _ _ _ _ ⟨_, rfl, hL, fun e6 => ?_, fun e6 => ?_⟩
        · have e7 : rotB (xss[i.toNat]'(by omega)) (rs[i.toNat]'(by omega)) = false := not_t e6
          simp only at i2
          rw [e7] at i2
          have e8 : walkB xss rs p = false := by rw [i2]; rfl
          rw [← e8]; exact HK _ f13
        · have e7 : rotB (xss[i.toNat]'(by omega)) (rs[i.toNat]'(by omega)) = true := not_f e6
          simp only at i2
          rw [e7, Bool.true_and] at i2
          rw [G.succ i0 hi']
          exact ⟨n - 1, by omega, rfl, by omega, by omega, i2⟩
      · have hi : ¬ i < (xss.length : Int) := by simpa using e5
        rw [List.drop_of_length_le (by simp; omega)] at i2
        have e8 : walkB xss rs p = true := by rw [i2]; rfl
        rw [← e8]; exact HK _ f13

theorem loopI {S : Nat → Prop} {h : Heap} {s : Sl} {xs : List Int} (H : RdI S h s xs) : (xs.length : Int) ≤ maxLen := by have := H.len; have := H.big; omega

def numI (k : Int) : List Int → List Int
  | [] => []
  | _ :: xs => k :: numI (k + 1) xs
theorem numI_length : ∀ (k : Int) (xs : List Int), (numI k xs).length = xs.length
  | _, [] => rfl
  | k, _ :: xs => by simp [numI, numI_length (k + 1) xs]
theorem numI_get : ∀ (xs : List Int) (k : Int) (i : Nat) (h : i < (numI k xs).length), (numI k xs)[i] = k + i
  | [], k, i, h => by simp [numI] at h
  | x :: xs, k, 0, h => by simp [numI]
  | x :: xs, k, i + 1, h => by
    simp only [numI, List.getElem_cons_succ]
    rw [numI_get xs (k + 1) i]
    omega
def totR (xss : List (List Int)) : Nat := (xss.map List.length).sum
def numR (k : Int) : List (List Int) → List (List Int)
  | [] => []
  | xs :: xss => numI k xs :: numR (k + xs.length) xss
theorem numR_length : ∀ (k : Int) (xss : List (List Int)), (numR k xss).length = xss.length
  | _, [] => rfl
  | k, xs :: xss => by simp [numR, numR_length (k + xs.length) xss]
theorem numR_get : ∀ (xss : List (List Int)) (k : Int) (i : Nat) (h : i < (numR k xss).length) (h' : i < xss.length), (numR k xss)[i] = numI (k + totR (xss.take i)) xss[i]
  | [], k, i, h, _ => by simp [numR] at h
  | x :: xs, k, 0, h, _ => by simp [numR, totR]
  | x :: xs, k, i + 1, h, h' => by
    simp only [numR, List.getElem_cons_succ]
    rw [numR_get xs _ i (by simpa [numR] using h) (by simpa using h')]
    congr 1
    simp [totR]
    omega
theorem totR_take_le : ∀ (xss : List (List Int)) (i : Nat), totR (xss.take i) ≤ totR xss
  | [], i => by simp [totR]
  | x :: xs, 0 => by simp [totR]
  | x :: xs, i + 1 => by
    have := totR_take_le xs i
    simp only [totR, List.take_succ_cons, List.map_cons, List.sum_cons] at *
    omega
theorem totR_snoc (xss : List (List Int)) (i : Nat) (h : i < xss.length) : totR (xss.take (i + 1)) = totR (xss.take i) + xss[i].length := by
  rw [List.take_succ_eq_append_getElem h]
  simp only [totR, List.map_append, List.sum_append, List.map_cons, List.map_nil, List.sum_cons, List.sum_nil]
  omega

def firstXs : List (List Int) := [[1, 2], [0, 2], [0]]
def DeskIs (h h' : Heap) (v : Value) : Prop := ∃ (g w : Sl) (m : Nat), v = .agg #[g.v, w.v, VI 0] ∧ OwX h' (fun k => h.size ≤ k ∧ k < m) g firstXs ∧ OwI h' (fun k => h.size ≤ k ∧ m ≤ k) w [0, 0, 0] ∧ Fr No h h'
theorem own_lt {h : Heap} {F : Nat → Prop} {e : TypeId} {sz : Nat} {s : Sl} {vs : List Value} (H : Ow h F e sz s vs) {n : Nat} (hn : h.size ≤ n) : ∀ k, s.own k → k < n := fun k hk => Nat.lt_of_lt_of_le (H.foot hk).2 hn
theorem lit_first {h1 : Heap} {K : Value → Heap → Prop} (HK : ∀ (g : Sl) (h' : Heap), OwX h' (fun k => h1.size ≤ k) g firstXs → Fr No h1 h' → K g.v h') :
    eop Try.prog (Instr.buildSlice tIs 2 #[(0, VI 1), (1, VI 2)]) h1 fun rv_1 h_2 => ∃ t1_1 : Sl, rv_1 = t1_1.v ∧ Fr No h1 h_2 ∧
    eop Try.prog (Instr.buildSlice tIs 2 #[(0, VI 0), (1, VI 2)]) h_2 fun rv_2 h_3 => ∃ t2_1 : Sl, rv_2 = t2_1.v ∧ Fr No h_2 h_3 ∧
    eop Try.prog (Instr.buildSlice tIs 1 #[(0, VI 0)]) h_3 fun rv_3 h_4 => ∃ t3_1 : Sl, rv_3 = t3_1.v ∧ Fr No h_3 h_4 ∧
    eop Try.prog (Instr.buildSlice tIss 3 #[(0, t1_1.v), (1, t2_1.v), (2, t3_1.v)]) h_4 K := by
  refine eop_lit rIs (fun k => h1.size ≤ k) (fun _ h => h) 2 (by omega) [VI 1, VI 2] rfl rfl fun t1 h2 n1 c1 o1 f1 l1 _ => ⟨t1, rfl, f1, ?_⟩
  refine eop_lit rIs (fun k => h1.size ≤ k) (fun _ h => Nat.le_trans f1.size h) 2 (by omega) [VI 0, VI 2] rfl rfl fun t2 h3 n2 c2 o2 f2 l2 _ => ⟨t2, rfl, f2, ?_⟩
  have f13 := f1.no_trans f2
  refine eop_lit rIs (fun k => h1.size ≤ k) (fun _ h => Nat.le_trans f13.size h) 1 (by omega) [VI 0] rfl rfl fun t3 h4 n3 c3 o3 f3 l3 _ => ⟨t3, rfl, f3, ?_⟩
  have f14 := f13.no_trans f3
  refine eop_lit rIss (fun k => h1.size ≤ k) (fun _ h => Nat.le_trans f14.size h) 3 (by omega) [t1.v, t2.v, t3.v] rfl rfl fun t4 h5 n4 c4 o4 f4 l4 _ => ?_
  have g1 := own_lt o1 (Nat.le_refl _)
  have g2 := own_lt o2 (Nat.le_refl _)
  have g3 := own_lt o3 (Nat.le_refl _)
  have s3 := f2.size
  have s4 := f3.size
  refine HK t4 h5 (OwR.of [t1, t2, t3] rfl o4 ?_ ?_ ?_) (f14.trans f4)
  · intro p hp
    simp only [firstXs, List.zip_cons_cons, List.zip_nil_right, List.mem_cons, List.not_mem_nil, or_false] at hp
    rcases hp with rfl | rfl | rfl
    · exact ((o1.no f2).no f3).no f4
    · exact (o2.no f3).no f4
    · exact o3.no f4
  · simp only [List.pairwise_cons, List.mem_cons, List.not_mem_nil, or_false, forall_eq_or_imp, forall_eq, List.Pairwise.nil, and_true]
    refine ⟨⟨fun k a b => ?_, fun k a b => ?_⟩, fun k a b => ?_, by simp⟩
    · have := g1 k a; have := l2 k b; omega
    · have := g1 k a; have := l3 k b; omega
    · have := g2 k a; have := l3 k b; omega
  · intro a ha k hk hk2
    have := l4 k hk
    simp only [List.mem_cons, List.not_mem_nil, or_false] at ha
    rcases ha with rfl | rfl | rfl
    · have := g1 k hk2; omega
    · have := g2 k hk2; omega
    · have := g3 k hk2; omega

theorem frOwn {h h' : Heap} {F : Nat → Prop} {e : TypeId} {sz : Nat} {s : Sl} {vs : List Value} {b : Heap} (H : Ow h F e sz s vs) (f : Fr s.own h h') : Fr F h h' := f.mono fun _ _ hk => (H.foot hk).1

theorem nil_of_none {S : Nat → Prop} {h : Heap} {s : Sl} {xs : List Int} (H : RdI S h s xs) (hn : s.a = none) : xs = [] := by
  cases xs with
  | nil => rfl
  | cons x xs =>
    obtain ⟨a, ha, _⟩ := RdV.cell H 0 (by simp)
    rw [hn] at ha
    cases ha

theorem k_Clone {S : Nat → Prop} {h : Heap} {s : Sl} {xs : List Int} (H : RdI S h s xs) (hn : xs.length ≤ 1000000000) (K : Value → Heap → Prop) (HK : ∀ t h', OwI h' (Iv h.size h'.size) t xs → Fr No h h' → K t.v h') : callM Try.prog 142 #[s.v] h K := by
  refine v142 s h K (pop_isnil rIs _ _ ⟨_, rfl, fun e => ?_, fun e => ?_⟩)
  · have : xs = [] := nil_of_none H (by simpa using e)
    subst this
    exact HK nilSl h (Ow.nil _ _ _ _) (Fr.refl _ _)
  · refine eop_lit rIs (fun k => h.size ≤ k) (fun _ h => h) 0 (by omega) [] rfl rfl fun t h1 n1 c1 o1 f1 l1 _ => ⟨t, rfl, .nil, ?_⟩
    refine eop_append rIs o1 (fun k hk => Nat.le_trans f1.size hk) (H.no f1) (plainVI _) (by have := H.len; omega) fun t' h2 n2 o2 f2 l2 => ⟨t', rfl, .nil, ?_⟩
    exact HK t' h2 (Ow.toIv (by simpa using o2)) (f1.fresh f2 l1)

theorem k_l1Own {S : Nat → Prop} {h : Heap} {s : Sl} {xs : List Int} (H : RdI S h s xs) (hn : xs.length ≤ 1000000000) (K : Value → Heap → Prop) (HK : ∀ t h', OwI h' (Iv h.size h'.size) t xs → Fr No h h' → K t.v h') : callM Try.prog 130 #[s.v] h K := by
  refine v130 s h K ?_
  refine eop_lit rIs (fun k => h.size ≤ k) (fun _ h => h) 0 (by omega) [] rfl rfl fun t h1 n1 c1 o1 f1 l1 _ => ⟨t, rfl, .nil, ?_⟩
  refine eop_append rIs o1 (fun k hk => Nat.le_trans f1.size hk) (H.no f1) (plainVI _) (by have := H.len; omega) fun t' h2 n2 o2 f2 l2 => ⟨t', rfl, .nil, ?_⟩
  exact HK t' h2 (Ow.toIv (by simpa using o2)) (f1.fresh f2 l1)

/-- Every list of these is short. -/
def shortR (n : Nat) (xss : List (List Int)) : Prop := xss.length ≤ n ∧ ∀ l, l ∈ xss → l.length ≤ n
theorem tot_short {n : Nat} : ∀ {xss : List (List Int)} {m : Nat}, xss.length ≤ m → (∀ l, l ∈ xss → l.length ≤ n) → totR xss ≤ m * n
  | [], m, _, _ => by simp [totR]
  | x :: xs, 0, h, _ => by simp at h
  | x :: xs, m + 1, h, h2 => by
    have h3 := tot_short (n := n) (xss := xs) (m := m) (by simpa using h) fun l hl => h2 l (List.mem_cons_of_mem _ hl)
    have h4 := h2 x (by simp)
    have h5 : totR (x :: xs) = x.length + totR xs := by simp [totR]
    rw [h5, Nat.add_mul]
    omega
theorem short_of_tot {xss : List (List Int)} : ∀ l, l ∈ xss → l.length ≤ totR xss := by
  induction xss with
  | nil => intro l h; simp at h
  | cons x xs ih =>
    intro l hl
    have h5 : totR (x :: xs) = x.length + totR xs := by simp [totR]
    rcases List.mem_cons.1 hl with rfl | hl
    · omega
    · have := ih l hl; omega

def toldP (xss : List (List Int)) : List (List Int) := if graphB xss then xss else []
def addP (g : List (List Int)) (p q : Int) : List (List Int) × Bool :=
  if graphB g && inR 0 ((g.length : Int) - 1) p && inR 0 ((g.length : Int) - 1) q then (toldP (g.set p.toNat (g.getD p.toNat [] ++ [q])), graphB (g.set p.toNat (g.getD p.toNat [] ++ [q]))) else ([], false)
theorem inR_iff {lo hi x : Int} : inR lo hi x = true ↔ lo ≤ x ∧ x ≤ hi := by simp [inR]
theorem graph_len {g : List (List Int)} (h : graphB g = true) : 1 ≤ g.length ∧ g.length ≤ 8 := by
  unfold graphB at h
  rw [Bool.and_eq_true, inR_iff] at h
  omega
theorem graph_mem {g : List (List Int)} (h : graphB g = true) {l : List Int} (hl : l ∈ g) : l.length ≤ 5 ∧ ∀ x, x ∈ l → 0 ≤ x ∧ x < (g.length : Int) := by
  unfold graphB at h
  rw [Bool.and_eq_true] at h
  have := List.all_eq_true.1 h.2 l hl
  rw [Bool.and_eq_true] at this
  obtain ⟨h1, h2⟩ := this
  simp only [Bool.not_eq_true', decide_eq_false_iff_not] at h1
  refine ⟨by omega, fun x hx => ?_⟩
  have := List.all_eq_true.1 h2 x hx
  rw [inR_iff] at this
  omega
theorem graph_tot {g : List (List Int)} (h : graphB g = true) : totR g ≤ 40 := by
  have := tot_short (n := 5) (xss := g) (m := 8) (graph_len h).2 fun l hl => (graph_mem h hl).1
  omega
theorem toldP_tot (g : List (List Int)) : (toldP g).length + totR (toldP g) ≤ 48 := by
  unfold toldP
  split
  · rename_i h
    have := graph_tot h
    have := graph_len h
    omega
  · simp [totR]
theorem addP_tot (g : List (List Int)) (p q : Int) : (addP g p q).1.length + totR (addP g p q).1 ≤ 48 := by
  unfold addP
  split
  · exact toldP_tot _
  · simp [totR]
theorem getD_get {g : List (List Int)} {i : Nat} (h : i < g.length) : g.getD i [] = g[i] := by simp [List.getD, List.getElem?_eq_getElem h]

theorem totR_flat (xss : List (List Int)) : xss.flatten.length = totR xss := by simp [totR, List.length_flatten]

def rotL (l : List Int) (k : Nat) : List Int := l.drop (k % l.length) ++ l.take (k % l.length)
def turnP (g : List (List Int)) (p k : Int) : List (List Int) × Bool :=
  if graphB g && inR 0 ((g.length : Int) - 1) p && inR 0 1000 k then (g.set p.toNat (rotL (g.getD p.toNat []) k.toNat), true) else ([], false)
theorem rotL_length (l : List Int) (k : Nat) : (rotL l k).length = l.length := by
  unfold rotL
  simp
  rcases Nat.eq_zero_or_pos l.length with h | h
  · simp [h]
  · have := Nat.mod_lt k h
    omega
theorem rot_get (l : List Int) (j i : Nat) (h : i < l.length) (hj : j < l.length) : (l.drop j ++ l.take j)[i]? = l[(i + j) % l.length]? := by
  by_cases h1 : i < (l.drop j).length
  · rw [List.getElem?_append_left h1]
    simp only [List.length_drop] at h1
    rw [Nat.mod_eq_of_lt (by omega), List.getElem?_drop]
    congr 1
    omega
  · rw [List.getElem?_append_right (by omega)]
    simp only [List.length_drop] at h1 ⊢
    rw [Nat.mod_eq_sub_mod (by omega), Nat.mod_eq_of_lt (by omega), List.getElem?_take, if_pos (by omega)]
    congr 1
    omega
theorem rotL_get (l : List Int) (k i : Nat) (h : i < l.length) : (rotL l k)[i]'(by rw [rotL_length]; exact h) = l[(i + k) % l.length]'(Nat.mod_lt _ (by omega)) := by
  have hm := Nat.mod_lt k (show 0 < l.length by omega)
  have := rot_get l (k % l.length) i h hm
  rw [Nat.add_mod_mod, List.getElem?_eq_getElem (by simp; omega), List.getElem?_eq_getElem (Nat.mod_lt _ (by omega))] at this
  exact Option.some.inj this
theorem totR_set (xss : List (List Int)) (i : Nat) (ys : List Int) : totR (xss.set i ys) ≤ totR xss + ys.length := by
  induction xss generalizing i with
  | nil => simp [totR]
  | cons x xs ih =>
    cases i with
    | zero => simp [totR]; omega
    | succ i =>
      have := ih i
      simp only [totR, List.set_cons_succ, List.map_cons, List.sum_cons] at *
      omega
theorem turnP_tot (g : List (List Int)) (p k : Int) : (turnP g p k).1.length + totR (turnP g p k).1 ≤ 100 := by
  unfold turnP
  split
  · rename_i h
    rw [Bool.and_eq_true, Bool.and_eq_true, inR_iff, inR_iff] at h
    obtain ⟨⟨h1, h2, h3⟩, _⟩ := h
    have a := graph_tot h1
    have b := graph_len h1
    have c := totR_set g p.toNat (rotL (g.getD p.toNat []) k.toNat)
    rw [rotL_length, getD_get (by omega)] at c
    have d := (graph_mem h1 (List.getElem_mem (show p.toNat < g.length by omega))).1
    simp only [List.length_set]
    rw [getD_get (by omega)]
    omega
  · simp [totR]
theorem tmod_nat {k n : Int} (h0 : 0 ≤ k) (hn : 0 ≤ n) : Int.tmod k n = ((k.toNat % n.toNat : Nat) : Int) := by
  obtain ⟨a, rfl⟩ := Int.eq_ofNat_of_zero_le h0
  obtain ⟨b, rfl⟩ := Int.eq_ofNat_of_zero_le hn
  rfl

/-- A walk's state: its rotors and its place. -/
abbrev St := List Int × Int
def stepP (g : List (List Int)) (w : St) : Option St :=
  if (g.getD w.2.toNat []).length = 0 then none
  else some (w.1.set w.2.toNat ((((w.1.getD w.2.toNat 0).toNat + 1) % (g.getD w.2.toNat []).length : Nat) : Int), (g.getD w.2.toNat []).getD (((w.1.getD w.2.toNat 0).toNat + 1) % (g.getD w.2.toNat []).length) 0)
structure WOK (g : List (List Int)) (w : St) : Prop where
  graph : graphB g = true
  len : w.1.length = g.length
  lo : 0 ≤ w.2
  hi : w.2 < (g.length : Int)
  rot : ∀ i (h : i < w.1.length) (h' : i < g.length), 0 ≤ w.1[i] ∧ w.1[i] ≤ max ((g[i].length : Int) - 1) 0
theorem wok_of {g : List (List Int)} {rs : List Int} {p : Int} (h : walkB g rs p = true) : WOK g (rs, p) := by
  unfold walkB at h
  simp only [Bool.and_eq_true, decide_eq_true_eq] at h
  obtain ⟨⟨⟨h1, h2⟩, h3⟩, h4⟩ := h
  rw [inR_iff] at h2
  refine ⟨h1, h3, h2.1, by simp only; omega, fun i a b => ?_⟩
  have := List.all_eq_true.1 h4 (g[i], rs[i]) (by
    rw [show (g[i], rs[i]) = (g.zip rs)[i]'(by simp only [List.length_zip]; simp only at a; omega) by simp]
    exact List.getElem_mem _)
  unfold rotB at this
  rw [inR_iff] at this
  exact this
theorem stepP_none {g : List (List Int)} {w : St} (W : WOK g w) (hp : w.2.toNat < g.length) : (g[w.2.toNat]).length = 0 → stepP g w = none := fun h => by
  unfold stepP
  rw [getD_get hp, if_pos h]
theorem getD_getI {xs : List Int} {i : Nat} (h : i < xs.length) : xs.getD i 0 = xs[i] := by simp [List.getD, List.getElem?_eq_getElem h]
theorem stepP_some {g : List (List Int)} {w : St} (W : WOK g w) (hp : w.2.toNat < g.length) (hr : w.2.toNat < w.1.length) (h : (g[w.2.toNat]).length ≠ 0) :
    stepP g w = some (w.1.set w.2.toNat ((((w.1[w.2.toNat]).toNat + 1) % (g[w.2.toNat]).length : Nat) : Int), (g[w.2.toNat])[((w.1[w.2.toNat]).toNat + 1) % (g[w.2.toNat]).length]'(Nat.mod_lt _ (by omega))) := by
  unfold stepP
  rw [getD_get hp, if_neg h, getD_getI hr, getD_getI (Nat.mod_lt _ (by omega))]
theorem WOK.step {g : List (List Int)} {w w' : St} (W : WOK g w) (h : stepP g w = some w') : WOK g w' := by
  have hp : w.2.toNat < g.length := by have := W.hi; have := W.lo; omega
  have hr : w.2.toNat < w.1.length := by rw [W.len]; exact hp
  by_cases h0 : (g[w.2.toNat]).length = 0
  · rw [stepP_none W hp h0] at h; cases h
  · rw [stepP_some W hp hr h0] at h
    have hm := Nat.mod_lt ((w.1[w.2.toNat]).toNat + 1) (show 0 < (g[w.2.toNat]).length by omega)
    simp only [Option.some.injEq] at h
    subst h
    have hmem := (graph_mem W.graph (List.getElem_mem hp)).2 _ (List.getElem_mem hm)
    refine ⟨W.graph, by simpa using W.len, hmem.1, hmem.2, fun i a b => ?_⟩
    simp only [List.length_set] at a
    simp only [List.getElem_set]
    split
    · rename_i e
      subst e
      omega
    · exact W.rot i a b

theorem k_stepF {F S : Nat → Prop} {b : Nat} {h : Heap} {g w : Sl} {xss : List (List Int)} {s : St} (G : RdR S h g xss) (V : IsVar h b [w.v, VI s.2]) (H : OwI h F w s.1) (hS : ∀ k, S k → ¬ F k) (hFb : F b) (hbw : ¬ w.own b) (W : WOK xss s) (K : Value → Heap → Prop)
    (HN : stepP xss s = none → ∀ h', Fr No h h' → K (VB false) h') (HS : ∀ s', stepP xss s = some s' → ∀ h', OwI h' F w s'.1 → IsVar h' b [w.v, VI s'.2] → Fr F h h' → K (VB true) h') :
    callM Try.prog 176 #[.agg #[g.v], VP b 0] h K := by
  have hp : s.2.toNat < xss.length := by have := W.hi; have := W.lo; omega
  have hr : s.2.toNat < s.1.length := by rw [W.len]; exact hp
  have hlo := W.lo
  refine v176 g b w s.2 h K (.cons V (by simp) .nil) ⟨G.inb W.lo W.hi, fun b2 h1 hb2 f1 hL1 => ?_⟩
  have f1 := f1.in_nil
  obtain ⟨si, c1, c2⟩ := (G.no f1).get W.lo W.hi
  have H1 := Ow.no H f1
  have hn1 : w.n = s.1.length := RdI.len H.rdF
  refine ⟨si, c1, fun e => ?_, fun e => ?_⟩
  · simp only [decide_eq_true_eq] at e
    exact HN (stepP_none W hp (by have := c2.len; omega)) h1 f1
  · simp only [decide_eq_false_iff_not] at e
    have h0 : (xss[s.2.toNat]'hp).length ≠ 0 := by have := c2.len; omega
    have hst := stepP_some W hp hr h0
    have hm := Nat.mod_lt ((s.1[s.2.toNat]'hr).toNat + 1) (show 0 < (xss[s.2.toNat]'hp).length by omega)
    have hrot := W.rot _ hr hp
    have hbig := (graph_mem W.graph (List.getElem_mem hp)).1
    have hw : w64 (s.1[s.2.toNat]'hr + 1) = s.1[s.2.toNat]'hr + 1 := w64_eq _ (by omega) (by omega)
    have hm2 : Int.tmod (s.1[s.2.toNat]'hr + 1) (si.n : Int) = ((((s.1[s.2.toNat]'hr).toNat + 1) % (xss[s.2.toNat]'hp).length : Nat) : Int) := by
      rw [tmod_nat (by omega) (by omega), c2.len]
      congr 2
      omega
    have R1 : RdI F h1 w s.1 := H1.rdF
    refine ⟨R1.inb hlo (by omega), _, R1.get hlo (by omega), by omega, R1.inb hlo (by omega), ?_⟩
    rw [hw, hm2]
    obtain ⟨w1, w2, w3⟩ := H1.store1 hlo (by omega) (VI ((((s.1[s.2.toNat]'hr).toNat + 1) % (xss[s.2.toNat]'hp).length : Nat) : Int))
    have w3' : Fr F h1 _ := w3.mono fun k _ hk => (H1.foot hk).1
    have hbl := V.lt
    have hL2 := hL1.fr w3 fun p hp => by
      simp only [List.mem_cons, List.not_mem_nil, or_false] at hp
      rcases hp with rfl | rfl
      · exact fun hk => by have := (H.foot hk).2; simp only at this; omega
      · exact hbw
    refine ⟨w1, hL2, fun h2 e2 _ => ?_⟩
    subst e2
    rw [← List.map_set] at w2
    have R2 : RdI F _ w _ := w2.rdF
    have c2' := RdI.fr c2 w3' hS
    have hv : hcell (hset h1 (w.at s.2 1) (VI ((((s.1[s.2.toNat]'hr).toNat + 1) % (xss[s.2.toNat]'hp).length : Nat) : Int))) (w.at s.2 1) = some (VI ((((s.1[s.2.toNat]'hr).toNat + 1) % (xss[s.2.toNat]'hp).length : Nat) : Int)) := by
      have := R2.get (i := s.2) hlo (by simp; omega)
      simpa using this
    have hq := c2'.get (i := ((((s.1[s.2.toNat]'hr).toNat + 1) % (xss[s.2.toNat]'hp).length : Nat) : Int)) (by omega) (by omega)
    simp only [Int.toNat_natCast] at hq
    refine ⟨R2.inb hlo (by simp; omega), _, hv, c2'.inb (by omega) (by omega), _, hq, fun h3 f3 hL3 => ?_⟩
    have f3' : Fr F _ h3 := f3.mono fun k _ hk => by simp only [In, List.mem_cons, List.not_mem_nil, or_false] at hk; subst hk; exact hFb
    refine HS _ hst h3 ?_ ?_ ((f1.of_no.trans w3').trans f3')
    · exact Ow.fr w2 f3 fun k hk hk2 => by
        simp only [In, List.mem_cons, List.not_mem_nil, or_false] at hk2
        subst hk2
        exact hbw hk
    · exact hL3.tail.head

theorem k_step {a c b : Nat} {h : Heap} {g w : Sl} {xss : List (List Int)} {s : St} (G : RdR (Iv 0 a) h g xss) (V : IsVar h b [w.v, VI s.2]) (H : OwI h (Iv a c) w s.1) (hb0 : a ≤ b) (hb1 : b < c) (hbw : ¬ w.own b) (W : WOK xss s) (K : Value → Heap → Prop)
    (HN : stepP xss s = none → ∀ h', Fr No h h' → K (VB false) h') (HS : ∀ s', stepP xss s = some s' → ∀ h', OwI h' (Iv a c) w s'.1 → IsVar h' b [w.v, VI s'.2] → Fr (Iv a c) h h' → K (VB true) h') :
    callM Try.prog 176 #[.agg #[g.v], VP b 0] h K :=
  k_stepF G V H (fun k hk hk2 => by have := hk.2; have := hk2.1; omega) ⟨hb0, hb1⟩ hbw W K HN HS

def firstGo {τ : Type} (g : List (List Int)) (test : τ → St → Bool × τ) (frm : Int) : Nat → Int → τ → St → Int × Bool
  | 0, _, _, _ => (0, false)
  | f + 1, n, t, s =>
    if frm ≤ n then
      if (test t s).1 then (n, true)
      else match stepP g s with
        | none => (0, false)
        | some s' => firstGo g test frm f (n + 1) (test t s).2 s'
    else match stepP g s with
      | none => (0, false)
      | some s' => firstGo g test frm f (n + 1) t s'

def hitP (g : List (List Int)) (rs : List Int) (p q : Int) : Int × Bool :=
  if walkB g rs p && (graphB g && inR 0 ((g.length : Int) - 1) q) then firstGo g (fun (_ : Unit) s => (decide (s.2 = q), ())) 0 2001 0 () (rs, p) else (0, false)
theorem rdI_not {S : Nat → Prop} {h : Heap} {s : Sl} {xs : List Int} (H : RdI S h s xs) {b : Nat} (hb : h.size ≤ b) : RdI (fun k => k ≠ b) h s xs := H.low.mono fun k hk => by omega

def metT (met : List Bool) (s : St) : Bool × List Bool := (!((met.set s.2.toNat true).any (false == ·)), met.set s.2.toNat true)
def coverP (g : List (List Int)) (rs : List Int) (p : Int) : Int × Bool :=
  if walkB g rs p then firstGo g metT 0 2001 0 (List.replicate g.length false) (rs, p) else (0, false)

def sameT (rs : List Int) (p : Int) (_ : Unit) (s : St) : Bool × Unit := (decide (p = s.2 ∧ rs = s.1), ())
def recP (g : List (List Int)) (rs : List Int) (p : Int) : Bool × Bool :=
  if walkB g rs p then ((firstGo g (sameT rs p) 1 2001 0 () (rs, p)).2, true) else (false, false)
theorem first_pos (g : List (List Int)) (test : Unit → St → Bool × Unit) : ∀ (f : Nat) (n : Int) (s : St), 0 ≤ n → (firstGo g test 1 f n () s).2 = decide (0 < (firstGo g test 1 f n () s).1)
  | 0, n, s, _ => by simp [firstGo]
  | f + 1, n, s, h => by
    rw [firstGo]
    split
    · split
      · have : 0 < n := by omega
        simp [this]
      · split
        · simp
        · exact first_pos g test f (n + 1) _ (by omega)
    · split
      · simp
      · exact first_pos g test f (n + 1) _ (by omega)

def runT {τ : Type} (g : List (List Int)) (upd : τ → St → St → τ) : Nat → τ → St → Option (τ × St)
  | 0, t, s => some (t, s)
  | n + 1, t, s => match stepP g s with
    | none => none
    | some s' => runT g upd n (upd t s s') s'

theorem runT_snoc {τ : Type} {g : List (List Int)} {upd : τ → St → St → τ} {s'' : St} : ∀ (n : Nat) (t : τ) (s : St) (t' : τ) (s' : St), runT g upd n t s = some (t', s') → stepP g s' = some s'' → runT g upd (n + 1) t s = some (upd t' s' s'', s'')
  | 0, t, s, t', s', h, hs => by
    simp only [runT, Option.some.injEq, Prod.mk.injEq] at h
    obtain ⟨rfl, rfl⟩ := h
    rw [runT, hs]
    rfl
  | n + 1, t, s, t', s', h, hs => by
    rw [runT] at h
    rw [runT]
    split at h
    · cases h
    · rename_i s2 h2
      exact runT_snoc n _ _ _ _ h hs

def runOfP (g : List (List Int)) (rs : List Int) (p n : Int) : St × Bool :=
  if walkB g rs p && inR 0 2000 n then match runT g (fun (_ : Unit) _ _ => ()) n.toNat () (rs, p) with
    | none => (([], 0), false)
    | some (_, s) => (s, true)
  else (([], 0), false)
theorem run_len {τ : Type} {g : List (List Int)} {upd : τ → St → St → τ} : ∀ (n : Nat) (t : τ) (s : St), WOK g s → ∀ t' s', runT g upd n t s = some (t', s') → WOK g s'
  | 0, t, s, W, t', s', h => by
    simp only [runT, Option.some.injEq, Prod.mk.injEq] at h
    rw [← h.2]; exact W
  | n + 1, t, s, W, t', s', h => by
    rw [runT] at h
    split at h
    · cases h
    · rename_i s2 hs
      exact run_len n _ s2 (W.step hs) t' s' h
theorem runOfP_len (g : List (List Int)) (rs : List Int) (p n : Int) : (runOfP g rs p n).1.1.length ≤ 8 := by
  unfold runOfP
  split
  · rename_i h
    rw [Bool.and_eq_true] at h
    have W := wok_of h.1
    split
    · simp
    · rename_i s hs
      have W2 := run_len _ _ _ W _ _ hs
      have := graph_len W2.graph
      have := W2.len
      simp only
      omega
  · simp

/-- A run: its end, what was passed, visits, uses. -/
structure Rn where
  s : St
  ps : List Int
  vs : List Int
  us : List (List Int)
def bump (l : List Int) (i : Nat) : List Int := l.set i (l.getD i 0 + 1)
def goP (g : List (List Int)) : Nat → Rn → Option Rn
  | 0, r => some r
  | n + 1, r => match stepP g r.s with
    | none => none
    | some s' => goP g n ⟨s', r.ps ++ [s'.2], bump r.vs s'.2.toNat, r.us.set r.s.2.toNat (bump (r.us.getD r.s.2.toNat []) (s'.1.getD r.s.2.toNat 0).toNat)⟩
def zerosR (g : List (List Int)) : List (List Int) := g.map fun l => List.replicate l.length 0
def go0 (g : List (List Int)) (s : St) : Rn := ⟨s, [s.2], List.replicate g.length 0, zerosR g⟩
/-- What holds of a run on its way. -/
structure RnOK (g : List (List Int)) (m : Nat) (r : Rn) : Prop where
  w : WOK g r.s
  ps : r.ps.length = m + 1
  vs : r.vs.length = g.length
  us : r.us.length = g.length
  row : ∀ i (h : i < r.us.length) (h' : i < g.length), r.us[i].length = g[i].length
  vb : ∀ x, x ∈ r.vs → 0 ≤ x ∧ x ≤ m
  ub : ∀ l, l ∈ r.us → ∀ x, x ∈ l → 0 ≤ x ∧ x ≤ m
theorem bump_length (l : List Int) (i : Nat) : (bump l i).length = l.length := by simp [bump]
theorem bump_mem {l : List Int} {i m : Nat} (h : ∀ x, x ∈ l → 0 ≤ x ∧ x ≤ (m : Int)) : ∀ x, x ∈ bump l i → 0 ≤ x ∧ x ≤ ((m + 1 : Nat) : Int) := by
  intro x hx
  unfold bump at hx
  rcases List.mem_or_eq_of_mem_set hx with hx | rfl
  · have := h x hx; omega
  · by_cases hi : i < l.length
    · rw [getD_getI hi]
      have := h _ (List.getElem_mem hi)
      omega
    · rw [show l.getD i 0 = 0 by simp [List.getD, List.getElem?_eq_none (by omega : l.length ≤ i)]]
      omega
theorem RnOK.step {g : List (List Int)} {m : Nat} {r : Rn} (R : RnOK g m r) {s' : St} (hs : stepP g r.s = some s') : RnOK g (m + 1) ⟨s', r.ps ++ [s'.2], bump r.vs s'.2.toNat, r.us.set r.s.2.toNat (bump (r.us.getD r.s.2.toNat []) (s'.1.getD r.s.2.toNat 0).toNat)⟩ := by
  have hp : r.s.2.toNat < r.us.length := by rw [R.us]; have := R.w.hi; have := R.w.lo; omega
  refine ⟨R.w.step hs, by simp [R.ps], by simp [bump_length, R.vs], by simp [R.us], fun i a b => ?_, bump_mem R.vb, fun l hl => ?_⟩
  · simp only [List.length_set] at a
    simp only [List.getElem_set]
    split
    · rename_i e
      subst e
      rw [bump_length, getD_get hp]
      exact R.row _ a b
    · exact R.row i a b
  · rcases List.mem_or_eq_of_mem_set hl with hl | rfl
    · exact fun x hx => by have := R.ub l hl x hx; omega
    · rw [getD_get hp]
      exact bump_mem (R.ub _ (List.getElem_mem hp))
theorem go0_ok {g : List (List Int)} {s : St} (W : WOK g s) : RnOK g 0 (go0 g s) := by
  refine ⟨W, rfl, by simp [go0], by simp [go0, zerosR], fun i a b => by simp [go0, zerosR], fun x hx => ?_, fun l hl x hx => ?_⟩
  · simp only [go0, List.mem_replicate] at hx
    omega
  · simp only [go0, zerosR, List.mem_map] at hl
    obtain ⟨l', _, rfl⟩ := hl
    simp only [List.mem_replicate] at hx
    omega

def nextR (r : Rn) (s' : St) : Rn := ⟨s', r.ps ++ [s'.2], bump r.vs s'.2.toNat, r.us.set r.s.2.toNat (bump (r.us.getD r.s.2.toNat []) (s'.1.getD r.s.2.toNat 0).toNat)⟩
/-- A run that keeps one thing is the run that keeps all of them, seen from there. -/
theorem go_run {τ : Type} (g : List (List Int)) (f : Rn → τ) (upd : τ → St → St → τ) (hf : ∀ r s', f (nextR r s') = upd (f r) r.s s') : ∀ (n : Nat) (r : Rn), runT g upd n (f r) r.s = (goP g n r).map fun r => (f r, r.s)
  | 0, r => by simp [runT, goP]
  | n + 1, r => by
    rw [runT, goP]
    cases stepP g r.s with
    | none => rfl
    | some s' =>
      show runT g upd n (upd (f r) r.s s') s' = (goP g n (nextR r s')).map _
      rw [← go_run g f upd hf n (nextR r s'), hf]
      rfl

def passU (t : List Int) (_ s' : St) : List Int := t ++ [s'.2]
def passP (g : List (List Int)) (rs : List Int) (p n : Int) : List Int × Bool :=
  if walkB g rs p && inR 0 200 n then match runT g passU n.toNat [p] (rs, p) with
    | none => ([], false)
    | some (t, _) => (t, true)
  else ([], false)
def visU (t : List Int) (_ s' : St) : List Int := bump t s'.2.toNat
def visP (g : List (List Int)) (rs : List Int) (p n : Int) : List Int × Bool :=
  if walkB g rs p && inR 0 2000 n then match runT g visU n.toNat (List.replicate g.length 0) (rs, p) with
    | none => ([], false)
    | some (t, _) => (t, true)
  else ([], false)
def useU (t : List (List Int)) (s s' : St) : List (List Int) := t.set s.2.toNat (bump (t.getD s.2.toNat []) (s'.1.getD s.2.toNat 0).toNat)
def useP (g : List (List Int)) (rs : List Int) (p n : Int) : List (List Int) × Bool :=
  if walkB g rs p && inR 0 2000 n then match runT g useU n.toNat (zerosR g) (rs, p) with
    | none => ([], false)
    | some (t, _) => (t, true)
  else ([], false)

theorem passP_len (g : List (List Int)) (rs : List Int) (p n : Int) : (passP g rs p n).1.length ≤ 201 := by
  unfold passP
  split
  · rename_i h
    rw [Bool.and_eq_true, inR_iff] at h
    have key : ∀ (m : Nat) (t : List Int) (s : St) (t' : List Int) (s' : St), runT g passU m t s = some (t', s') → t'.length = t.length + m := by
      intro m
      induction m with
      | zero =>
        intro t s t' s' h
        simp only [runT, Option.some.injEq, Prod.mk.injEq] at h
        rw [h.1]
        rfl
      | succ m ih =>
        intro t s t' s' h
        rw [runT] at h
        split at h
        · cases h
        · have := ih _ _ _ _ h
          simp [passU] at this
          omega
    split
    · simp
    · rename_i t s hs
      have := key _ _ _ _ _ hs
      simp at this
      simp only
      omega
  · simp

def itf (f : Int → Int) (p : Int) : Nat → Int
  | 0 => p
  | k + 1 => f (itf f p k)
def orb (f : Int → Int) (p : Int) (m : Nat) : List Int := (List.range m).map (itf f p)
/-- The first return, looked for from m on, so many times. -/
def ret (f : Int → Int) (p : Int) : Nat → Nat → Option Nat
  | 0, _ => none
  | r + 1, m => if itf f p m = p then some m else ret f p r (m + 1)
def lstI (xs : List Int) : Nat → Nat
  | 0 => 0
  | i + 1 => if xs.getD i 0 < xs.getD (lstI xs i) 0 then i else lstI xs i
def turnL (xs : List Int) : List Int := xs.drop (lstI xs xs.length) ++ xs.take (lstI xs xs.length)
def cyP (f : Int → Int) (n : Nat) (p : Int) : List Int := match ret f p (n + 1) 1 with
  | some k => turnL (orb f p k)
  | none => []
theorem orb_length (f : Int → Int) (p : Int) (m : Nat) : (orb f p m).length = m := by simp [orb]
theorem orb_succ (f : Int → Int) (p : Int) (m : Nat) : orb f p (m + 1) = orb f p m ++ [itf f p m] := by simp [orb, List.range_succ]
theorem orb_get (f : Int → Int) (p : Int) (m i : Nat) (h : i < (orb f p m).length) : (orb f p m)[i] = itf f p i := by simp [orb]
theorem lstI_spec (xs : List Int) : ∀ i, (∀ j, j < i → xs.getD (lstI xs i) 0 ≤ xs.getD j 0) ∧ (∀ j, j < lstI xs i → xs.getD (lstI xs i) 0 < xs.getD j 0) ∧ (lstI xs i < i ∨ i = 0 ∧ lstI xs i = 0)
  | 0 => ⟨fun j h => by omega, fun j h => by simp [lstI] at h, .inr ⟨rfl, rfl⟩⟩
  | i + 1 => by
    obtain ⟨h1, h2, h3⟩ := lstI_spec xs i
    rw [lstI]
    split
    · rename_i h
      refine ⟨fun j hj => ?_, fun j hj => ?_, by omega⟩
      · by_cases hji : j = i
        · rw [hji]; omega
        · have := h1 j (by omega); omega
      · have := h1 j hj; omega
    · rename_i h
      refine ⟨fun j hj => ?_, h2, by omega⟩
      by_cases hji : j = i
      · rw [hji]; omega
      · exact h1 j (by omega)
theorem least_eq {xs : List Int} {l : Nat} (hl : l < xs.length) (h1 : ∀ j, j < xs.length → xs.getD l 0 ≤ xs.getD j 0) (h2 : ∀ j, j < l → xs.getD l 0 < xs.getD j 0) : l = lstI xs xs.length := by
  obtain ⟨a, b, c⟩ := lstI_spec xs xs.length
  rcases Nat.lt_trichotomy l (lstI xs xs.length) with h | h | h
  · have := b l h; have := h1 (lstI xs xs.length) (by omega); omega
  · exact h
  · have := h2 _ h; have := a l hl; omega
theorem turnL_length (xs : List Int) : (turnL xs).length = xs.length := by simp [turnL]; omega
theorem mem_turnL {xs : List Int} {x : Int} : x ∈ turnL xs ↔ x ∈ xs := by
  unfold turnL
  rw [List.mem_append, or_comm, ← List.mem_append, List.take_append_drop]
theorem ret_some {f : Int → Int} {p : Int} : ∀ (r m k : Nat), ret f p r m = some k → m ≤ k ∧ k < m + r ∧ itf f p k = p ∧ ∀ j, m ≤ j → j < k → itf f p j ≠ p
  | 0, m, k, h => by simp [ret] at h
  | r + 1, m, k, h => by
    rw [ret] at h
    split at h
    · simp only [Option.some.injEq] at h
      subst h
      exact ⟨Nat.le_refl _, by omega, by assumption, fun j a b => by omega⟩
    · rename_i h0
      obtain ⟨a, b, c, d⟩ := ret_some r (m + 1) k h
      refine ⟨by omega, by omega, c, fun j h1 h2 => ?_⟩
      by_cases hj : j = m
      · rw [hj]; exact h0
      · exact d j (by omega) h2
theorem itf_shift {f : Int → Int} {p : Int} {i j : Nat} (h : itf f p i = itf f p j) : ∀ m, itf f p (i + m) = itf f p (j + m)
  | 0 => h
  | m + 1 => by rw [← Nat.add_assoc, ← Nat.add_assoc, itf, itf, itf_shift h m]
theorem cyP_cases (f : Int → Int) (n : Nat) (p : Int) : cyP f n p = [] ∨ ∃ k, 1 ≤ k ∧ k ≤ n + 1 ∧ itf f p k = p ∧ (∀ j, 1 ≤ j → j < k → itf f p j ≠ p) ∧ cyP f n p = turnL (orb f p k) := by
  unfold cyP
  cases h : ret f p (n + 1) 1 with
  | none => exact .inl rfl
  | some k =>
    obtain ⟨a, b, c, d⟩ := ret_some _ _ _ h
    exact .inr ⟨k, a, by omega, c, d, rfl⟩
theorem nodup_turnL {xs : List Int} (h : xs.Nodup) : (turnL xs).Nodup := by
  unfold turnL
  exact (List.perm_append_comm.trans (List.Perm.of_eq (List.take_append_drop _ _))).nodup_iff.2 h
theorem orb_nodup {f : Int → Int} {p : Int} {k : Nat} (h1 : itf f p k = p) (h2 : ∀ j, 1 ≤ j → j < k → itf f p j ≠ p) : (orb f p k).Nodup := by
  unfold List.Nodup
  rw [List.pairwise_iff_getElem]
  intro i j hi hj hij e
  rw [orb_get, orb_get] at e
  rw [orb_length] at hj
  have := itf_shift e (k - j)
  rw [show j + (k - j) = k by omega, h1] at this
  exact h2 (i + (k - j)) (by omega) (by omega) this
theorem cyP_nodup (f : Int → Int) (n : Nat) (p : Int) : (cyP f n p).Nodup := by
  rcases cyP_cases f n p with h | ⟨k, _, _, h1, h2, e⟩
  · rw [h]; exact List.nodup_nil
  · rw [e]; exact nodup_turnL (orb_nodup h1 h2)
theorem cyP_len (f : Int → Int) (n : Nat) (p : Int) : (cyP f n p).length ≤ n + 1 := by
  rcases cyP_cases f n p with h | ⟨k, _, h0, h1, h2, e⟩
  · rw [h]; simp
  · rw [e, turnL_length, orb_length]; exact h0

/-! Stacks -/
def sx (g S : List (List Int)) (p : Int) : Int := if p < 0 then -1 else if (S.getD p.toNat []).length = 0 then -1 else (g.getD p.toNat []).getD ((S.getD p.toNat []).getD 0 0).toNat 0
structure SOK (g S : List (List Int)) : Prop where
  graph : graphB g = true
  len : S.length = g.length
  short : ∀ i (h : i < S.length), S[i].length ≤ 12
  ent : ∀ i (h : i < S.length) (h' : i < g.length), ∀ x, x ∈ S[i] → 0 ≤ x ∧ x < (g[i].length : Int)
def stackB (g : List (List Int)) (sink : Int) (S : List (List Int)) : Bool := (graphB g && inR 0 ((g.length : Int) - 1) sink) && (decide (S.length = g.length) && (decide ((S.getD sink.toNat []).length = 0) && (g.zip S).all fun q => !decide (12 < (q.2.length : Int)) && q.2.all (inR 0 ((q.1.length : Int) - 1))))
theorem stack_of {g S : List (List Int)} {sink : Int} (h : stackB g sink S = true) : SOK g S ∧ 0 ≤ sink ∧ sink < (g.length : Int) ∧ (S.getD sink.toNat []).length = 0 := by
  unfold stackB at h
  simp only [Bool.and_eq_true, decide_eq_true_eq, inR_iff] at h
  obtain ⟨⟨h1, h2, h3⟩, h4, h5, h6⟩ := h
  have key : ∀ i (a : i < S.length) (b : i < g.length), S[i].length ≤ 12 ∧ ∀ x, x ∈ S[i] → 0 ≤ x ∧ x < (g[i].length : Int) := fun i a b => by
    have := List.all_eq_true.1 h6 (g[i], S[i]) (by
      rw [show (g[i], S[i]) = (g.zip S)[i]'(by simp only [List.length_zip]; omega) by simp]
      exact List.getElem_mem _)
    simp only [Bool.and_eq_true, Bool.not_eq_true', decide_eq_false_iff_not] at this
    refine ⟨by omega, fun x hx => ?_⟩
    have := List.all_eq_true.1 this.2 x hx
    rw [inR_iff] at this
    omega
  exact ⟨⟨h1, h4, fun i a => (key i a (by omega)).1, fun i a b => (key i a b).2⟩, h2, by omega, h5⟩
section
variable {g S : List (List Int)}
theorem sx_some (W : SOK g S) {p : Int} (h0 : 0 ≤ p) (h1 : p < (g.length : Int)) (hne : (S.getD p.toNat []).length ≠ 0) : ∃ (hs : p.toNat < S.length) (hz : 0 < (S[p.toNat]).length) (hm : ((S[p.toNat])[0]).toNat < (g[p.toNat]'(by omega)).length), 0 ≤ (S[p.toNat])[0] ∧ sx g S p = (g[p.toNat]'(by omega))[((S[p.toNat])[0]).toNat] := by
  have hl := W.len
  have hs : p.toNat < S.length := by omega
  rw [getD_get hs] at hne
  have hz : 0 < (S[p.toNat]).length := by omega
  have h := W.ent p.toNat hs (by omega) _ (List.getElem_mem hz)
  refine ⟨hs, hz, by omega, h.1, ?_⟩
  unfold sx
  rw [if_neg (by omega), getD_get hs, if_neg hne, getD_getI hz, getD_get (by omega), getD_getI (by omega)]
theorem sx_none {p : Int} (hne : (S.getD p.toNat []).length = 0) : sx g S p = -1 := by
  unfold sx
  split
  · rfl
  · rfl
theorem sx_neg {p : Int} (h : p < 0) : sx g S p = -1 := by unfold sx; rw [if_pos h]
theorem sx_lt (W : SOK g S) {p : Int} (h1 : p < (g.length : Int)) : -1 ≤ sx g S p ∧ sx g S p < (g.length : Int) := by
  have := graph_len W.graph
  by_cases h0 : p < 0
  · rw [sx_neg h0]; omega
  by_cases hne : (S.getD p.toNat []).length = 0
  · rw [sx_none hne]; omega
  · obtain ⟨hr, hz, hm, h2, e⟩ := sx_some W (by omega) h1 hne
    rw [e]
    have := (graph_mem W.graph (List.getElem_mem (show p.toNat < g.length by omega))).2 _ (List.getElem_mem hm)
    omega
theorem its_lt (W : SOK g S) {p : Int} (h1 : p < (g.length : Int)) (h0 : -1 ≤ p) : ∀ k, -1 ≤ itf (sx g S) p k ∧ itf (sx g S) p k < (g.length : Int)
  | 0 => ⟨h0, h1⟩
  | k + 1 => sx_lt W (its_lt W h1 h0 k).2
theorem its_neg {p : Int} {k : Nat} (h : itf (sx g S) p k < 0) : ∀ m, itf (sx g S) p (k + m) < 0
  | 0 => h
  | m + 1 => by
    rw [← Nat.add_assoc, itf, sx_neg (its_neg h m)]
    omega
theorem ret_neg {p : Int} (h0 : 0 ≤ p) : ∀ (r m : Nat), itf (sx g S) p m < 0 → ret (sx g S) p r m = none
  | 0, m, h => rfl
  | r + 1, m, h => by
    rw [ret, if_neg (by omega)]
    exact ret_neg h0 r (m + 1) (its_neg h 1)
/-- The places of a cycle have tops. -/
theorem cyP_top (W : SOK g S) {n : Nat} {p : Int} (h0 : 0 ≤ p) (h1 : p < (g.length : Int)) : ∀ x, x ∈ cyP (sx g S) n p → 0 ≤ x ∧ x < (g.length : Int) ∧ (S.getD x.toNat []).length ≠ 0 := by
  intro x hx
  rcases cyP_cases (sx g S) n p with h | ⟨k, k1, k2, e1, e2, e⟩
  · rw [h] at hx; simp at hx
  · rw [e, mem_turnL] at hx
    simp only [orb, List.mem_map, List.mem_range] at hx
    obtain ⟨i, hi, rfl⟩ := hx
    have nn : ∀ j, j ≤ k → 0 ≤ itf (sx g S) p j := fun j hj => by
      by_cases hx : itf (sx g S) p j < 0
      · have := its_neg hx (k - j)
        rw [show j + (k - j) = k by omega] at this
        omega
      · omega
    refine ⟨nn i (by omega), (its_lt W h1 (by omega) i).2, fun hz => ?_⟩
    have := nn (i + 1) (by omega)
    rw [itf, sx_none hz] at this
    omega
end
def popP (S : List (List Int)) (c : List Int) : List (List Int) := (List.range S.length).map fun (i : Nat) => if (i : Int) ∈ c then (S.getD i []).drop 1 else S.getD i []
theorem popP_length (S : List (List Int)) (c : List Int) : (popP S c).length = S.length := by simp [popP]
theorem popP_get (S : List (List Int)) (c : List Int) (i : Nat) (h : i < (popP S c).length) (h' : i < S.length) : (popP S c)[i] = if (i : Int) ∈ c then (S[i]).drop 1 else S[i] := by
  simp only [popP, List.getElem_map, List.getElem_range]
  rw [getD_get h']
theorem popP_nil (S : List (List Int)) : popP S [] = S := by
  apply List.ext_getElem
  · exact popP_length _ _
  · intro i h1 h2
    rw [popP_get S [] i h1 h2]
    simp
theorem popP_tot (S : List (List Int)) (c : List Int) : totR (popP S c) ≤ totR S := by
  have key : ∀ (a b : List (List Int)), a.length = b.length → (∀ i (h : i < a.length) (h' : i < b.length), a[i].length ≤ b[i].length) → totR a ≤ totR b := by
    intro a
    induction a with
    | nil => intro b h1 h2; simp [totR]
    | cons x xs ih =>
      intro b h1 h2
      cases b with
      | nil => simp at h1
      | cons y ys =>
        have a1 := ih ys (by simpa using h1) fun i h h' => by have := h2 (i + 1) (by simpa using h) (by simpa using h'); simpa using this
        have a2 := h2 0 (by simp) (by simp)
        simp only [List.getElem_cons_zero] at a2
        simp only [totR, List.map_cons, List.sum_cons] at *
        omega
  refine key _ _ (popP_length _ _) fun i h h' => ?_
  rw [popP_get S c i h h']
  split
  · simp
  · exact Nat.le_refl _
theorem SOK.pop {g S : List (List Int)} (W : SOK g S) (c : List Int) : SOK g (popP S c) := by
  refine ⟨W.graph, by rw [popP_length]; exact W.len, fun i h => ?_, fun i h h' x hx => ?_⟩
  · have h2 : i < S.length := by rw [popP_length] at h; exact h
    have := W.short i h2
    rw [popP_get S c i h h2]
    split
    · simp; omega
    · exact this
  · have h2 : i < S.length := by rw [popP_length] at h; exact h
    rw [popP_get S c i h h2] at hx
    split at hx
    · exact W.ent i h2 h' x (List.mem_of_mem_drop hx)
    · exact W.ent i h2 h' x hx
theorem SOK.tot {g S : List (List Int)} (W : SOK g S) : S.length + totR S ≤ 104 := by
  have h1 := graph_len W.graph
  have h2 := W.len
  have := tot_short (n := 12) (xss := S) (m := 8) (by omega) fun l hl => by
    obtain ⟨i, hi, rfl⟩ := List.getElem_of_mem hl
    exact W.short i hi
  omega

def popCP (g : List (List Int)) (sink : Int) (S : List (List Int)) (p : Int) : List (List Int) × Bool :=
  if stackB g sink S && (graphB g && inR 0 ((g.length : Int) - 1) p) then
    if cyP (sx g S) g.length p = [] then ([], false) else (popP S (cyP (sx g S) g.length p), true)
  else ([], false)
theorem popCP_tot (g : List (List Int)) (sink : Int) (S : List (List Int)) (p : Int) : (popCP g sink S p).1.length + totR (popCP g sink S p).1 ≤ 104 := by
  unfold popCP
  split
  · rename_i h
    rw [Bool.and_eq_true] at h
    have W := (stack_of h.1).1
    split
    · simp [totR]
    · have h1 := W.tot
      have h2 := popP_tot S (cyP (sx g S) g.length p)
      have h3 := popP_length S (cyP (sx g S) g.length p)
      simp only
      omega
  · simp [totR]

def cycL (g S : List (List Int)) : Nat → List (List Int)
  | 0 => []
  | p + 1 => cycL g S p ++ (if cyP (sx g S) g.length p ≠ [] ∧ (cyP (sx g S) g.length p).getD 0 0 = (p : Int) then [cyP (sx g S) g.length p] else [])
def cycsP (g S : List (List Int)) : List (List Int) := cycL g S g.length
theorem cycL_len (g S : List (List Int)) : ∀ n, (cycL g S n).length ≤ n
  | 0 => by simp [cycL]
  | n + 1 => by
    have := cycL_len g S n
    rw [cycL, List.length_append]
    split <;> simp <;> omega
theorem cycL_mem (g S : List (List Int)) : ∀ n c, c ∈ cycL g S n → ∃ p : Nat, p < n ∧ c = cyP (sx g S) g.length p
  | 0, c, h => by simp [cycL] at h
  | n + 1, c, h => by
    rw [cycL, List.mem_append] at h
    rcases h with h | h
    · obtain ⟨p, h1, h2⟩ := cycL_mem g S n c h
      exact ⟨p, by omega, h2⟩
    · split at h
      · simp only [List.mem_cons, List.not_mem_nil, or_false] at h
        exact ⟨n, by omega, h⟩
      · simp at h
def topL (sink : Int) (S : List (List Int)) : Nat → Option (List Int)
  | 0 => some []
  | i + 1 => match topL sink S i with
    | none => none
    | some l => if (i : Int) = sink then some (l ++ [0]) else if (S.getD i []).length = 0 then none else some (l ++ [(S.getD i []).getD 0 0])
def topsP (sink : Int) (S : List (List Int)) : List Int × Bool := match topL sink S S.length with
  | none => ([], false)
  | some l => (l, true)
theorem topL_none {sink : Int} {S : List (List Int)} {i : Nat} (h : topL sink S i = none) : ∀ m, topL sink S (i + m) = none
  | 0 => h
  | m + 1 => by rw [← Nat.add_assoc, topL, topL_none h m]
theorem topL_len {sink : Int} {S : List (List Int)} : ∀ {i : Nat} {l : List Int}, topL sink S i = some l → l.length = i
  | 0, l, h => by simp [topL] at h; simp [h]
  | i + 1, l, h => by
    rw [topL] at h
    split at h
    · cases h
    · rename_i l' hl
      have := topL_len hl
      split at h
      · simp only [Option.some.injEq] at h; rw [← h]; simp [this]
      · split at h
        · cases h
        · simp only [Option.some.injEq] at h; rw [← h]; simp [this]
theorem topsP_none {sink : Int} {S : List (List Int)} {i : Nat} (h : topL sink S i = none) (hi : i ≤ S.length) : topsP sink S = ([], false) := by
  unfold topsP
  have := topL_none h (S.length - i)
  rw [show i + (S.length - i) = S.length by omega] at this
  rw [this]
theorem topsP_len {sink : Int} {S : List (List Int)} : (topsP sink S).1.length ≤ S.length := by
  unfold topsP
  split
  · simp
  · rename_i l h
    simp only
    rw [topL_len h]
    exact Nat.le_refl _
def endP (g : List (List Int)) (sink : Int) (cs : List Int) : Nat → Nat → List (List Int) → List (List Int) × Int × Bool
  | 0, _, _ => ([], 0, false)
  | f + 1, n, S =>
    if (cycsP g S).length = 0 then (if (topsP sink S).2 then (S, (n : Int), true) else ([], 0, false))
    else endP g sink cs f (n + 1) (popP S ((cycsP g S).getD (if n < cs.length then (cs.getD n 0).tmod (cycsP g S).length else 0).toNat []))
theorem popP_le (S : List (List Int)) (c : List Int) (i : Nat) (h : i < (popP S c).length) (h' : i < S.length) : ((popP S c)[i]).length ≤ S[i].length := by
  rw [popP_get S c i h h']
  split
  · simp
  · exact Nat.le_refl _
theorem rdI_nil (h : Heap) : RdI No h nilSl [] := RdV.nil No h 1
theorem endP_ok {g : List (List Int)} {sink : Int} {cs : List Int} : ∀ (f n : Nat) (S : List (List Int)), SOK g S → (endP g sink cs f n S).2.2 = true → SOK g (endP g sink cs f n S).1 ∧ totR (endP g sink cs f n S).1 ≤ totR S ∧ ∀ i (h : i < (endP g sink cs f n S).1.length) (h' : i < S.length), ((endP g sink cs f n S).1[i]).length ≤ S[i].length
  | 0, n, S, W, h => by simp [endP] at h
  | f + 1, n, S, W, h => by
    rw [endP] at h
    by_cases h1 : (cycsP g S).length = 0
    · rw [if_pos h1] at h
      by_cases h2 : (topsP sink S).2 = true
      · have e : endP g sink cs (f + 1) n S = (S, (n : Int), true) := by rw [endP, if_pos h1, if_pos h2]
        rw [e]
        exact ⟨W, Nat.le_refl _, fun i _ _ => Nat.le_refl _⟩
      · rw [if_neg h2] at h; simp at h
    · rw [if_neg h1] at h
      have e : endP g sink cs (f + 1) n S = endP g sink cs f (n + 1) (popP S ((cycsP g S).getD (if n < cs.length then (cs.getD n 0).tmod (cycsP g S).length else 0).toNat [])) := by rw [endP, if_neg h1]
      rw [e]
      obtain ⟨a, b, c⟩ := endP_ok f (n + 1) _ (W.pop _) h
      exact ⟨a, Nat.le_trans b (popP_tot _ _), fun i h1 h2 => Nat.le_trans (c i h1 (by rw [popP_length]; exact h2)) (popP_le _ _ i _ h2)⟩
theorem endP_no {g : List (List Int)} {sink : Int} {cs : List Int} : ∀ (f n : Nat) (S : List (List Int)), (endP g sink cs f n S).2.2 = false → endP g sink cs f n S = ([], 0, false)
  | 0, n, S, h => rfl
  | f + 1, n, S, h => by
    rw [endP] at h ⊢
    split
    · rename_i h1
      rw [if_pos h1] at h
      split
      · rename_i h2; rw [if_pos h2] at h; simp at h
      · rfl
    · rename_i h1
      rw [if_neg h1] at h
      exact endP_no f _ _ h
/-- A choice among cycles. -/
theorem choice_ok {cs : List Int} (hcs : ∀ c, c ∈ cs → 0 ≤ c) {n m : Nat} (hm : m ≠ 0) : 0 ≤ (if n < cs.length then (cs.getD n 0).tmod m else 0) ∧ (if n < cs.length then (cs.getD n 0).tmod m else 0) < (m : Int) := by
  split
  · rename_i h
    rw [getD_getI h]
    have := hcs _ (List.getElem_mem h)
    have hm' : (0 : Int) < (m : Int) := by omega
    exact ⟨Int.tmod_nonneg _ this, Int.tmod_lt_of_pos _ hm'⟩
  · omega

theorem cycs_top {g S : List (List Int)} (W : SOK g S) {c : List Int} (hc : c ∈ cycsP g S) : c.Nodup ∧ c.length ≤ 9 ∧ ∀ x, x ∈ c → 0 ≤ x ∧ x < (S.length : Int) ∧ (S.getD x.toNat []).length ≠ 0 := by
  obtain ⟨p, hp, rfl⟩ := cycL_mem g S _ _ hc
  have h1 := graph_len W.graph
  have h2 := cyP_len (sx g S) g.length p
  refine ⟨cyP_nodup _ _ _, by omega, fun x hx => ?_⟩
  have h3 := cyP_top W (n := g.length) (p := p) (by omega) (by omega) x hx
  rw [W.len]
  exact h3

def poppedP (g : List (List Int)) (sink : Int) (S : List (List Int)) (cs : List Int) : List (List Int) × Int × Bool :=
  if stackB g sink S && (decide (cs.length ≤ 100) && !cs.any fun c => decide (c < 0)) then endP g sink cs 201 0 S else ([], 0, false)
theorem cs_ok {cs : List Int} (h : (!cs.any fun c => decide (c < 0)) = true) : ∀ c, c ∈ cs → 0 ≤ c := fun c hc => by
  have := List.any_eq_false.1 (not_t h) c hc
  simpa using this
theorem poppedP_tot (g : List (List Int)) (sink : Int) (S : List (List Int)) (cs : List Int) : (poppedP g sink S cs).1.length + totR (poppedP g sink S cs).1 ≤ 104 := by
  unfold poppedP
  split
  · rename_i h
    rw [Bool.and_eq_true] at h
    have W := (stack_of h.1).1
    cases hb : (endP g sink cs 201 0 S).2.2 with
    | true => exact (endP_ok _ _ _ W hb).1.tot
    | false => rw [endP_no _ _ _ hb]; simp [totR]
  · simp [totR]

theorem popped_nil (g : List (List Int)) (sink : Int) (S : List (List Int)) : poppedP g sink S [] = if stackB g sink S then endP g sink [] 201 0 S else ([], 0, false) := by
  unfold poppedP
  simp
theorem poppedP_ok {g : List (List Int)} {sink : Int} {S : List (List Int)} {cs : List Int} (h : (poppedP g sink S cs).2.2 = true) : stackB g sink S = true ∧ SOK g (poppedP g sink S cs).1 ∧ poppedP g sink S cs = endP g sink cs 201 0 S ∧ ∀ i (h : i < (poppedP g sink S cs).1.length) (h' : i < S.length), ((poppedP g sink S cs).1[i]).length ≤ S[i].length := by
  by_cases hb : (stackB g sink S && (decide (cs.length ≤ 100) && !cs.any fun c => decide (c < 0))) = true
  · have e : poppedP g sink S cs = endP g sink cs 201 0 S := by unfold poppedP; exact if_pos hb
    rw [e] at h ⊢
    rw [Bool.and_eq_true] at hb
    have W := (stack_of hb.1).1
    have := endP_ok _ _ _ W h
    exact ⟨hb.1, this.1, rfl, this.2.2⟩
  · unfold poppedP at h
    rw [if_neg hb] at h
    simp at h
def countP (g : List (List Int)) (sink : Int) (S : List (List Int)) : Int × Bool := ((poppedP g sink S []).2.1, (poppedP g sink S []).2.2)
def treeP (g : List (List Int)) (sink : Int) (S : List (List Int)) : List Int × Bool := if (poppedP g sink S []).2.2 then topsP sink (poppedP g sink S []).1 else ([], false)
def diffL (S E : List (List Int)) : Nat → List Int
  | 0 => []
  | i + 1 => diffL S E i ++ [((S.getD i []).length : Int) - (E.getD i []).length]
def popsP (g : List (List Int)) (sink : Int) (S : List (List Int)) : List Int × Bool := if (poppedP g sink S []).2.2 then (diffL S (poppedP g sink S []).1 S.length, true) else ([], false)
theorem diffL_len (S E : List (List Int)) : ∀ n, (diffL S E n).length = n
  | 0 => rfl
  | n + 1 => by simp [diffL, diffL_len S E n]
theorem treeP_len (g : List (List Int)) (sink : Int) (S : List (List Int)) : (treeP g sink S).1.length ≤ 104 := by
  unfold treeP
  split
  · rename_i h
    have h1 := (poppedP_ok h).2.1
    have h2 := topsP_len (sink := sink) (S := (poppedP g sink S []).1)
    have h3 := h1.tot
    omega
  · simp
theorem popsP_len (g : List (List Int)) (sink : Int) (S : List (List Int)) : (popsP g sink S).1.length ≤ 104 := by
  unfold popsP
  split
  · rename_i h
    have h1 := (stack_of (poppedP_ok h).1).1.tot
    rw [diffL_len]
    omega
  · simp

def popAllP (g : List (List Int)) (sink : Int) (S : List (List Int)) (cs : List Int) : List (List Int) × Bool := ((poppedP g sink S cs).1, (poppedP g sink S cs).2.2)
theorem wf_range {n : Int} (h : (Lit.int .i64 n).wf = true) : -9223372036854775808 ≤ n ∧ n < 9223372036854775808 := by
  simp only [Lit.wf, Bool.and_eq_true, decide_eq_true_eq] at h
  simp only [IntKind.min, IntKind.max, IntKind.bits, IntKind.signed] at h
  simp at h
  omega
theorem all_max {cs : List Int} (B : ∀ n, n ∈ cs → (Lit.int .i64 n).wf = true) : cs.all (inR 0 9223372036854775807) = !cs.any fun c => decide (c < 0) := by
  induction cs with
  | nil => rfl
  | cons c cs ih =>
    rw [List.all_cons, List.any_cons, Bool.not_or, ih fun n hn => B n (List.mem_cons_of_mem _ hn)]
    congr 1
    have := wf_range (B c List.mem_cons_self)
    unfold inR
    rw [decide_eq_true (show c ≤ 9223372036854775807 by omega), Bool.and_true, ← decide_not]
    exact decide_eq_decide.2 (by omega)

theorem pop_and {P : Program} {t : TypeId} {K : Value → Prop} (k : IntKind) (a b : Int) (H : K (.int k (bits .and k a b))) : pop P (binA .and t (.int k a) (.int k b)) K :=
  .mk' (fun w => by simp [binA, eqGuard, binOp, intBits_and, bind, Sem.bind, pure, Sem.run]) H
theorem pop_shr {P : Program} {t : TypeId} {K : Value → Prop} (k : IntKind) (a b : Int) (hb : 0 ≤ b) (H : K (.int k (a.fdiv (2 ^ (min b.toNat k.bits))))) : pop P (binA .shr t (.int k a) (.int k b)) K :=
  .mk' (fun w => by simp [binA, eqGuard, binOp, Op.shift, show ¬ b < 0 by omega, bind, Sem.bind, pure, Sem.run]) H
theorem rop_conv {P : Program} {src dst : TypeId} {k k' : IntKind} (hs : P.underlying src = some (.int k)) (hd : P.underlying dst = some (.int k')) {h : Heap} {K : Value → Prop} (n : Int) (H : K (.int k' (k'.wrap n))) : rop P (convert src dst (.int k n)) h K := by
  have hk : P.intKind dst = k' := by simp [Program.intKind, hd]
  refine ⟨_, fun w hw => run_convert_int w src dst k n (by simp [hs]) (by rw [hk]; exact hd), ?_⟩
  rw [hk]
  exact H
theorem cut_zero {s : Sl} (h : s.n ≤ s.c) : s.cut 1 0 s.n s.c = s := by
  obtain ⟨a, n, c⟩ := s
  unfold Sl.cut
  cases a with
  | none => simp
  | some a => simp [at_add0]
/-- copy, to the cells from l on. -/
theorem eop_copy {P : Program} {t t2 e ty : TypeId} {bs : Nat} {z : List Value} (T : rowC P t = some (e, 1, bs, z)) {h : Heap} {F S : Nat → Prop} {s x : Sl} {vs us : List Value} (H : Ow h F e 1 s vs) (X : RdV S h 1 x us) (hp : us.all plainV = true) (l m : Nat) (hl : l ≤ s.n) (hm : m = min x.n (s.n - l))
    {K : Value → Heap → Prop} (HK : ∀ h', Ow h' F e 1 s (vs.take l ++ us.take m ++ vs.drop (l + m)) → Fr s.own h h' → K (VI m) h') : eop P (Builtin.copy_ #[t, t2] ty #[(s.cut 1 l s.n s.c).v, x.v]) h K := by
  obtain ⟨hu, i, zv, hi, hsz, rfl, hz, hzc, hzl, _, hbs, hb64, hsz8⟩ := rowC_spec T
  refine ⟨fun w hw => ?_⟩
  subst hw
  have hs1 : (P.info? e).map (·.size) = some 1 := by rw [hi]; simp [hsz]
  have hvl := H.len
  have hul := X.len
  by_cases h0 : m = 0
  · subst h0
    have hr := run_copy_none (P := P) w t t2 ty e (s.cut 1 l s.n s.c).a x.a (s.cut 1 l s.n s.c).n (s.cut 1 l s.n s.c).c x.n x.c hu hs1 (by simp only [Sl.cut]; exact hm.symm)
    refine ⟨_, w, hr, Same.refl w, HK w.heap ?_ (Fr.refl _ _)⟩
    simpa using H
  · rcases H.out with ⟨rfl, rfl⟩ | ⟨g, o, cur, ha, hF, hg, h1, h2, h3, h4⟩
    · simp [nilSl] at hm; omega
    · obtain ⟨a, hxa, _, _⟩ := X.cell 0 (by omega)
      have hcl : s.c ≠ l := by omega
      have hda : (s.cut 1 l s.n s.c).a = some ⟨g, o + l, none⟩ := by simp [Sl.cut, hcl, ha, add_mk]
      have hr := run_copy_row (P := P) w t t2 ty e g (o + l) (s.n - l) (s.c - l) a x.n x.c cur e (us.take m) hu hs1 hg (by rw [List.length_take, hm]; simp only [Nat.min_def]; split <;> split <;> omega) (fun j v hj => by
        obtain ⟨hjl, rfl⟩ := List.getElem?_eq_some_iff.1 hj
        have hjl2 : j < us.length := by simp at hjl; omega
        obtain ⟨a', ha', _, hc⟩ := X.cell j hjl2
        rw [hxa] at ha'
        obtain rfl : a = a' := by simpa using ha'
        simp only [List.getElem_take]
        exact hc) (by simp; omega) (fun u hu => by
        have := List.all_eq_true.1 hp u (List.mem_of_mem_take hu)
        cases u <;> simp [plainV] at this <;> rfl)
      have hml : (us.take m).length = m := by simp; omega
      rw [hml] at hr
      have hv : (s.cut 1 l s.n s.c).v = .slice (some ⟨g, o + l, none⟩) (s.n - l) (s.c - l) := by simp only [Sl.v, hda]; rfl
      have hxv : x.v = .slice (some a) x.n x.c := by simp only [Sl.v, hxa]
      rw [← hv, ← hxv] at hr
      refine ⟨_, _, hr, ⟨rfl, rfl, rfl⟩, HK _ ⟨?_, .inr ⟨g, o, _, ha, hF, setRow_heap w g cur _ e _ hg, h1, h2, ?_, ?_⟩⟩ ⟨by simp [World.setRow], fun k _ hk => setRow_other w g k _ (fun e => hk (by simp [Sl.own, ha, e]))⟩⟩
      · simp; omega
      · simp; omega
      · have hol : (cur.toList.take (o + l)).length = o + l := by simp; omega
        simp only [Nat.mul_one] at h4 hvl ⊢
        have e1 : (cur.toList.take (o + l) ++ us.take m ++ cur.toList.drop (o + l + m)).drop o = vs.take l ++ us.take m ++ cur.toList.drop (o + l + m) := by
          rw [List.append_assoc, List.drop_append_of_le_length (by omega), List.drop_take, show o + l - o = l by omega, ← h4, List.take_take, Nat.min_eq_left hl, List.append_assoc]
        (try simp only [List.toList_toArray])
        rw [e1, List.take_append, List.take_of_length_le (by simp; omega)]
        congr 1
        have e2 : (vs.take l ++ us.take m).length = l + m := by simp; omega
        rw [e2, ← h4, List.drop_take, List.drop_drop, Nat.add_assoc]
theorem eop_copy0 {P : Program} {t t2 e ty : TypeId} {bs : Nat} {z : List Value} (T : rowC P t = some (e, 1, bs, z)) {h : Heap} {F S : Nat → Prop} {s x : Sl} {vs us : List Value} (H : Ow h F e 1 s vs) (X : RdV S h 1 x us) (hp : us.all plainV = true) (m : Nat) (hm : m = min x.n s.n)
    {K : Value → Heap → Prop} (HK : ∀ h', Ow h' F e 1 s (us.take m ++ vs.drop m) → Fr s.own h h' → K (VI m) h') : eop P (Builtin.copy_ #[t, t2] ty #[s.v, x.v]) h K := by
  have := eop_copy (t2 := t2) (ty := ty) T H X hp 0 m (by omega) (by simpa using hm) (K := K) fun h' o f => HK h' (by simpa using o) f
  rw [cut_zero H.cap.1] at this
  exact this
theorem mul_small (a n : Int) (ha : a = 1) (h0 : 0 ≤ n) (h1 : n ≤ 8) : bits .and .u64 a 4294967295 = 1 ∧ bits .and .u64 n 4294967295 = n ∧ bits .and .u64 0 4294967295 = 0 := by
  subst ha
  refine ⟨by decide, ?_, by decide⟩
  have : n = 0 ∨ n = 1 ∨ n = 2 ∨ n = 3 ∨ n = 4 ∨ n = 5 ∨ n = 6 ∨ n = 7 ∨ n = 8 := by omega
  rcases this with rfl | rfl | rfl | rfl | rfl | rfl | rfl | rfl | rfl <;> decide
theorem u64_small {n : Int} (h0 : 0 ≤ n) (h1 : n < 18446744073709551616) : IntKind.u64.wrap n = n := by
  simp only [IntKind.wrap, IntKind.bits, IntKind.signed]
  simp
  omega
theorem fdiv_small {n : Int} (h0 : 0 ≤ n) (h1 : n < 4294967296) : n.fdiv (2 ^ (min (32 : Int).toNat IntKind.u64.bits)) = 0 := by
  have e : (2 : Int) ^ (min (32 : Int).toNat IntKind.u64.bits) = 4294967296 := by decide
  rw [e, Int.fdiv_eq_ediv_of_nonneg _ (by omega)]
  omega

theorem k_Mul64 (n : Int) (h0 : 0 ≤ n) (h1 : n ≤ 8) (h : Heap) (K : Value → Heap → Prop) (HK : K (.tuple #[.int .u64 0, .int .u64 n]) h) : callM Try.prog 219 #[.int .u64 1, .int .u64 n] h K := by
  obtain ⟨m1, m2, m3⟩ := mul_small 1 n rfl h0 h1
  refine v219 1 n h K (pop_and _ _ _ ⟨1, by rw [m1], pop_shr _ _ _ (by omega) ⟨0, by rw [fdiv_small (by omega) (by omega)], pop_and _ _ _ ⟨n, by rw [m2], pop_shr _ _ _ (by omega) ⟨0, by rw [fdiv_small (by omega) (by omega)], ?_⟩⟩⟩⟩)
  have u0 : IntKind.u64.wrap 0 = 0 := u64_small (by omega) (by omega)
  have un : IntKind.u64.wrap n = n := u64_small h0 (by omega)
  simp only [Int.one_mul, Int.zero_mul, Int.mul_zero, Int.zero_add, Int.add_zero, u0, un]
  refine pop_shr _ _ _ (by omega) ⟨0, by rw [fdiv_small (by omega) (by omega)], ?_⟩
  simp only [Int.one_mul, Int.zero_mul, Int.mul_zero, Int.zero_add, Int.add_zero, u0, un]
  refine pop_and _ _ _ ⟨0, by rw [m3], pop_shr _ _ _ (by omega) ⟨0, by rw [fdiv_small (by omega) (by omega)], ?_⟩⟩
  simp only [Int.one_mul, Int.zero_mul, Int.mul_zero, Int.zero_add, Int.add_zero, u0, un]
  refine pop_shr _ _ _ (by omega) ⟨0, by rw [fdiv_small (by omega) (by omega)], ?_⟩
  simp only [Int.one_mul, Int.zero_mul, Int.mul_zero, Int.zero_add, Int.add_zero, u0, un]
  exact HK

theorem k_Mul (n : Int) (h0 : 0 ≤ n) (h1 : n ≤ 8) (h : Heap) (K : Value → Heap → Prop) (HK : K (.tuple #[.int .u64 0, .int .u64 n]) h) : callM Try.prog 211 #[.int .u64 1, .int .u64 n] h K :=
  v211 1 n h K (k_Mul64 n h0 h1 h _ ⟨_, _, rfl, .nil, HK⟩)

theorem k_Repeat {S : Nat → Prop} {h : Heap} {x : Sl} (v : Int) (X : RdI S h x [v]) (n : Nat) (h1 : 1 ≤ n) (h8 : n ≤ 8) (K : Value → Heap → Prop) (HK : ∀ t h', OwI h' (Iv h.size h'.size) t (List.replicate n v) → Fr No h h' → K t.v h') : callM Try.prog 197 #[x.v, VI n] h K := by
  have hx1 : x.n = 1 := by have := X.len; simpa using this
  refine v197 x n h K ⟨fun h' => h' = h, ⟨fun e => by simp only [decide_eq_true_eq] at e; omega, fun _ => rfl⟩, ?_⟩
  rintro _ rfl _
  refine rop_conv (k := .i64) (k' := .u64) (show Try.prog.underlying 3 = some (.int .i64) from by kernel_rfl) (show Try.prog.underlying 170 = some (.int .u64) from by kernel_rfl) _ ⟨1, by rw [hx1]; rfl, rop_conv (k := .i64) (k' := .u64) (show Try.prog.underlying 3 = some (.int .i64) from by kernel_rfl) (show Try.prog.underlying 170 = some (.int .u64) from by kernel_rfl) _ ⟨n, by rw [u64_small (by omega) (by omega)], ?_⟩⟩
  refine k_Mul n (by omega) (by omega) _ _ ⟨_, _, rfl, .nil, ⟨fun h' => h' = _, ⟨fun e => by simp at e, fun _ => ⟨fun e => by simp only [decide_eq_true_eq] at e; omega, fun _ => rfl⟩⟩, ?_⟩⟩
  rintro _ rfl _
  refine rop_conv (k := .u64) (k' := .i64) (show Try.prog.underlying 170 = some (.int .u64) from by kernel_rfl) (show Try.prog.underlying 3 = some (.int .i64) from by kernel_rfl) _ ⟨n, by rw [show IntKind.i64.wrap (n : Int) = n from w64_eq n (by omega) (by omega)], ?_⟩
  refine eop_make rIs (fun k => _ ≤ k) (fun _ h => h) .i64 .i64 n n (Nat.le_refl _) (by omega) fun t h1' n1 c1 o1 f1 m1 _ => ⟨t, rfl, .nil, ?_⟩
  have e1 : (List.replicate n [VI 0]).flatten = (List.replicate n (0 : Int)).map VI := by simp [List.flatten_replicate_singleton]
  rw [e1] at o1
  have r1 := RdI.no X f1
  have z1 := f1.size
  refine eop_copy0 (P := Try.prog) rIs o1 r1 (plainVI _) 1 (by omega) fun h2 o2 f2 => ⟨1, rfl, .nil, ?_⟩
  have e2 : ([v].map VI).take 1 ++ ((List.replicate n (0 : Int)).map VI).drop 1 = (List.replicate 1 v ++ List.replicate (n - 1) 0).map VI := by simp
  rw [e2] at o2
  refine ⟨fun q m h' => ∃ m' : Nat, m = m' ∧ 1 ≤ m' ∧ m' ≤ n ∧ q = n - m' ∧ OwI h' (fun k => _ ≤ k) t (List.replicate m' v ++ List.replicate (n - m') 0) ∧ Fr t.own h1' h', ⟨n - 1, 1, rfl, Nat.le_refl _, h1, rfl, o2, f2⟩, ?_⟩
  rintro q m h3 ⟨m, rfl, q1, q2, rfl, o3, f3⟩ hL
  refine ⟨fun e => ?_, fun e => ?_⟩
  · simp only [decide_eq_true_eq] at e
    have htn : t.n = n := n1
    refine pop_cut_l rIs .i64 (by omega) (by omega) ⟨_, rfl, pop_cut_h rIs .i64 (by omega) (by omega) ⟨_, rfl, ?_⟩⟩
    simp only [Int.toNat_natCast]
    have r3 : RdI t.own h3 t _ := o3.rd
    have rb := RdI.cut r3 (l := 0) (m := m) (by omega) (by simp; try omega)
    rw [List.drop_zero, Nat.sub_zero, List.take_left' (by simp)] at rb
    refine eop_copy (P := Try.prog) rIs o3 rb (plainVI _) m (min m (n - m)) (by omega) (by simp [Sl.cut, htn]) fun h4 o4 f4 => ⟨_, rfl, .nil, ?_⟩
    have e4 : ((List.replicate m v ++ List.replicate (n - m) 0).map VI).take m ++ ((List.replicate m v).map VI).take (min m (n - m)) ++ ((List.replicate m v ++ List.replicate (n - m) 0).map VI).drop (m + min m (n - m)) = (List.replicate (m + min m (n - m)) v ++ List.replicate (n - (m + min m (n - m))) 0).map VI := by
      rw [← List.map_take, ← List.map_take, ← List.map_drop, ← List.map_append, ← List.map_append]
      congr 1
      rw [List.take_left' (by simp), List.take_replicate, List.drop_append, List.drop_of_length_le (by simp), List.nil_append, List.length_replicate, List.drop_replicate, List.replicate_append_replicate]
      congr 2
      · omega
      · omega
    rw [e4] at o4
    rw [w64_eq _ (by omega) (by omega)]
    exact ⟨n - (m + min m (n - m)), by omega, m + min m (n - m), by omega, by omega, by omega, rfl, o4, f3.trans f4⟩
  · simp only [decide_eq_false_iff_not] at e
    have htn : t.n = n := n1
    obtain rfl : m = n := by omega
    rw [Nat.sub_self, List.replicate_zero, List.append_nil] at o3
    exact HK t h3 (Ow.toIv o3) (f1.fresh f3 m1)

/-- The places of a list that are not come to yet get the next number. -/
def bfsIn (x : Int) : List Int → List Int × List Int → List Int × List Int
  | [], s => s
  | q :: qs, s => bfsIn x qs (if s.1.getD q.toNat 0 < 0 then (s.1.set q.toNat (s.1.getD x.toNat 0 + 1), s.2 ++ [q]) else s)
def bfsP (g : List (List Int)) : Nat → List Int → List Int → List Int
  | 0, far, _ => far
  | _ + 1, far, [] => far
  | f + 1, far, x :: rest => bfsP g f (bfsIn x (g.getD x.toNat []) (far, [])).1 (rest ++ (bfsIn x (g.getD x.toNat []) (far, [])).2)
def farP (g : List (List Int)) (p : Int) : List Int := bfsP g g.length ((List.replicate g.length (-1)).set p.toNat 0) [p]
def negs (l : List Int) : Nat := (l.filter fun x => decide (x < 0)).length
theorem negs_set {l : List Int} {i : Nat} {v : Int} (h : i < l.length) (h1 : l[i] < 0) (h2 : 0 ≤ v) : negs (l.set i v) + 1 = negs l := by
  induction l generalizing i with
  | nil => simp at h
  | cons x xs ih =>
    cases i with
    | zero =>
      simp only [List.getElem_cons_zero] at h1
      simp only [negs, List.set_cons_zero, List.filter_cons, show ¬ v < 0 by omega, h1, decide_true, decide_false, if_true, Bool.false_eq_true, if_false, List.length_cons]
    | succ i =>
      have := ih (by simpa using h) (by simpa using h1)
      simp only [negs, List.set_cons_succ, List.filter_cons] at this ⊢
      split <;> (try simp only [List.length_cons]) <;> simp_all <;> omega
structure BOK (n : Nat) (far : List Int) : Prop where
  len : far.length = n
  lo : ∀ v, v ∈ far → -1 ≤ v
  hi : ∀ v, v ∈ far → v + negs far ≤ n
theorem BOK.step {n : Nat} {far : List Int} (B : BOK n far) {x q : Int} (hx : x.toNat < n) (hq : q.toNat < n) (hn : far.getD q.toNat 0 < 0) : BOK n (far.set q.toNat (far.getD x.toNat 0 + 1)) ∧ negs (far.set q.toNat (far.getD x.toNat 0 + 1)) + 1 = negs far := by
  have hl := B.len
  rw [getD_getI (by omega)] at hn
  rw [getD_getI (show x.toNat < far.length by omega)]
  have h1 := B.lo _ (List.getElem_mem (show x.toNat < far.length by omega))
  have h2 := B.hi _ (List.getElem_mem (show x.toNat < far.length by omega))
  have h3 := negs_set (show q.toNat < far.length by omega) hn (v := far[x.toNat]'(by omega) + 1) (by omega)
  refine ⟨⟨by simp [hl], fun v hv => ?_, fun v hv => ?_⟩, h3⟩
  · rcases List.mem_or_eq_of_mem_set hv with hv | rfl
    · exact B.lo v hv
    · omega
  · rcases List.mem_or_eq_of_mem_set hv with hv | rfl
    · have := B.hi v hv; omega
    · omega
theorem farP_none {g : List (List Int)} {p : Int} (h : g.getD p.toNat [] = []) : farP g p = (List.replicate g.length (-1)).set p.toNat 0 := by
  unfold farP
  cases hg : g.length with
  | zero => rfl
  | succ n =>
    rw [bfsP, h]
    cases n <;> rfl
theorem bok0 {n p : Nat} (hp : p < n) : BOK n ((List.replicate n (-1)).set p 0) ∧ negs ((List.replicate n (-1)).set p 0) + 1 = n := by
  have h1 : negs (List.replicate n (-1)) = n := by
    unfold negs
    rw [List.filter_replicate_of_pos (by decide)]
    simp
  have h2 := negs_set (l := List.replicate n (-1)) (i := p) (v := 0) (by simpa using hp) (by simp) (by omega)
  refine ⟨⟨by simp, fun v hv => ?_, fun v hv => ?_⟩, by omega⟩
  · rcases List.mem_or_eq_of_mem_set hv with hv | rfl
    · simp only [List.mem_replicate] at hv; omega
    · omega
  · rcases List.mem_or_eq_of_mem_set hv with hv | rfl
    · simp only [List.mem_replicate] at hv; omega
    · omega
theorem gq_mem {g : List (List Int)} (hg : graphB g = true) {x : Nat} (hx : x < g.length) {i : Nat} (hi : i < (g[x]).length) : 0 ≤ (g[x])[i] ∧ (g[x])[i] < (g.length : Int) := (graph_mem hg (List.getElem_mem hx)).2 _ (List.getElem_mem hi)

theorem k_grFar {S : Nat → Prop} {h : Heap} {g : Sl} {xss : List (List Int)} (G : RdR S h g xss) (hg : graphB xss = true) {p : Int} (h0 : 0 ≤ p) (h1 : p < (xss.length : Int)) (K : Value → Heap → Prop) (HK : ∀ t h', OwI h' (Iv h.size h'.size) t (farP xss p) → (farP xss p).length = xss.length → Fr No h h' → K t.v h') : callM Try.prog 186 #[.agg #[g.v], VI p] h K := by
  refine v186 g p h K fun b1 h2 hb1 f2 hL2 => ?_
  generalize hR : farP xss p = R at HK
  have f2 := f2.in_nil
  have l1 : b1 < h2.size := hL2.head.lt
  have z2 := f2.size
  have hgl := graph_len hg
  refine eop_make rIs (fun k => h2.size ≤ k) (fun _ h => h) .i64 .i64 g.n g.n (Nat.le_refl _) (by rw [G.len]; omega) fun t h3 n3 c3 o3 f3 m3 _ => ⟨t, rfl, hL2.of_no f3, ?_⟩
  have o3 : OwI h3 (Iv h2.size h3.size) t (List.replicate xss.length 0) := by
    have e : (List.replicate g.n [VI 0]).flatten = (List.replicate xss.length (0 : Int)).map VI := by rw [G.len]; simp [List.flatten_replicate_singleton]
    rw [e] at o3; exact Ow.toIv o3
  have z3 := f3.size
  have f03 := f2.no_trans f3
  have htn : t.n = xss.length := by rw [n3, G.len]
  have hL3 := hL2.of_no f3
  refine ⟨fun n i h' => 0 ≤ i ∧ i + n = (xss.length : Int) ∧ OwI h' (Iv h2.size h3.size) t (List.replicate i.toNat (-1) ++ List.replicate n 0) ∧ Fr (Iv h2.size h3.size) h3 h', ⟨xss.length, by omega, by omega, by simpa using o3, Fr.refl _ _⟩, ?_⟩
  rintro n i h4 ⟨i0, i1, o4, f4⟩ hL4
  refine ⟨fun e => ?_, fun e => ?_⟩
  · simp only [decide_eq_true_eq] at e
    obtain ⟨w1, w2, w3⟩ := o4.store1 i0 (by omega) (VI (-1))
    have w3' : Fr (Iv h2.size h3.size) h4 _ := w3.mono fun _ _ hk => (o4.foot hk).1
    have hL5 := hL4.iv w3' ⟨.inl l1, trivial⟩
    refine ⟨o4.inb i0 (by omega), w1, hL5, fun h5 e5 _ => ?_⟩
    subst e5
    rw [w64_eq _ (by omega) (by omega)]
    refine ⟨n - 1, by omega, by omega, by omega, ?_, f4.trans w3'⟩
    rw [← List.map_set] at w2
    have e6 : (List.replicate i.toNat (-1 : Int) ++ List.replicate n 0).set i.toNat (-1) = List.replicate (i + 1).toNat (-1) ++ List.replicate (n - 1) 0 := by
      rw [List.set_append_right _ _ (by simp), List.length_replicate, Nat.sub_self, toNat_succ i0, List.replicate_succ', List.append_assoc]
      obtain ⟨m, rfl⟩ : ∃ m, n = m + 1 := ⟨n - 1, by omega⟩
      simp [List.replicate_succ]
    rw [e6] at w2
    exact w2
  simp only [decide_eq_false_iff_not] at e
  obtain rfl : n = 0 := by omega
  have ei : i.toNat = xss.length := by omega
  rw [ei, List.replicate_zero, List.append_nil] at o4
  obtain ⟨w1, w2, w3⟩ := o4.store1 h0 (by omega) (VI 0)
  have w3' : Fr (Iv h2.size h3.size) h4 _ := w3.mono fun _ _ hk => (o4.foot hk).1
  have hL5 := hL4.iv w3' ⟨.inl l1, trivial⟩
  refine ⟨o4.inb h0 (by omega), w1, hL5, fun h5 e5 _ => ?_⟩
  subst e5
  rw [← List.map_set] at w2
  have f05 : Fr No h _ := (f03.ivFresh f4 (by omega)).ivFresh w3' (by omega)
  have z4 := f4.size
  have z5 := w3'.size
  refine eop_lit rIs (fun k => _ ≤ k) (fun _ h => h) 1 (by omega) [VI p] rfl rfl fun u h6 n6 c6 o6 f6 m6 _ => ⟨u, rfl, hL5.of_no f6, ?_⟩
  have z6 := f6.size
  have f06 := f05.no_trans f6
  have w6 := Ow.no w2 f6
  obtain ⟨B0, N0⟩ := bok0 (n := xss.length) (p := p.toNat) (by omega)
  refine ⟨fun n x k h' => ∃ (far dn pend : List Int), 0 ≤ k ∧ k = dn.length ∧ n = pend.length + negs far ∧ dn.length + n = xss.length ∧ BOK xss.length far ∧ (∀ y, y ∈ pend → 0 ≤ y ∧ y < (xss.length : Int)) ∧ OwI h' (Iv h2.size h3.size) t far ∧ OwI h' (fun k => h3.size ≤ k) x (dn ++ pend) ∧ Fr No h h' ∧ h3.size ≤ h'.size ∧ R = bfsP xss n far pend,
    ⟨xss.length, (List.replicate xss.length (-1)).set p.toNat 0, [], [p], by omega, rfl, by simp only [List.length_cons, List.length_nil]; omega, by simp, B0, fun y hy => by simp at hy; omega, w6, by show Ow _ _ _ _ _ _; simpa using o6.mono (F' := fun k => h3.size ≤ k) fun k _ hk => by omega, f06, by omega, hR.symm⟩, ?_⟩
  rintro n x k h7 ⟨far, dn, pend, k0, rfl, rfl, hdn, B, hp, o7, q7, f7, z7, eq⟩ hL7
  have rq : RdI (fun k => h3.size ≤ k) h7 x (dn ++ pend) := q7.rdF
  refine ⟨fun e => ?_, fun e => ?_⟩
  · have hk := rq.lt e
    rw [List.length_append] at hk
    obtain ⟨y, rest, rfl⟩ : ∃ y rest, pend = y :: rest := by
      cases pend with
      | nil => simp at hk
      | cons y rest => exact ⟨y, rest, rfl⟩
    have hy := hp y List.mem_cons_self
    have hyl : y.toNat < xss.length := by omega
    have hdl : (dn.length : Int) < ((dn ++ y :: rest).length : Int) := by simp only [List.length_append, List.length_cons]; omega
    have eg : ∀ hh, (dn ++ y :: rest)[(dn.length : Int).toNat]'hh = y := by intro hh; simp
    have c0 := rq.get k0 hdl
    rw [eg] at c0
    obtain ⟨gi, c1, r1⟩ := G.get hy.1 hy.2
    have hfuel : (y :: rest).length + negs far = (rest.length + negs far) + 1 := by simp only [List.length_cons]; omega
    rw [hfuel, bfsP, getD_get hyl] at eq
    refine ⟨rq.inb k0 hdl, _, c0, (G.no f7).inb hy.1 hy.2, gi, hcell_fr c1 f7 (fun h => h), ?_⟩
    generalize hF : bfsIn y (xss[y.toNat]'hyl) (far, []) = Fin at eq
    refine ⟨fun m x' j h' => ∃ (far' new : List Int), 0 ≤ j ∧ j + m = ((xss[y.toNat]'hyl).length : Int) ∧ BOK xss.length far' ∧ new.length + negs far' = negs far ∧ (∀ y, y ∈ new → 0 ≤ y ∧ y < (xss.length : Int)) ∧ OwI h' (Iv h2.size h3.size) t far' ∧ OwI h' (fun k => h3.size ≤ k) x' (dn ++ y :: rest ++ new) ∧ Fr No h h' ∧ h3.size ≤ h'.size ∧ Fin = bfsIn y ((xss[y.toNat]'hyl).drop j.toNat) (far', new),
      ⟨(xss[y.toNat]'hyl).length, far, [], by omega, by omega, B, by simp, fun y hy => by simp at hy, o7, by simpa using q7, f7, z7, by simpa using hF.symm⟩, ?_⟩
    rintro m x' j h8 ⟨far', new, j0, j1, B', hnw, hnm, o8, q8, f8, z8, eF⟩ hL8
    have r1' : RdI S h8 gi (xss[y.toNat]'hyl) := RdI.no r1 f8
    have rq8 : RdI (fun k => h3.size ≤ k) h8 x' (dn ++ y :: rest ++ new) := q8.rdF
    have ro8 : RdI (Iv h2.size h3.size) h8 t far' := o8.rdI
    have hfl := B'.len
    refine ⟨fun e2 => ?_, fun e2 => ?_⟩
    · have hj := r1'.lt e2
      rw [drop_cons _ j0 hj, bfsIn] at eF
      have hq := gq_mem hg hyl (show j.toNat < (xss[y.toNat]'hyl).length by omega)
      refine ⟨r1'.inb j0 hj, _, r1'.get j0 hj, ro8.inb hq.1 (by omega), _, ro8.get hq.1 (by omega), fun e3 => ?_, fun e3 => ?_⟩
      · simp only [decide_eq_true_eq] at e3
        have e3' : far'.getD ((xss[y.toNat]'hyl)[j.toNat]'(by omega)).toNat 0 < 0 := by rw [getD_getI (by omega)]; exact e3
        obtain ⟨B2, N2⟩ := B'.step (x := y) (by omega) (by omega) e3'
        simp only [e3', if_true] at eF
        have hyv := B'.hi _ (List.getElem_mem (show y.toNat < far'.length by omega))
        have hyv2 := B'.lo _ (List.getElem_mem (show y.toNat < far'.length by omega))
        have hdl8 : (dn.length : Int) < ((dn ++ y :: rest ++ new).length : Int) := by simp only [List.length_append, List.length_cons]; omega
        have eg8 : ∀ hh, (dn ++ y :: rest ++ new)[(dn.length : Int).toNat]'hh = y := by intro hh; simp
        have c8 := rq8.get k0 hdl8
        rw [eg8] at c8
        obtain ⟨w1, w2, w3⟩ := o8.store1 hq.1 (by have := ro8.len; omega) (VI (far'[y.toNat]'(by omega) + 1))
        have w3' : Fr (Iv h2.size h3.size) h8 _ := w3.mono fun _ _ hk => (o8.foot hk).1
        have hL9 := hL8.iv w3' ⟨.inl l1, trivial⟩
        refine ⟨rq8.inb k0 hdl8, _, c8, ro8.inb hy.1 (by omega), _, ro8.get hy.1 (by omega), ro8.inb hq.1 (by omega), ?_⟩
        rw [w64_eq _ (by omega) (by omega)]
        refine ⟨w1, hL9, fun h9 e9 _ => ?_⟩
        subst e9
        rw [← List.map_set] at w2
        have z9 := w3'.size
        have q9 := Ow.fr q8 w3' fun k hk hk2 => by have h1 := (q8.foot hk).1; have := hk2.2; (try simp only at h1); omega
        refine eop_lit rIs (fun k => _ ≤ k) (fun _ h => h) 1 (by omega) [VI ((xss[y.toNat]'hyl)[j.toNat]'(by omega))] rfl rfl fun v h10 n10 c10 o10 f10 m10 _ => ⟨v, rfl, hL9.of_no f10, ?_⟩
        have z10 := f10.size
        have r10 : RdI v.own h10 v [(xss[y.toNat]'hyl)[j.toNat]'(by omega)] := o10.rd
        have hxl := rq8.len
        simp only [List.length_append, List.length_cons] at hxl hdn hk
        refine eop_append rIs (Ow.no q9 f10) (fun k hk => by omega) r10 (plainVI _) (by have := r10.len; simp at this; omega) fun w h11 n11 o11 f11 d11 => ⟨w, rfl, (hL9.of_no f10).fr f11 (fun p hp hk => by
          simp only [List.mem_cons, List.not_mem_nil, or_false] at hp
          subst hp
          have := (q8.foot hk).1
          simp only at this
          omega), ?_⟩
        have z11 := f11.size
        rw [← List.map_append] at o11
        rw [r1'.succ j0 hj]
        refine ⟨m - 1, by omega, far'.set ((xss[y.toNat]'hyl)[j.toNat]'(by omega)).toNat (far'.getD y.toNat 0 + 1), new ++ [(xss[y.toNat]'hyl)[j.toNat]'(by omega)], by omega, by omega, B2, by simp only [List.length_append, List.length_cons, List.length_nil]; omega, fun z hz => ?_, ?_, ?_, ?_, by omega, eF⟩
        · rcases List.mem_append.1 hz with hz | hz
          · exact hnm z hz
          · simp only [List.mem_cons, List.not_mem_nil, or_false] at hz
            rw [hz]; exact hq
        · rw [getD_getI (show y.toNat < far'.length by omega)]
          exact (Ow.no w2 f10).fr f11 fun k hk hk2 => by have h1 := (q8.foot hk2).1; have := (o8.foot hk).1.2; (try simp only at h1); omega
        · rw [← List.append_assoc]
          exact o11
        · exact (((f8.ivFresh w3' (by omega)).no_trans f10).fresh f11 fun k hk => by have h1 := (q8.foot hk).1; (try simp only at h1); omega)
      · simp only [decide_eq_false_iff_not] at e3
        have e3' : ¬ far'.getD ((xss[y.toNat]'hyl)[j.toNat]'(by omega)).toNat 0 < 0 := by rw [getD_getI (by omega)]; exact e3
        simp only [e3', if_false] at eF
        rw [r1'.succ j0 hj]
        exact ⟨m - 1, by omega, far', new, by omega, by omega, B', hnw, hnm, o8, q8, f8, z8, eF⟩
    · have hj := r1'.ge e2
      rw [List.drop_of_length_le (by omega), bfsIn] at eF
      subst eF
      simp only [List.length_cons] at hdn
      rw [w64_eq _ (by omega) (by omega)]
      refine ⟨rest.length + negs far, by simp only [List.length_cons]; omega, far', dn ++ [y], rest ++ new, by omega, by simp, by simp only [List.length_append]; omega, by simp only [List.length_append, List.length_cons, List.length_nil]; omega, B', fun z hz => ?_, o8, by simpa using q8, f8, z8, ?_⟩
      · rcases List.mem_append.1 hz with hz | hz
        · exact hp z (List.mem_cons_of_mem _ hz)
        · exact hnm z hz
      · exact eq
  · have hk := rq.ge e
    rw [List.length_append] at hk
    obtain rfl : pend = [] := List.eq_nil_of_length_eq_zero (by omega)
    have e9 : R = far := by
      rw [eq]
      simp only [List.length_nil, Nat.zero_add]
      cases negs far <;> rfl
    subst e9
    exact HK t h7 (Ow.ivs o7 (by omega) (by omega)) B.len f7

theorem k_lengths {S : Nat → Prop} {h : Heap} {g : Sl} {xss : List (List Int)} (G : RdR S h g xss) (hg : graphB xss = true) {p : Int} (h0 : 0 ≤ p) (h1 : p < (xss.length : Int)) (K : Value → Heap → Prop) (HK : ∀ t h', OwI h' (Iv h.size h'.size) t (farP xss p) → (farP xss p).length = xss.length → Fr No h h' → K t.v h') : callM Try.prog 187 #[.agg #[g.v], VI p] h K := by
  refine v187 g p h K fun b1 h1' hb1 f1 hL1 => ?_
  generalize hR : farP xss p = R at HK
  have f1 := f1.in_nil
  have l1 : b1 < h1'.size := hL1.head.lt
  have z1 := f1.size
  have hgl := graph_len hg
  refine eop_lit rIs (fun k => h1'.size ≤ k) (fun _ h => h) 1 (by omega) [VI (-1)] rfl rfl fun m1 h2 n2 c2 o2 f2 _ _ => ⟨m1, rfl, hL1.of_no f2, ?_⟩
  have r2 : RdI (fun k => h1'.size ≤ k) h2 m1 [-1] := o2.rdF
  have z2 := f2.size
  have hL2 := hL1.of_no f2
  rw [G.len]
  refine k_Repeat (-1) r2 xss.length (by omega) (by omega) _ fun t h3 o3 f3 => ⟨t, rfl, hL2.of_no f3, ?_⟩
  have z3 := f3.size
  have f03 := (f1.no_trans f2).no_trans f3
  have hL3 := hL2.of_no f3
  have htn : t.n = xss.length := by have := RdI.len (Ow.rdF o3 : RdI _ h3 t _); simpa using this
  obtain ⟨w1, w2, w3⟩ := o3.store1 h0 (by omega) (VI 0)
  have w3' : Fr (Iv h2.size h3.size) h3 _ := w3.mono fun _ _ hk => (o3.foot hk).1
  have hL5 := hL3.iv w3' ⟨.inl (by omega), trivial⟩
  refine ⟨o3.inb h0 (by omega), w1, hL5, fun h5 e5 _ => ?_⟩
  subst e5
  rw [← List.map_set] at w2
  have f05 : Fr No h _ := f03.ivFresh w3' (by omega)
  have z5 := w3'.size
  refine eop_lit rIs (fun k => _ ≤ k) (fun _ h => h) 1 (by omega) [VI p] rfl rfl fun u h6 n6 c6 o6 f6 m6 _ => ⟨u, rfl, hL5.of_no f6, ?_⟩
  have z6 := f6.size
  have f06 := f05.no_trans f6
  have w6 := Ow.no w2 f6
  obtain ⟨B0, N0⟩ := bok0 (n := xss.length) (p := p.toNat) (by omega)
  refine ⟨fun n x h' => ∃ (far pend : List Int), n = pend.length + negs far ∧ n ≤ xss.length ∧ BOK xss.length far ∧ (∀ y, y ∈ pend → 0 ≤ y ∧ y < (xss.length : Int)) ∧ OwI h' (Iv h2.size h3.size) t far ∧ OwI h' (fun k => h3.size ≤ k) x pend ∧ Fr No h h' ∧ h3.size ≤ h'.size ∧ R = bfsP xss n far pend,
    ⟨xss.length, (List.replicate xss.length (-1)).set p.toNat 0, [p], by simp only [List.length_cons, List.length_nil]; omega, Nat.le_refl _, B0, fun y hy => by simp at hy; omega, w6, by show Ow _ _ _ _ _ _; simpa using o6.mono (F' := fun k => h3.size ≤ k) fun k _ hk => by omega, f06, by omega, hR.symm⟩, ?_⟩
  rintro n x h7 ⟨far, pend, rfl, hdn, B, hp, o7, q7, f7, z7, eq⟩ hL7
  have rq : RdI (fun k => h3.size ≤ k) h7 x pend := q7.rdF
  have hxl := rq.len
  refine ⟨fun e => ?_, fun e => ?_⟩
  · simp only [decide_eq_true_eq] at e
    obtain ⟨y, rest, rfl⟩ : ∃ y rest, pend = y :: rest := by
      cases pend with
      | nil => simp at hxl; omega
      | cons y rest => exact ⟨y, rest, rfl⟩
    have hy := hp y List.mem_cons_self
    have hyl : y.toNat < xss.length := by omega
    have hdl : (0 : Int) < ((y :: rest).length : Int) := by simp only [List.length_cons]; omega
    have eg : ∀ hh, (y :: rest)[(0 : Int).toNat]'hh = y := by intro hh; simp
    have c0 := rq.get (Int.le_refl 0) hdl
    rw [eg] at c0
    obtain ⟨gi, c1, r1⟩ := G.get hy.1 hy.2
    have hfuel : (y :: rest).length + negs far = (rest.length + negs far) + 1 := by simp only [List.length_cons]; omega
    rw [hfuel, bfsP, getD_get hyl] at eq
    refine ⟨rq.inb (Int.le_refl 0) hdl, _, c0, (G.no f7).inb hy.1 hy.2, gi, hcell_fr c1 f7 (fun h => h), ?_⟩
    generalize hF : bfsIn y (xss[y.toNat]'hyl) (far, []) = Fin at eq
    refine ⟨fun m x' j h' => ∃ (far' new : List Int), 0 ≤ j ∧ j + m = ((xss[y.toNat]'hyl).length : Int) ∧ BOK xss.length far' ∧ new.length + negs far' = negs far ∧ (∀ y, y ∈ new → 0 ≤ y ∧ y < (xss.length : Int)) ∧ OwI h' (Iv h2.size h3.size) t far' ∧ OwI h' (fun k => h3.size ≤ k) x' (y :: rest ++ new) ∧ Fr No h h' ∧ h3.size ≤ h'.size ∧ Fin = bfsIn y ((xss[y.toNat]'hyl).drop j.toNat) (far', new),
      ⟨(xss[y.toNat]'hyl).length, far, [], by omega, by omega, B, by simp, fun y hy => by simp at hy, o7, by simpa using q7, f7, z7, by simpa using hF.symm⟩, ?_⟩
    rintro m x' j h8 ⟨far', new, j0, j1, B', hnw, hnm, o8, q8, f8, z8, eF⟩ hL8
    have r1' : RdI S h8 gi (xss[y.toNat]'hyl) := RdI.no r1 f8
    have rq8 : RdI (fun k => h3.size ≤ k) h8 x' (y :: rest ++ new) := q8.rdF
    have ro8 : RdI (Iv h2.size h3.size) h8 t far' := o8.rdI
    have hfl := B'.len
    have hxl8 := rq8.len
    simp only [List.length_append, List.length_cons] at hxl8 hdn
    refine ⟨fun e2 => ?_, fun e2 => ?_⟩
    · have hj := r1'.lt e2
      rw [drop_cons _ j0 hj, bfsIn] at eF
      have hq := gq_mem hg hyl (show j.toNat < (xss[y.toNat]'hyl).length by omega)
      refine ⟨r1'.inb j0 hj, _, r1'.get j0 hj, ro8.inb hq.1 (by omega), _, ro8.get hq.1 (by omega), fun e3 => ?_, fun e3 => ?_⟩
      · simp only [decide_eq_true_eq] at e3
        have e3' : far'.getD ((xss[y.toNat]'hyl)[j.toNat]'(by omega)).toNat 0 < 0 := by rw [getD_getI (by omega)]; exact e3
        obtain ⟨B2, N2⟩ := B'.step (x := y) (by omega) (by omega) e3'
        simp only [e3', if_true] at eF
        have hyv := B'.hi _ (List.getElem_mem (show y.toNat < far'.length by omega))
        have hyv2 := B'.lo _ (List.getElem_mem (show y.toNat < far'.length by omega))
        have hdl8 : (0 : Int) < ((y :: rest ++ new).length : Int) := by simp only [List.length_append, List.length_cons]; omega
        have eg8 : ∀ hh, (y :: rest ++ new)[(0 : Int).toNat]'hh = y := by intro hh; simp
        have c8 := rq8.get (Int.le_refl 0) hdl8
        rw [eg8] at c8
        obtain ⟨w1, w2, w3⟩ := o8.store1 hq.1 (by have := ro8.len; omega) (VI (far'[y.toNat]'(by omega) + 1))
        have w3' : Fr (Iv h2.size h3.size) h8 _ := w3.mono fun _ _ hk => (o8.foot hk).1
        have hL9 := hL8.iv w3' ⟨.inl (by omega), trivial⟩
        refine ⟨rq8.inb (Int.le_refl 0) hdl8, _, c8, ro8.inb hy.1 (by omega), _, ro8.get hy.1 (by omega), ro8.inb hq.1 (by omega), ?_⟩
        rw [w64_eq _ (by omega) (by omega)]
        refine ⟨w1, hL9, fun h9 e9 _ => ?_⟩
        subst e9
        rw [← List.map_set] at w2
        have z9 := w3'.size
        have q9 := Ow.fr q8 w3' fun k hk hk2 => by have h1 := (q8.foot hk).1; have := hk2.2; (try simp only at h1); omega
        refine eop_lit rIs (fun k => _ ≤ k) (fun _ h => h) 1 (by omega) [VI ((xss[y.toNat]'hyl)[j.toNat]'(by omega))] rfl rfl fun v h10 n10 c10 o10 f10 m10 _ => ⟨v, rfl, hL9.of_no f10, ?_⟩
        have z10 := f10.size
        have r10 : RdI v.own h10 v [(xss[y.toNat]'hyl)[j.toNat]'(by omega)] := o10.rd
        refine eop_append rIs (Ow.no q9 f10) (fun k hk => by omega) r10 (plainVI _) (by have := r10.len; simp at this; omega) fun w h11 n11 o11 f11 d11 => ⟨w, rfl, (hL9.of_no f10).fr f11 (fun p hp hk => by
          simp only [List.mem_cons, List.not_mem_nil, or_false] at hp
          subst hp
          have := (q8.foot hk).1
          simp only at this
          omega), ?_⟩
        have z11 := f11.size
        rw [← List.map_append] at o11
        rw [r1'.succ j0 hj]
        refine ⟨m - 1, by omega, far'.set ((xss[y.toNat]'hyl)[j.toNat]'(by omega)).toNat (far'.getD y.toNat 0 + 1), new ++ [(xss[y.toNat]'hyl)[j.toNat]'(by omega)], by omega, by omega, B2, by simp only [List.length_append, List.length_cons, List.length_nil]; omega, fun z hz => ?_, ?_, ?_, ?_, by omega, eF⟩
        · rcases List.mem_append.1 hz with hz | hz
          · exact hnm z hz
          · simp only [List.mem_cons, List.not_mem_nil, or_false] at hz
            rw [hz]; exact hq
        · rw [getD_getI (show y.toNat < far'.length by omega)]
          exact (Ow.no w2 f10).fr f11 fun k hk hk2 => by have h1 := (q8.foot hk2).1; have := (o8.foot hk).1.2; (try simp only at h1); omega
        · rw [← List.append_assoc]
          exact o11
        · exact (((f8.ivFresh w3' (by omega)).no_trans f10).fresh f11 fun k hk => by have h1 := (q8.foot hk).1; (try simp only at h1); omega)
      · simp only [decide_eq_false_iff_not] at e3
        have e3' : ¬ far'.getD ((xss[y.toNat]'hyl)[j.toNat]'(by omega)).toNat 0 < 0 := by rw [getD_getI (by omega)]; exact e3
        simp only [e3', if_false] at eF
        rw [r1'.succ j0 hj]
        exact ⟨m - 1, by omega, far', new, by omega, by omega, B', hnw, hnm, o8, q8, f8, z8, eF⟩
    · have hj := r1'.ge e2
      rw [List.drop_of_length_le (by omega), bfsIn] at eF
      subst eF
      refine pop_cut_l rIs .i64 (by omega) (by omega) ⟨_, rfl, ?_⟩
      have qc := q8.cut (l := 1) (m := x'.n) (by omega) (Nat.le_refl _)
      have ec : (((y :: rest ++ new).map VI).drop (1 * 1)).take ((x'.n - 1) * 1) = (rest ++ new).map VI := by
        rw [List.take_of_length_le (by simp; omega)]
        rfl
      rw [ec] at qc
      refine ⟨rest.length + negs far, by simp only [List.length_cons]; omega, far', rest ++ new, by simp only [List.length_append]; omega, by omega, B', fun z hz => ?_, o8, qc, f8, z8, ?_⟩
      · rcases List.mem_append.1 hz with hz | hz
        · exact hp z (List.mem_cons_of_mem _ hz)
        · exact hnm z hz
      · exact eq
  · simp only [decide_eq_false_iff_not] at e
    obtain rfl : pend = [] := List.eq_nil_of_length_eq_zero (by omega)
    have e9 : R = far := by
      rw [eq]
      simp only [List.length_nil, Nat.zero_add]
      cases negs far <;> rfl
    subst e9
    exact HK t h7 (Ow.ivs o7 (by omega) (by omega)) B.len f7

def leadB (g : List (List Int)) (p : Int) : Bool := (List.range g.length).all fun q => !decide ((farP g q).getD p.toNat 0 < 0)
theorem leadB_exit {g : List (List Int)} {sink : Int} (h0 : 0 ≤ sink) (h : leadB g sink = true) {p : Nat} (hp : p < g.length) (hs : (p : Int) ≠ sink) (h1 : sink < (g.length : Int)) : (g[p]).length ≠ 0 := by
  intro hz
  have := List.all_eq_true.1 h p (by simpa using hp)
  rw [farP_none (by rw [show ((p : Int)).toNat = p from rfl, getD_get hp]; exact List.eq_nil_of_length_eq_zero hz)] at this
  simp only [Bool.not_eq_true', decide_eq_false_iff_not] at this
  rw [getD_getI (by simp; omega), List.getElem_set] at this
  rw [if_neg (by omega)] at this
  simp at this
def sinkB (g : List (List Int)) (sink : Int) : Bool := graphB g && inR 0 ((g.length : Int) - 1) sink && leadB g sink
theorem range_all {n : Nat} {f : Nat → Bool} : (List.range n).all f = true ↔ ∀ i, i < n → f i = true := by simp [List.all_eq_true]

theorem k_grLeads {S : Nat → Prop} {h : Heap} {g : Sl} {xss : List (List Int)} (G : RdR S h g xss) (hg : graphB xss = true) {p : Int} (h0 : 0 ≤ p) (h1 : p < (xss.length : Int)) : Ret Try.prog 162 #[.agg #[g.v], VI p] h (VB (leadB xss p)) := by
  intro K HK
  refine v162 g p h K fun b1 h2 hb1 f2 hL2 => ?_
  have f2 := f2.in_nil
  refine ⟨fun n i h' => 0 ≤ i ∧ i + n = (xss.length : Int) ∧ (∀ q : Nat, (q : Int) < i → ¬ (farP xss q).getD p.toNat 0 < 0) ∧ Fr No h h', ⟨xss.length, by omega, by omega, fun q hq => by omega, f2⟩, ?_⟩
  rintro n i h3 ⟨i0, i1, i2, f3⟩ hL3
  have G3 := G.no f3
  refine ⟨fun e => ?_, fun e => ?_⟩
  · have hi := G3.lt e
    have ei : ((i.toNat : Nat) : Int) = i := by omega
    refine k_grFar G3 hg i0 hi _ fun t h4 o4 hl f4 => ⟨t, rfl, hL3.of_no f4, ?_⟩
    have r4 : RdI _ h4 t _ := Ow.rdF o4
    refine ⟨r4.inb h0 (by omega), _, r4.get h0 (by omega), fun e2 => ?_, fun e2 => ?_⟩
    · simp only [decide_eq_true_eq] at e2
      have : leadB xss p = false := by
        unfold leadB
        rw [List.all_eq_false]
        refine ⟨i.toNat, by simp; omega, ?_⟩
        rw [ei, getD_getI (by omega), decide_eq_true e2]
        simp
      rw [this] at HK
      exact HK h4 (f3.no_trans f4)
    · simp only [decide_eq_false_iff_not] at e2
      rw [G3.succ i0 hi]
      refine ⟨n - 1, by omega, by omega, by omega, fun q hq => ?_, f3.no_trans f4⟩
      by_cases hq2 : (q : Int) < i
      · exact i2 q hq2
      · have : (q : Int) = i := by omega
        rw [this, getD_getI (by omega)]
        exact e2
  · have hi := G3.ge e
    have : leadB xss p = true := by
      unfold leadB
      rw [range_all]
      intro q hq
      rw [decide_eq_false (i2 q (by omega))]
      rfl
    rw [this] at HK
    exact HK h3 f3

theorem k_leadsTo {S : Nat → Prop} {h : Heap} {g : Sl} {xss : List (List Int)} (G : RdR S h g xss) (hg : graphB xss = true) {p : Int} (h0 : 0 ≤ p) (h1 : p < (xss.length : Int)) : Ret Try.prog 160 #[.agg #[g.v], VI p] h (VB (leadB xss p)) := by
  intro K HK
  refine v160 g p h K fun b1 h2 hb1 f2 hL2 => ?_
  have f2 := f2.in_nil
  refine ⟨fun n i h' => 0 ≤ i ∧ i + n = (xss.length : Int) ∧ (∀ q : Nat, (q : Int) < i → ¬ (farP xss q).getD p.toNat 0 < 0) ∧ Fr No h h', ⟨xss.length, by omega, by omega, fun q hq => by omega, f2⟩, ?_⟩
  rintro n i h3 ⟨i0, i1, i2, f3⟩ hL3
  have G3 := G.no f3
  refine ⟨fun e => ?_, fun e => ?_⟩
  · have hi := G3.lt e
    have ei : ((i.toNat : Nat) : Int) = i := by omega
    refine k_lengths G3 hg i0 hi _ fun t h4 o4 hl f4 => ⟨t, rfl, hL3.of_no f4, ?_⟩
    have r4 : RdI _ h4 t _ := Ow.rdF o4
    refine ⟨r4.inb h0 (by omega), _, r4.get h0 (by omega), fun e2 => ?_, fun e2 => ?_⟩
    · simp only [decide_eq_true_eq] at e2
      have : leadB xss p = false := by
        unfold leadB
        rw [List.all_eq_false]
        refine ⟨i.toNat, by simp; omega, ?_⟩
        rw [ei, getD_getI (by omega), decide_eq_true e2]
        simp
      rw [this] at HK
      exact HK h4 (f3.no_trans f4)
    · simp only [decide_eq_false_iff_not] at e2
      rw [G3.succ i0 hi]
      refine ⟨n - 1, by omega, by omega, by omega, fun q hq => ?_, f3.no_trans f4⟩
      by_cases hq2 : (q : Int) < i
      · exact i2 q hq2
      · have : (q : Int) = i := by omega
        rw [this, getD_getI (by omega)]
        exact e2
  · have hi := G3.ge e
    have : leadB xss p = true := by
      unfold leadB
      rw [range_all]
      intro q hq
      rw [decide_eq_false (i2 q (by omega))]
      rfl
    rw [this] at HK
    exact HK h3 f3

theorem k_chSink {S : Nat → Prop} {h : Heap} {g : Sl} {xss : List (List Int)} (G : RdR S h g xss) (sink : Int) : Ret Try.prog 111 #[.agg #[g.v], VI sink] h (VB (sinkB xss sink)) := by
  intro K HK
  unfold sinkB at HK
  refine v111 g sink h K fun b1 h2 hb1 f2 hL2 => ?_
  have f2 := f2.in_nil
  refine k_spec_grPlace (G.no f2) sink _ fun h3 f3 => ⟨_, rfl, hL2.of_no f3, fun e => ?_, fun e => ?_⟩
  · rw [e, Bool.true_and] at HK
    rw [Bool.and_eq_true, inR_iff] at e
    exact k_grLeads (G.no (f2.no_trans f3)) e.1 e.2.1 (by omega) _ fun h4 f4 => ⟨_, rfl, (hL2.of_no f3).of_no f4, HK h4 ((f2.no_trans f3).no_trans f4)⟩
  · rw [e, Bool.false_and] at HK
    exact HK h3 (f2.no_trans f3)

theorem k_hasSink {S : Nat → Prop} {h : Heap} {g : Sl} {xss : List (List Int)} (G : RdR S h g xss) (sink : Int) : Ret Try.prog 105 #[.agg #[g.v], VI sink] h (VB (sinkB xss sink)) := by
  intro K HK
  unfold sinkB at HK
  refine v105 g sink h K fun b1 h2 hb1 f2 hL2 => ?_
  have f2 := f2.in_nil
  refine eop_lit rIs (fun k => h2.size ≤ k) (fun _ h => h) 1 (by omega) [VI sink] rfl rfl fun t h2' n2 c2 o2 f2' m2 _ => ⟨t, rfl, hL2.of_no f2', ?_⟩
  have o2 : RdI (fun k => h2.size ≤ k) h2' t [sink] := o2.rdF
  have hL2' := hL2.of_no f2'
  have f02 := f2.no_trans f2'
  refine k_has (G.no f02) o2 _ fun h3 f3 => ⟨_, rfl, hL2'.of_no f3, fun e => ?_, fun e => ?_⟩
  all_goals simp only [List.all_cons, List.all_nil, Bool.and_true] at e
  · rw [e, Bool.true_and] at HK
    rw [Bool.and_eq_true, inR_iff] at e
    exact k_leadsTo (G.no (f02.no_trans f3)) e.1 e.2.1 (by omega) _ fun h4 f4 => ⟨_, rfl, (hL2'.of_no f3).of_no f4, HK h4 ((f02.no_trans f3).no_trans f4)⟩
  · rw [e, Bool.false_and] at HK
    exact HK h3 (f02.no_trans f3)

theorem k_sum {S : Nat → Prop} {h : Heap} {s : Sl} {xs : List Int} (H : RdI S h s xs) (hb : ∀ x, x ∈ xs → 0 ≤ x ∧ x ≤ 20) (hn : xs.length ≤ 1000) (K : Value → Heap → Prop) (HK : K (VI xs.sum) h) : callM Try.prog 92 #[s.v] h K := by
  refine v92 s h K ⟨fun n t i h' => h' = h ∧ 0 ≤ i ∧ i + n = (xs.length : Int) ∧ t = (xs.take i.toNat).sum ∧ 0 ≤ t ∧ t ≤ 20 * i, ⟨xs.length, rfl, by omega, by omega, by simp, by omega, by omega⟩, ?_⟩
  rintro n t i _ ⟨rfl, i0, i1, e1, t0, t1⟩ hL
  refine ⟨fun e => ?_, fun e => ?_⟩
  · have hi := H.lt e
    have hx := hb _ (List.getElem_mem (show i.toNat < xs.length by omega))
    refine ⟨H.inb i0 hi, _, H.get i0 hi, ?_⟩
    rw [H.succ i0 hi, w64_eq _ (by omega) (by omega)]
    refine ⟨n - 1, by omega, rfl, by omega, by omega, ?_, by omega, by omega⟩
    rw [take_snoc xs i0 hi, List.sum_append, e1]
    simp
  · have hi := H.ge e
    rw [List.take_of_length_le (by omega)] at e1
    rw [e1]
    exact HK

theorem k_chSum {S : Nat → Prop} {h : Heap} {s : Sl} {xs : List Int} (H : RdI S h s xs) (hb : ∀ x, x ∈ xs → 0 ≤ x ∧ x ≤ 20) (hn : xs.length ≤ 1000) (K : Value → Heap → Prop) (HK : K (VI xs.sum) h) : callM Try.prog 139 #[s.v] h K := by
  refine v139 s h K ⟨fun n t i h' => h' = h ∧ 0 ≤ i ∧ i + n = (xs.length : Int) ∧ t = (xs.take i.toNat).sum ∧ 0 ≤ t ∧ t ≤ 20 * i, ⟨xs.length, rfl, by omega, by omega, by simp, by omega, by omega⟩, ?_⟩
  rintro n t i _ ⟨rfl, i0, i1, e1, t0, t1⟩ hL
  refine ⟨fun e => ?_, fun e => ?_⟩
  · have hi := H.lt e
    have hx := hb _ (List.getElem_mem (show i.toNat < xs.length by omega))
    refine ⟨H.inb i0 hi, _, H.get i0 hi, ?_⟩
    rw [H.succ i0 hi, w64_eq _ (by omega) (by omega)]
    refine ⟨n - 1, by omega, rfl, by omega, by omega, ?_, by omega, by omega⟩
    rw [take_snoc xs i0 hi, List.sum_append, e1]
    simp
  · have hi := H.ge e
    rw [List.take_of_length_le (by omega)] at e1
    rw [e1]
    exact HK

abbrev Lo := List Int × List Int
def loadB (g : List (List Int)) (sink : Int) (l : Lo) : Bool := sinkB g sink && (walkB g l.1 0 && (decide (l.2.length = g.length) && (l.2.all (inR 0 20) && decide (l.2.sum ≤ 20))))
theorem sink_of {g : List (List Int)} {sink : Int} (h : sinkB g sink = true) : graphB g = true ∧ 0 ≤ sink ∧ sink < (g.length : Int) ∧ leadB g sink = true := by
  unfold sinkB at h
  rw [Bool.and_eq_true, Bool.and_eq_true, inR_iff] at h
  exact ⟨h.1.1, h.1.2.1, by omega, h.2⟩
theorem walkB_at {g : List (List Int)} {sink : Int} {rs : List Int} (h : sinkB g sink = true) : walkB g rs sink = walkB g rs 0 := by
  obtain ⟨h1, h2, h3, _⟩ := sink_of h
  unfold walkB
  have a : inR 0 ((g.length : Int) - 1) sink = true := inR_iff.2 (by omega)
  have b : inR 0 ((g.length : Int) - 1) 0 = true := inR_iff.2 (by omega)
  rw [a, b]
theorem all_chips {cs : List Int} (h : cs.all (inR 0 20) = true) : ∀ x, x ∈ cs → 0 ≤ x ∧ x ≤ 20 := fun x hx => inR_iff.1 (List.all_eq_true.1 h x hx)
def mvP (g : List (List Int)) (l : Lo) (p : Int) : Lo := match stepP g (l.1, p) with
  | none => l
  | some s => (s.1, (l.2.set p.toNat (l.2.getD p.toNat 0 - 1)).set s.2.toNat ((l.2.set p.toNat (l.2.getD p.toNat 0 - 1)).getD s.2.toNat 0 + 1))
structure LOK (g : List (List Int)) (m : Nat) (l : Lo) : Prop where
  w : WOK g (l.1, 0)
  len : l.2.length = g.length
  cb : ∀ c, c ∈ l.2 → -(20 + (m : Int)) ≤ c ∧ c ≤ 20 + (m : Int)
theorem WOK.to {g : List (List Int)} {rs : List Int} {a p : Int} (W : WOK g (rs, a)) (h0 : 0 ≤ p) (h1 : p < (g.length : Int)) : WOK g (rs, p) := ⟨W.graph, W.len, h0, h1, W.rot⟩
theorem load_of {g : List (List Int)} {sink : Int} {l : Lo} (h : loadB g sink l = true) : sinkB g sink = true ∧ LOK g 0 l ∧ ∀ c, c ∈ l.2 → 0 ≤ c := by
  unfold loadB at h
  simp only [Bool.and_eq_true, decide_eq_true_eq] at h
  obtain ⟨h1, h2, h3, h4, h5⟩ := h
  have h6 := all_chips h4
  exact ⟨h1, ⟨wok_of h2, h3, fun c hc => by have := h6 c hc; omega⟩, fun c hc => (h6 c hc).1⟩
theorem mem_set2 {l : List Int} {i : Nat} {v x : Int} (h : x ∈ l.set i v) : x ∈ l ∨ x = v := List.mem_or_eq_of_mem_set h
theorem LOK.mv {g : List (List Int)} {m : Nat} {l : Lo} (L : LOK g m l) {p : Int} (h0 : 0 ≤ p) (h1 : p < (g.length : Int)) : LOK g (m + 1) (mvP g l p) := by
  have hl := L.len
  unfold mvP
  split
  · exact ⟨L.w, L.len, fun c hc => by have := L.cb c hc; omega⟩
  · rename_i s hs
    have W := (L.w.to h0 h1).step hs
    have hlo := W.lo
    have hhi := W.hi
    refine ⟨⟨W.graph, W.len, by simp, by simp only; omega, W.rot⟩, by simp [hl], fun c hc => ?_⟩
    have hp : p.toNat < l.2.length := by omega
    have c0 := L.cb _ (List.getElem_mem hp)
    rw [getD_getI hp] at hc
    have key : ∀ x, x ∈ l.2.set p.toNat (l.2[p.toNat] - 1) → -(20 + (m : Int)) - 1 ≤ x ∧ x ≤ 20 + (m : Int) := fun x hx => by
      rcases mem_set2 hx with h | rfl
      · have := L.cb x h; omega
      · omega
    rcases mem_set2 hc with h | rfl
    · have := key c h; omega
    · rw [getD_getI (by simp; omega)]
      have := key _ (List.getElem_mem (show s.2.toNat < (l.2.set p.toNat (l.2[p.toNat] - 1)).length by simp; omega))
      omega
theorem mv_nn {g : List (List Int)} {m : Nat} {l : Lo} (L : LOK g m l) {p : Int} (h0 : 0 ≤ p) (h1 : p < (g.length : Int)) (hn : ∀ c, c ∈ l.2 → 0 ≤ c) (hp : 1 ≤ l.2.getD p.toNat 0) : ∀ c, c ∈ (mvP g l p).2 → 0 ≤ c := by
  unfold mvP
  split
  · exact hn
  · rename_i s hs
    intro c hc
    have W := (L.w.to h0 h1).step hs
    have hlo := W.lo
    have hhi := W.hi
    have hl := L.len
    have key : ∀ x, x ∈ l.2.set p.toNat (l.2.getD p.toNat 0 - 1) → 0 ≤ x := fun x hx => by
      rcases mem_set2 hx with h | rfl
      · exact hn x h
      · omega
    rcases mem_set2 hc with h | rfl
    · exact key c h
    · rw [getD_getI (by simp; omega)]
      have := key _ (List.getElem_mem (show s.2.toNat < (l.2.set p.toNat (l.2.getD p.toNat 0 - 1)).length by simp; omega))
      omega
theorem mvP_len {g : List (List Int)} {m : Nat} {l : Lo} (L : LOK g m l) {p : Int} (h0 : 0 ≤ p) (h1 : p < (g.length : Int)) : (mvP g l p).1.length = g.length ∧ (mvP g l p).2.length = g.length := ⟨(L.mv h0 h1).w.len, (L.mv h0 h1).len⟩

theorem k_areRotors {S S' : Nat → Prop} {h : Heap} {g s : Sl} {xss : List (List Int)} {rs : List Int} (G : RdR S h g xss) (H : RdI S' h s rs) : Ret Try.prog 140 #[.agg #[g.v], s.v] h (VB (walkB xss rs 0)) := by
  intro K HK
  refine v140 g s h K fun b1 h2 hb1 f2 hL2 => ?_
  have f2 := f2.in_nil
  exact k_isWalk (G.no f2) (H.no f2) 0 _ fun h3 f3 => ⟨_, rfl, hL2.of_no f3, HK h3 (f2.no_trans f3)⟩

theorem k_areChips1 (x : Int) (h : Heap) (K : Value → Heap → Prop) (HK : K (VB (!inR 0 20 x)) h) : callV Try.prog (.func (.func 175) #[] #[]) [VI x] h K :=
  v175 x h K (k_impl_in _ _ _ _ _ ⟨_, rfl, .nil, HK⟩)

theorem k_areChips {S S' : Nat → Prop} {h : Heap} {g s : Sl} {xss : List (List Int)} {cs : List Int} (G : RdR S h g xss) (H : RdI S' h s cs) : Ret Try.prog 141 #[.agg #[g.v], s.v] h (VB (decide (cs.length = xss.length) && cs.all (inR 0 20))) := by
  intro K HK
  have h1 := G.len
  have h2 := H.len
  refine v141 g s h K ⟨fun e b1 h2 hb1 f2 hL2 => ?_, fun e b1 h2 hb1 f2 hL2 => ?_⟩
  · simp only [decide_eq_true_eq] at e
    rw [decide_eq_true (by omega), Bool.true_and] at HK
    have f2 := f2.in_nil
    refine k_ContainsFunc (H.no f2) _ _ (fun x K HK => k_areChips1 x h2 K HK) _ ⟨_, rfl, hL2, ?_⟩
    rw [any_not, Bool.not_not]
    exact HK h2 f2
  · simp only [decide_eq_false_iff_not] at e
    rw [decide_eq_false (by omega), Bool.false_and] at HK
    exact HK h2 f2.in_nil

theorem k_chGood {S S1 S2 : Nat → Prop} {h : Heap} {g r c : Sl} {xss : List (List Int)} {l : Lo} (G : RdR S h g xss) (H1 : RdI S1 h r l.1) (H2 : RdI S2 h c l.2) (sink : Int) : Ret Try.prog 76 #[.agg #[g.v], VI sink, .agg #[r.v, c.v]] h (VB (loadB xss sink l)) := by
  intro K HK
  unfold loadB at HK
  refine v76 g sink r c h K fun b1 b2 h2 hb1 hb2 f2 hL2 => ?_
  have f2 := f2.in_nil
  refine k_chSink (G.no f2) sink _ fun h3 f3 => ⟨_, rfl, hL2.of_no f3, fun e => ?_, fun e => ?_⟩
  · rw [not_t e, Bool.false_and] at HK; exact HK h3 (f2.no_trans f3)
  have e := not_f e
  rw [e, Bool.true_and] at HK
  have f03 := f2.no_trans f3
  have hL3 := hL2.of_no f3
  have hgl := graph_len (sink_of e).1
  refine k_spec_waGood (G.no f03) (H1.no f03) sink _ fun h4 f4 => ⟨_, rfl, hL3.of_no f4, fun e2 => ?_, fun e2 => ?_⟩
  · rw [walkB_at e] at e2
    rw [not_t e2, Bool.false_and] at HK; exact HK h4 (f03.no_trans f4)
  rw [walkB_at e] at e2
  rw [not_f e2, Bool.true_and] at HK
  have f04 := f03.no_trans f4
  have hL4 := hL3.of_no f4
  have hg := G.len
  have hc := H2.len
  refine ⟨fun e3 => ?_, fun e3 => ?_⟩
  · have e3 := not_t e3
    simp only [decide_eq_false_iff_not] at e3
    rw [decide_eq_false (by omega), Bool.false_and] at HK; exact HK h4 f04
  have e3 := not_f e3
  simp only [decide_eq_true_eq] at e3
  rw [decide_eq_true (show l.2.length = xss.length by omega), Bool.true_and] at HK
  refine k_spec_l1All (H2.no f04) _ _ _ ⟨_, rfl, hL4, fun e4 => ?_, fun e4 => ?_⟩
  · rw [e4, Bool.true_and] at HK
    exact k_chSum (H2.no f04) (all_chips e4) (by omega) _ ⟨_, rfl, hL4, HK h4 f04⟩
  · rw [e4, Bool.false_and] at HK
    exact HK h4 f04

theorem k_isLoad {S S1 S2 : Nat → Prop} {h : Heap} {g r c : Sl} {xss : List (List Int)} {l : Lo} (G : RdR S h g xss) (H1 : RdI S1 h r l.1) (H2 : RdI S2 h c l.2) (sink : Int) : Ret Try.prog 79 #[.agg #[g.v], VI sink, .agg #[r.v, c.v]] h (VB (loadB xss sink l)) := by
  intro K HK
  unfold loadB at HK
  refine v79 g sink r c h K fun b1 b2 h2 hb1 hb2 f2 hL2 => ?_
  have f2 := f2.in_nil
  refine k_hasSink (G.no f2) sink _ fun h3 f3 => ⟨_, rfl, hL2.of_no f3, fun e => ?_, fun e => ?_⟩
  rotate_left
  · rw [e, Bool.false_and] at HK; exact HK h3 (f2.no_trans f3)
  rw [e, Bool.true_and] at HK
  have f03 := f2.no_trans f3
  have hL3 := hL2.of_no f3
  have hgl := graph_len (sink_of e).1
  refine k_areRotors (G.no f03) (H1.no f03) _ fun h4 f4 => ⟨_, rfl, hL3.of_no f4, fun e2 => ?_, fun e2 => ?_⟩
  rotate_left
  · rw [e2, Bool.false_and] at HK; exact HK h4 (f03.no_trans f4)
  rw [e2, Bool.true_and] at HK
  have f04 := f03.no_trans f4
  have hL4 := hL3.of_no f4
  rw [← Bool.and_assoc] at HK
  refine k_areChips (G.no f04) (H2.no f04) _ fun h5 f5 => ⟨_, rfl, hL4.of_no f5, fun e3 => ?_, fun e3 => ?_⟩
  rotate_left
  · rw [e3, Bool.false_and] at HK; exact HK h5 (f04.no_trans f5)
  rw [e3, Bool.true_and] at HK
  rw [Bool.and_eq_true, decide_eq_true_eq] at e3
  have f05 := f04.no_trans f5
  exact k_sum (H2.no f05) (all_chips e3.2) (by omega) _ ⟨_, rfl, hL4.of_no f5, HK h5 f05⟩

theorem k_copiedL {S1 S2 : Nat → Prop} {h : Heap} {r c : Sl} {l : Lo} (H1 : RdI S1 h r l.1) (H2 : RdI S2 h c l.2) (n1 : l.1.length ≤ 1000000) (n2 : l.2.length ≤ 1000000) (K : Value → Heap → Prop) (HK : ∀ t u m h', OwI h' (Iv h.size m) t l.1 → OwI h' (Iv m h'.size) u l.2 → h.size ≤ m → m ≤ h'.size → Fr No h h' → K (.agg #[t.v, u.v]) h') : callM Try.prog 80 #[.agg #[r.v, c.v]] h K := by
  refine v80 r c h K fun b1 b2 h2 hb1 hb2 f2 hL2 => ?_
  have f2 := f2.in_nil
  have l2 : b2 < h2.size := hL2.head.lt
  have z2 := f2.size
  refine k_Clone (H1.no f2) (by omega) _ fun t h3 o3 f3 => ⟨t, rfl, hL2.of_no f3, ?_⟩
  have f03 := f2.no_trans f3
  refine k_Clone (H2.no f03) (by omega) _ fun u h4 o4 f4 => ⟨u, rfl, (hL2.of_no f3).of_no f4, fun h5 f5 _ => ?_⟩
  have f5 := f5.inIv (lo := h.size) (hi := h2.size) ⟨⟨hb2, l2⟩, trivial⟩
  have z3 := f3.size
  have z4 := f4.size
  have z5 := f5.size
  exact HK t u h3.size h5 (((Ow.no o3 f4).iv f5 (by omega)).ivs (by omega) (by omega)) ((Ow.iv o4 f5 (by omega)).ivs (by omega) (by omega)) (by omega) (by omega) ((f03.no_trans f4).ivFresh f5 (Nat.le_refl _))

theorem k_chOwn {S1 S2 : Nat → Prop} {h : Heap} {r c : Sl} {l : Lo} (H1 : RdI S1 h r l.1) (H2 : RdI S2 h c l.2) (n1 : l.1.length ≤ 1000000) (n2 : l.2.length ≤ 1000000) (K : Value → Heap → Prop) (HK : ∀ t u m h', OwI h' (Iv h.size m) t l.1 → OwI h' (Iv m h'.size) u l.2 → h.size ≤ m → m ≤ h'.size → Fr No h h' → K (.agg #[t.v, u.v]) h') : callM Try.prog 109 #[.agg #[r.v, c.v]] h K := by
  refine v109 r c h K fun b1 b2 h2 hb1 hb2 f2 hL2 => ?_
  have f2 := f2.in_nil
  have l2 : b2 < h2.size := hL2.head.lt
  have z2 := f2.size
  refine k_l1Own (H1.no f2) (by omega) _ fun t h3 o3 f3 => ⟨t, rfl, hL2.of_no f3, ?_⟩
  have f03 := f2.no_trans f3
  refine k_l1Own (H2.no f03) (by omega) _ fun u h4 o4 f4 => ⟨u, rfl, (hL2.of_no f3).of_no f4, fun h5 f5 _ => ?_⟩
  have f5 := f5.inIv (lo := h.size) (hi := h2.size) ⟨⟨hb2, l2⟩, trivial⟩
  have z3 := f3.size
  have z4 := f4.size
  have z5 := f5.size
  exact HK t u h3.size h5 (((Ow.no o3 f4).iv f5 (by omega)).ivs (by omega) (by omega)) ((Ow.iv o4 f5 (by omega)).ivs (by omega) (by omega)) (by omega) (by omega) ((f03.no_trans f4).ivFresh f5 (Nat.le_refl _))

theorem k_chMove {a m b : Nat} {h : Heap} {g r c : Sl} {xss : List (List Int)} {l : Lo} {q : Nat} (G : RdR (fun k => k < a) h g xss) (R : OwI h (Iv a m) r l.1) (C : OwI h (Iv m b) c l.2) (ha : a ≤ m) (hm : m ≤ b) (hb : b ≤ h.size) (L : LOK xss q l) (hq : q ≤ 1000000) {p : Int} (h0 : 0 ≤ p) (h1 : p < (xss.length : Int)) (he : (xss.getD p.toNat []).length ≠ 0) (K : Value → Heap → Prop)
    (HK : ∀ h' v, OwI h' (Iv a m) r (mvP xss l p).1 → OwI h' (Iv m b) c (mvP xss l p).2 → Fr (Iv a b) h h' → K v h') : callM Try.prog 110 #[.agg #[g.v], .agg #[r.v, c.v], VI p] h K := by
  have W := L.w.to h0 h1
  have hp : p.toNat < xss.length := by omega
  have hrl : l.1.length = xss.length := L.w.len
  have hcl := L.len
  have hr : p.toNat < l.1.length := by omega
  have hpc : p.toNat < l.2.length := by omega
  rw [getD_get hp] at he
  have hst := stepP_some W hp hr he
  simp only at hst
  have hmod := Nat.mod_lt ((l.1[p.toNat]'hr).toNat + 1) (show 0 < (xss[p.toNat]'hp).length by omega)
  have hrot := W.rot _ hr hp
  simp only at hrot
  have hbig := (graph_mem W.graph (List.getElem_mem hp)).1
  have hqm := (graph_mem W.graph (List.getElem_mem hp)).2 _ (List.getElem_mem hmod)
  have hcp := L.cb _ (List.getElem_mem hpc)
  have emv : mvP xss l p = (l.1.set p.toNat ((((l.1[p.toNat]'hr).toNat + 1) % (xss[p.toNat]'hp).length : Nat) : Int), (l.2.set p.toNat (l.2[p.toNat] - 1)).set ((xss[p.toNat]'hp)[((l.1[p.toNat]'hr).toNat + 1) % (xss[p.toNat]'hp).length]'hmod).toNat ((l.2.set p.toNat (l.2[p.toNat] - 1)).getD ((xss[p.toNat]'hp)[((l.1[p.toNat]'hr).toNat + 1) % (xss[p.toNat]'hp).length]'hmod).toNat 0 + 1)) := by
    unfold mvP
    rw [hst]
    simp only
    rw [getD_getI hpc]
  rw [emv] at HK
  refine v110 g r c p h K ⟨G.inb h0 h1, fun b1 b2 h2 hb1 hb2 f2 hL2 => ?_⟩
  have f2 := f2.in_nil
  have z2 := f2.size
  obtain ⟨si, c1, r1⟩ := (G.no f2).get h0 h1
  have hsn := r1.len
  have R2 := Ow.no R f2
  have C2 := Ow.no C f2
  have rr : RdI (Iv a m) h2 r l.1 := R2.rdI
  have hrn := rr.len
  have hw : w64 (l.1[p.toNat]'hr + 1) = l.1[p.toNat]'hr + 1 := w64_eq _ (by omega) (by omega)
  have hm2 : Int.tmod (l.1[p.toNat]'hr + 1) (si.n : Int) = ((((l.1[p.toNat]'hr).toNat + 1) % (xss[p.toNat]'hp).length : Nat) : Int) := by
    rw [tmod_nat (by omega) (by omega), hsn]
    congr 2
    omega
  refine ⟨si, c1, rr.inb h0 (by omega), _, rr.get h0 (by omega), by omega, rr.inb h0 (by omega), ?_⟩
  rw [hw, hm2]
  obtain ⟨w1, w2, w3⟩ := R2.store1 h0 (by omega) (VI ((((l.1[p.toNat]'hr).toNat + 1) % (xss[p.toNat]'hp).length : Nat) : Int))
  have w3' : Fr (Iv a m) h2 _ := w3.mono fun _ _ hk => (R2.foot hk).1
  have hL3 := hL2.iv w3' ⟨.inr (by omega), .inr (by omega), trivial⟩
  refine ⟨w1, hL3, fun h3 e3 _ => ?_⟩
  subst e3
  rw [← List.map_set] at w2
  have C3 := Ow.iv C2 w3' (.inr (Nat.le_refl _))
  have cc : RdI (Iv m b) _ c l.2 := C3.rdI
  have hcn := cc.len
  refine ⟨cc.inb h0 (by omega), _, cc.get h0 (by omega), cc.inb h0 (by omega), ?_⟩
  rw [w64_eq _ (by omega) (by omega)]
  obtain ⟨x1, x2, x3⟩ := C3.store1 h0 (by omega) (VI (l.2[p.toNat] - 1))
  have x3' : Fr (Iv m b) _ _ := x3.mono fun _ _ hk => (C3.foot hk).1
  have hL4 := hL3.iv x3' ⟨.inr (by omega), .inr (by omega), trivial⟩
  refine ⟨x1, hL4, fun h4 e4 _ => ?_⟩
  subst e4
  rw [← List.map_set] at x2
  have R4 := Ow.iv w2 x3' (.inl (Nat.le_refl _))
  have rr4 : RdI (Iv a m) _ r _ := R4.rdI
  have hv := rr4.get h0 (by simp; omega)
  rw [List.getElem_set_self] at hv
  have r4 := (RdI.fr r1 w3' (fun k hk hk2 => by have := hk2.1; omega)).fr x3' (fun k hk hk2 => by have := hk2.1; omega)
  have hq4 := r4.get (i := ((((l.1[p.toNat]'hr).toNat + 1) % (xss[p.toNat]'hp).length : Nat) : Int)) (by omega) (by omega)
  simp only [Int.toNat_natCast] at hq4
  have cc4 : RdI (Iv m b) _ c _ := x2.rdI
  have hql : ((xss[p.toNat]'hp)[((l.1[p.toNat]'hr).toNat + 1) % (xss[p.toNat]'hp).length]'hmod).toNat < (l.2.set p.toNat (l.2[p.toNat] - 1)).length := by simp; omega
  have hqb : -(20 + (q : Int)) - 1 ≤ (l.2.set p.toNat (l.2[p.toNat] - 1))[((xss[p.toNat]'hp)[((l.1[p.toNat]'hr).toNat + 1) % (xss[p.toNat]'hp).length]'hmod).toNat]'hql ∧ (l.2.set p.toNat (l.2[p.toNat] - 1))[((xss[p.toNat]'hp)[((l.1[p.toNat]'hr).toNat + 1) % (xss[p.toNat]'hp).length]'hmod).toNat]'hql ≤ 20 + (q : Int) := by
    rcases mem_set2 (List.getElem_mem hql) with h | h
    · have := L.cb _ h; omega
    · rw [h]; omega
  refine ⟨rr4.inb h0 (by simp; omega), _, hv, r4.inb (by omega) (by omega), _, hq4, cc4.inb hqm.1 (by simp; omega), _, cc4.get hqm.1 (by simp; omega), cc4.inb hqm.1 (by simp; omega), ?_⟩
  rw [w64_eq _ (by omega) (by omega)]
  obtain ⟨y1, y2, y3⟩ := x2.store1 hqm.1 (by have := cc4.len; simp at this; omega) (VI ((l.2.set p.toNat (l.2[p.toNat] - 1))[((xss[p.toNat]'hp)[((l.1[p.toNat]'hr).toNat + 1) % (xss[p.toNat]'hp).length]'hmod).toNat]'hql + 1))
  have y3' : Fr (Iv m b) _ _ := y3.mono fun _ _ hk => (x2.foot hk).1
  refine ⟨y1, hL4.iv y3' ⟨.inr (by omega), .inr (by omega), trivial⟩, fun h5 e5 _ => ?_⟩
  subst e5
  rw [← List.map_set] at y2
  refine HK _ _ (Ow.iv R4 y3' (.inl (Nat.le_refl _))) ?_ (((f2.of_no.trans (w3'.ivs (Nat.le_refl _) hm)).trans (x3'.ivs ha (Nat.le_refl _))).trans (y3'.ivs ha (Nat.le_refl _)))
  rw [getD_getI hql]
  exact y2

theorem k_send {a m b bL : Nat} {h : Heap} {g r c : Sl} {xss : List (List Int)} {l : Lo} {q : Nat} (V : IsVar h bL [r.v, c.v]) (hbL : b ≤ bL ∨ bL < a) (G : RdR (fun k => k < a) h g xss) (R : OwI h (Iv a m) r l.1) (C : OwI h (Iv m b) c l.2) (ha : a ≤ m) (hm : m ≤ b) (hb : b ≤ h.size) (L : LOK xss q l) (hq : q ≤ 1000000) {p : Int} (h0 : 0 ≤ p) (h1 : p < (xss.length : Int)) (he : (xss.getD p.toNat []).length ≠ 0) (K : Value → Heap → Prop)
    (HK : ∀ h' v, OwI h' (Iv a m) r (mvP xss l p).1 → OwI h' (Iv m b) c (mvP xss l p).2 → Fr (Iv a b) h h' → K v h') : callM Try.prog 143 #[VP bL 0, .agg #[g.v], VI p] h K := by
  have W := L.w.to h0 h1
  have hp : p.toNat < xss.length := by omega
  have hrl : l.1.length = xss.length := L.w.len
  have hcl := L.len
  have hr : p.toNat < l.1.length := by omega
  have hpc : p.toNat < l.2.length := by omega
  rw [getD_get hp] at he
  have hcp := L.cb _ (List.getElem_mem hpc)
  have lb := V.lt
  refine v143 bL r c g p h K (.cons V (by simp) .nil) fun b2 b3 h3 hb2 hb3 f3 hL3 => ?_
  have f3 := f3.in_nil
  have z3 := f3.size
  have l3 : b3 < h3.size := hL3.head.lt
  have R3 := Ow.no R f3
  have C3 := Ow.no C f3
  have n32 : b2 ≠ b3 := hL3.ne (b2, [g.v]) (by simp)
  have n3L : bL ≠ b3 := by omega
  refine k_stepF (F := fun k => Iv a m k ∨ k = b3) (s := (l.1, p)) (G.no f3) hL3.head (R3.mono fun k _ hk => .inl hk) (fun k hk hk2 => by rcases hk2 with hk2 | hk2; have := hk2.1; omega; omega) (.inr rfl) (fun hk => by have := (R3.foot hk).1.2; omega) W _ (fun hs => by rw [stepP_some W hp hr he] at hs; cases hs) fun s' hs h4 o4 v4 f4 => ?_
  have W' := W.step hs
  have hlo := W'.lo
  have hhi := W'.hi
  have hL4 : Vars h4 [(b3, [r.v, VI s'.2]), (b2, [g.v]), (bL, [r.v, c.v])] := .cons v4 (fun p hp => hL3.ne p (by simpa using hp)) (hL3.tail.fr f4 fun p hp hk => by
    simp only [List.mem_cons, List.not_mem_nil, or_false] at hp
    rcases hp with rfl | rfl <;> simp only at hk
    · rcases hk with hk | hk
      · have := hk.2; omega
      · exact n32 hk
    · rcases hk with hk | hk
      · have := hk.2; have := hk.1; omega
      · exact n3L hk)
  have C4 : OwI h4 (Iv m b) c l.2 := Ow.fr C3 f4 fun k hk hk2 => by
    have h5 := (C3.foot hk).1
    rcases hk2 with hk2 | rfl
    · have := hk2.2; have := h5.1; omega
    · have := h5.2; omega
  have R4 : OwI h4 (Iv a m) r s'.1 := o4.mono fun k hk _ => (R3.foot hk).1
  have z4 := f4.size
  have emv : mvP xss l p = (s'.1, (l.2.set p.toNat (l.2[p.toNat] - 1)).set s'.2.toNat ((l.2.set p.toNat (l.2[p.toNat] - 1)).getD s'.2.toNat 0 + 1)) := by
    unfold mvP
    rw [hs]
    simp only
    rw [getD_getI hpc]
  rw [emv] at HK
  have cc : RdI (Iv m b) h4 c l.2 := C4.rdI
  have hcn := cc.len
  refine ⟨r, s'.2, _, rfl, hL4, cc.inb h0 (by omega), _, cc.get h0 (by omega), cc.inb h0 (by omega), ?_⟩
  rw [w64_eq _ (by omega) (by omega)]
  obtain ⟨x1, x2, x3⟩ := C4.store1 h0 (by omega) (VI (l.2[p.toNat] - 1))
  have x3' : Fr (Iv m b) h4 _ := x3.mono fun _ _ hk => (C4.foot hk).1
  have off : offL m b [(b3, [r.v, VI s'.2]), (b2, [g.v]), (bL, [r.v, c.v])] := ⟨.inr (by omega), .inr (by omega), by omega, trivial⟩
  have hL5 := hL4.iv x3' off
  refine ⟨x1, hL5, fun h5 e5 _ => ?_⟩
  subst e5
  rw [← List.map_set] at x2
  have cc5 : RdI (Iv m b) _ c _ := x2.rdI
  have hql : s'.2.toNat < (l.2.set p.toNat (l.2[p.toNat] - 1)).length := by simp; omega
  have hqb : -(20 + (q : Int)) - 1 ≤ (l.2.set p.toNat (l.2[p.toNat] - 1))[s'.2.toNat]'hql ∧ (l.2.set p.toNat (l.2[p.toNat] - 1))[s'.2.toNat]'hql ≤ 20 + (q : Int) := by
    rcases mem_set2 (List.getElem_mem hql) with h | h
    · have := L.cb _ h; omega
    · rw [h]; omega
  refine ⟨cc5.inb hlo (by simp; omega), _, cc5.get hlo (by simp; omega), cc5.inb hlo (by simp; omega), ?_⟩
  rw [w64_eq _ (by omega) (by omega)]
  obtain ⟨y1, y2, y3⟩ := x2.store1 hlo (by have := cc5.len; simp at this; omega) (VI ((l.2.set p.toNat (l.2[p.toNat] - 1))[s'.2.toNat]'hql + 1))
  have y3' : Fr (Iv m b) _ _ := y3.mono fun _ _ hk => (x2.foot hk).1
  refine ⟨y1, hL5.iv y3' off, fun h6 e6 _ => ?_⟩
  subst e6
  rw [← List.map_set] at y2
  have f34 : Fr (Iv a b) h h4 := ⟨by omega, fun k hk hk2 => by
    rw [f4.same k (by omega) fun h => by
      rcases h with h | h
      · exact hk2 ⟨h.1, Nat.lt_of_lt_of_le h.2 hm⟩
      · omega]
    exact f3.same k hk fun h => h⟩
  refine HK _ _ ((Ow.iv R4 x3' (.inl (Nat.le_refl _))).iv y3' (.inl (Nat.le_refl _))) ?_ ((f34.trans (x3'.ivs ha (Nat.le_refl _))).trans (y3'.ivs ha (Nat.le_refl _)))
  rw [getD_getI hql]
  exact y2

theorem k_move {a m b bL : Nat} {h : Heap} {g r c : Sl} {xss : List (List Int)} {l : Lo} {q : Nat} (V : IsVar h bL [r.v, c.v]) (hbL : b ≤ bL ∨ bL < a) (G : RdR (fun k => k < a) h g xss) (R : OwI h (Iv a m) r l.1) (C : OwI h (Iv m b) c l.2) (ha : a ≤ m) (hm : m ≤ b) (hb : b ≤ h.size) (L : LOK xss q l) (hq : q ≤ 1000000) (sink : Int) {p : Int} (h0 : 0 ≤ p) (h1 : p < (xss.length : Int)) (he : p ≠ sink → (xss.getD p.toNat []).length ≠ 0) (K : Value → Heap → Prop)
    (HN : p = sink ∨ l.2.getD p.toNat 0 = 0 → ∀ h', Fr No h h' → K (VB false) h')
    (HS : p ≠ sink → l.2.getD p.toNat 0 ≠ 0 → ∀ h', OwI h' (Iv a m) r (mvP xss l p).1 → OwI h' (Iv m b) c (mvP xss l p).2 → Fr (Iv a b) h h' → K (VB true) h') : callM Try.prog 108 #[VP bL 0, .agg #[g.v], VI sink, VI p] h K := by
  have hcl := L.len
  have lb := V.lt
  have cc : RdI (Iv m b) h c l.2 := C.rdI
  refine v108 bL r c g sink p h K (.cons V (by simp) .nil) ⟨fun e b2 h1 hb2 f1 _ => ?_, fun e => ⟨cc.inb h0 (by omega), fun b2 h1' hb2 f1 hL1 => ?_⟩⟩
  · simp only [decide_eq_true_eq] at e
    exact HN (.inl e) h1 f1.in_nil
  simp only [decide_eq_false_iff_not] at e
  have f1 := f1.in_nil
  have z1 := f1.size
  refine ⟨_, (cc.no f1).get h0 (by omega), fun e2 => ?_, fun e2 => ?_⟩
  · simp only [decide_eq_true_eq] at e2
    exact HN (.inr (by rw [getD_getI (by omega)]; exact e2)) h1' f1
  simp only [decide_eq_false_iff_not] at e2
  have hL1' := hL1.tail.head
  refine k_send hL1' hbL (G.no f1) (Ow.no R f1) (Ow.no C f1) ha hm (by omega) L hq h0 h1 (he e) _ fun h2 v o1 o2 f2 => ⟨r, c, hL1.iv f2 ⟨.inr (by omega), by omega, trivial⟩, HS e (by rw [getD_getI (by omega)]; exact e2) h2 o1 o2 (f1.of_no.trans f2)⟩

def wtP (sink : Int) (cs : List Int) : Nat → List Int
  | 0 => []
  | i + 1 => wtP sink cs i ++ (if (i : Int) ≠ sink ∧ 0 < cs.getD i 0 then [(i : Int)] else [])
def waitP (sink : Int) (cs : List Int) : List Int := wtP sink cs cs.length
theorem wtP_len (sink : Int) (cs : List Int) : ∀ n, (wtP sink cs n).length ≤ n
  | 0 => by simp [wtP]
  | n + 1 => by
    have := wtP_len sink cs n
    rw [wtP, List.length_append]
    split <;> simp <;> omega
theorem wtP_mem (sink : Int) (cs : List Int) : ∀ n x, x ∈ wtP sink cs n → 0 ≤ x ∧ x < (n : Int) ∧ x ≠ sink ∧ 0 < cs.getD x.toNat 0
  | 0, x, h => by simp [wtP] at h
  | n + 1, x, h => by
    rw [wtP, List.mem_append] at h
    rcases h with h | h
    · have := wtP_mem sink cs n x h; omega
    · split at h
      · rename_i hc
        simp only [List.mem_cons, List.not_mem_nil, or_false] at h
        subst h
        exact ⟨by omega, by omega, hc.1, by simpa using hc.2⟩
      · simp at h

theorem k_waiting {S : Nat → Prop} {bL : Nat} {h : Heap} {r c : Sl} {cs : List Int} (V : IsVar h bL [r.v, c.v]) (C : RdI S h c cs) (hn : cs.length ≤ 1000000) (sink : Int) (K : Value → Heap → Prop) (HK : ∀ t h', OwI h' (Iv h.size h'.size) t (waitP sink cs) → Fr No h h' → K t.v h') : callM Try.prog 94 #[VP bL 0, VI sink] h K := by
  have lb := V.lt
  refine v94 bL r c sink h K (.cons V (by simp) .nil) ?_
  refine eop_lit rIs (fun k => h.size ≤ k) (fun _ h => h) 0 (by omega) [] rfl rfl fun t0 h1 n1 c1 o1 f1 m1 _ => ⟨t0, rfl, .cons (V.fr f1 fun h => h) (by simp) .nil, ?_⟩
  have z1 := f1.size
  refine ⟨fun n x i h' => 0 ≤ i ∧ i + n = (cs.length : Int) ∧ OwI h' (fun k => h.size ≤ k) x (wtP sink cs i.toNat) ∧ Fr No h h' ∧ h.size ≤ h'.size, ⟨cs.length, by omega, by omega, o1, f1, z1⟩, ?_⟩
  rintro n x i h2 ⟨i0, i1, o2, f2, z2⟩ hL2
  have C2 := C.no f2
  refine ⟨fun e => ?_, fun e => ?_⟩
  · have hi := C2.lt e
    have hci : ((i.toNat : Nat) : Int) = i := by omega
    have est : wtP sink cs (i.toNat + 1) = wtP sink cs i.toNat ++ (if i ≠ sink ∧ 0 < cs[i.toNat]'(by omega) then [i] else []) := by rw [wtP, hci, getD_getI (by omega)]
    refine ⟨C2.inb i0 hi, _, C2.get i0 hi, fun e2 => ⟨fun e3 => ?_, fun e3 => ?_⟩, fun e2 => ?_⟩
    · have e2 := not_t e2
      simp only [decide_eq_false_iff_not] at e2
      simp only [decide_eq_true_eq] at e3
      refine eop_lit rIs (fun k => h2.size ≤ k) (fun _ h => h) 1 (by omega) [VI i] rfl rfl fun u h3 n3 c3 o3 f3 m3 _ => ⟨u, rfl, hL2.of_no f3, ?_⟩
      have z3 := f3.size
      have r3 : RdI u.own h3 u [i] := o3.rd
      have hxn := RdI.len (Ow.rdF o2 : RdI _ h2 x _)
      have hwl := wtP_len sink cs i.toNat
      refine eop_append rIs (Ow.no o2 f3) (fun k hk => by omega) r3 (plainVI _) (by have := r3.len; simp at this; omega) fun y h4 n4 o4 f4 d4 => ⟨y, rfl, (hL2.of_no f3).fr f4 (fun p hp hk => by
        simp only [List.mem_cons, List.not_mem_nil, or_false] at hp
        subst hp
        have := (o2.foot hk).1
        simp only at this
        omega), ?_⟩
      have z4 := f4.size
      rw [← List.map_append] at o4
      rw [C2.succ i0 hi]
      refine ⟨n - 1, by omega, by omega, by omega, ?_, (f2.no_trans f3).fresh f4 fun k hk => by have := (o2.foot hk).1; omega, by omega⟩
      rw [toNat_succ i0, est, if_pos ⟨e2, e3⟩]
      exact o4
    · simp only [decide_eq_false_iff_not] at e3
      rw [C2.succ i0 hi]
      refine ⟨n - 1, by omega, by omega, by omega, ?_, f2, z2⟩
      rw [toNat_succ i0, est, if_neg (fun h => e3 h.2), List.append_nil]
      exact o2
    · have e2 := not_f e2
      simp only [decide_eq_true_eq] at e2
      rw [C2.succ i0 hi]
      refine ⟨n - 1, by omega, by omega, by omega, ?_, f2, z2⟩
      rw [toNat_succ i0, est, if_neg (fun h => h.1 e2), List.append_nil]
      exact o2
  · have hi := C2.ge e
    rw [show i.toNat = cs.length by omega] at o2
    exact HK x h2 (Ow.toIv o2) f2

theorem k_chLoaded {S : Nat → Prop} {h : Heap} {c : Sl} {cs : List Int} (C : RdI S h c cs) (hn : cs.length ≤ 1000000) (sink : Int) (K : Value → Heap → Prop) (HK : ∀ t h', OwI h' (Iv h.size h'.size) t (waitP sink cs) → Fr No h h' → K t.v h') : callM Try.prog 96 #[VI sink, c.v] h K := by
  refine v96 sink c h K ?_
  refine ⟨fun n x i h' => 0 ≤ i ∧ i + n = (cs.length : Int) ∧ OwI h' (fun k => h.size ≤ k) x (wtP sink cs i.toNat) ∧ Fr No h h' ∧ h.size ≤ h'.size, ⟨cs.length, by omega, by omega, Ow.nil _ _ _ _, Fr.refl _ _, Nat.le_refl _⟩, ?_⟩
  rintro n x i h2 ⟨i0, i1, o2, f2, z2⟩ hL2
  have C2 := C.no f2
  refine ⟨fun e => ?_, fun e => ?_⟩
  · have hi := C2.lt e
    have hci : ((i.toNat : Nat) : Int) = i := by omega
    have est : wtP sink cs (i.toNat + 1) = wtP sink cs i.toNat ++ (if i ≠ sink ∧ 0 < cs[i.toNat]'(by omega) then [i] else []) := by rw [wtP, hci, getD_getI (by omega)]
    refine ⟨C2.inb i0 hi, _, C2.get i0 hi, fun e2 => ⟨fun e3 => ?_, fun e3 => ?_⟩, fun e2 => ?_⟩
    · have e2 := not_t e2
      simp only [decide_eq_false_iff_not] at e2
      simp only [decide_eq_true_eq] at e3
      refine eop_lit rIs (fun k => h2.size ≤ k) (fun _ h => h) 1 (by omega) [VI i] rfl rfl fun u h3 n3 c3 o3 f3 m3 _ => ⟨u, rfl, .nil, ?_⟩
      have z3 := f3.size
      have r3 : RdI u.own h3 u [i] := o3.rd
      have hxn := RdI.len (Ow.rdF o2 : RdI _ h2 x _)
      have hwl := wtP_len sink cs i.toNat
      refine eop_append rIs (Ow.no o2 f3) (fun k hk => by omega) r3 (plainVI _) (by have := r3.len; simp at this; omega) fun y h4 n4 o4 f4 d4 => ⟨y, rfl, .nil, ?_⟩
      have z4 := f4.size
      rw [← List.map_append] at o4
      rw [C2.succ i0 hi]
      refine ⟨n - 1, by omega, by omega, by omega, ?_, (f2.no_trans f3).fresh f4 fun k hk => by have := (o2.foot hk).1; omega, by omega⟩
      rw [toNat_succ i0, est, if_pos ⟨e2, e3⟩]
      exact o4
    · simp only [decide_eq_false_iff_not] at e3
      rw [C2.succ i0 hi]
      refine ⟨n - 1, by omega, by omega, by omega, ?_, f2, z2⟩
      rw [toNat_succ i0, est, if_neg (fun h => e3 h.2), List.append_nil]
      exact o2
    · have e2 := not_f e2
      simp only [decide_eq_true_eq] at e2
      rw [C2.succ i0 hi]
      refine ⟨n - 1, by omega, by omega, by omega, ?_, f2, z2⟩
      rw [toNat_succ i0, est, if_neg (fun h => h.1 e2), List.append_nil]
      exact o2
  · have hi := C2.ge e
    rw [show i.toNat = cs.length by omega] at o2
    exact HK x h2 (Ow.toIv o2) f2

def ordP (g : List (List Int)) (sink : Int) : List Int → Lo → Option Lo
  | [], l => some l
  | p :: ps, l => if p = sink ∨ l.2.getD p.toNat 0 < 1 then none else ordP g sink ps (mvP g l p)
def mioP (g : List (List Int)) (sink : Int) (l : Lo) (ps : List Int) : Lo × Bool :=
  if loadB g sink l && (decide (ps.length ≤ 100) && ps.all (inR 0 ((g.length : Int) - 1))) then match ordP g sink ps l with
    | some l' => (l', true)
    | none => (([], []), false)
  else (([], []), false)
theorem ordP_len {g : List (List Int)} {sink : Int} : ∀ {ps : List Int} {l l' : Lo} {m : Nat}, LOK g m l → (∀ p, p ∈ ps → 0 ≤ p ∧ p < (g.length : Int)) → ordP g sink ps l = some l' → ∃ m', LOK g m' l'
  | [], l, l', m, L, _, h => by
    simp only [ordP, Option.some.injEq] at h
    rw [← h]; exact ⟨m, L⟩
  | p :: ps, l, l', m, L, hp, h => by
    rw [ordP] at h
    split at h
    · cases h
    · have := hp p List.mem_cons_self
      exact ordP_len (L.mv this.1 this.2) (fun q hq => hp q (List.mem_cons_of_mem _ hq)) h
theorem in_all {n : Nat} {ps : List Int} (h : ps.all (inR 0 ((n : Int) - 1)) = true) : ∀ p, p ∈ ps → 0 ≤ p ∧ p < (n : Int) := fun p hp => by
  have := inR_iff.1 (List.all_eq_true.1 h p hp); omega
theorem mioP_len (g : List (List Int)) (sink : Int) (l : Lo) (ps : List Int) : (mioP g sink l ps).1.1.length ≤ 8 ∧ (mioP g sink l ps).1.2.length ≤ 8 := by
  unfold mioP
  split
  · rename_i h
    simp only [Bool.and_eq_true, decide_eq_true_eq] at h
    obtain ⟨h1, L, _⟩ := load_of h.1
    have hgl := graph_len L.w.graph
    split
    · rename_i l' hl
      obtain ⟨m', L'⟩ := ordP_len L (in_all h.2.2) hl
      have h3 : l'.1.length = g.length := L'.w.len
      have h4 := L'.len
      simp only
      omega
    · simp
  · simp

theorem k_spec_MoveInOrder {S S1 S2 S3 : Nat → Prop} {h : Heap} {g r c o : Sl} {xss : List (List Int)} {rs cs ps : List Int} (G : RdR S h g xss) (H1 : RdI S1 h r rs) (H2 : RdI S2 h c cs) (H3 : RdI S3 h o ps) (sink : Int) (K : Value → Heap → Prop) (HK : ∀ t u m h', OwI h' (Iv h.size m) t (mioP xss sink (rs, cs) ps).1.1 → OwI h' (Iv m h'.size) u (mioP xss sink (rs, cs) ps).1.2 → h.size ≤ m → m ≤ h'.size → Fr No h h' → K (.tuple #[.agg #[t.v, u.v], VB (mioP xss sink (rs, cs) ps).2]) h') : callM Try.prog 49 #[.agg #[g.v], VI sink, .agg #[r.v, c.v], o.v] h K := by
  refine v49 g sink r c o h K fun b1 b2 b3 h3 hb1 hb2 hb3 f3 hL3 => ?_
  generalize hR : mioP xss sink (rs, cs) ps = R at HK
  unfold mioP at hR
  have f3 := f3.in_nil
  have l3 : b3 < h3.size := hL3.head.lt
  have z3 := f3.size
  have no : R = (([], []), false) → ∀ h4 h', Fr No h h4 → h3.size ≤ h4.size → Fr (In [b3]) h4 h' → K (.tuple #[.agg #[nilSl.v, nilSl.v], VB false]) h' := fun e h4 h' f z f' => by
    have f' := f'.inIv (lo := h.size) (hi := h3.size) ⟨⟨hb3, l3⟩, trivial⟩
    have z' := f'.size
    have := HK nilSl nilSl h.size h' (by rw [e]; exact Ow.nil _ _ _ _) (by rw [e]; exact Ow.nil _ _ _ _) (Nat.le_refl _) (by omega) (f.ivFresh f' (Nat.le_refl _))
    rw [e] at this
    exact this
  refine k_chGood (l := (rs, cs)) (G.no f3) (H1.no f3) (H2.no f3) sink _ fun h4 f4 => ⟨_, rfl, hL3.of_no f4, fun e h16 f16 _ => ?_, fun e => ?_⟩
  · exact no (by rw [← hR, if_neg (by rw [not_t e]; simp)]) _ _ (f3.no_trans f4) f4.size f16
  have e := not_f e
  rw [e, Bool.true_and] at hR
  obtain ⟨hs, L0, nn0⟩ := load_of e
  obtain ⟨hg, s0, s1, hlead⟩ := sink_of hs
  have hgl := graph_len hg
  have f04 := f3.no_trans f4
  have hL4 := hL3.of_no f4
  have z4 := f4.size
  have hpn := H3.len
  refine ⟨fun e2 h15 f15 _ => ?_, fun e2 => ?_⟩
  · simp only [decide_eq_true_eq] at e2
    exact no (by rw [← hR, if_neg (by rw [decide_eq_false (by omega)]; simp)]) _ _ f04 z4 f15
  simp only [decide_eq_false_iff_not] at e2
  rw [decide_eq_true (show ps.length ≤ 100 by omega), Bool.true_and] at hR
  rw [len_w64 G]
  refine k_spec_l1All (H3.no f04) _ _ _ ⟨_, rfl, hL4, fun e3 h6 f6 _ => ?_, fun e3 => ?_⟩
  · exact no (by rw [← hR, if_neg (by rw [not_t e3]; simp)]) _ _ f04 z4 f6
  have e3 := not_f e3
  rw [if_pos e3] at hR
  have hps := in_all e3
  have hrl : rs.length = xss.length := L0.w.len
  have hcl : cs.length = xss.length := L0.len
  refine k_chOwn (l := (rs, cs)) (H1.no f04) (H2.no f04) (by simp only; omega) (by simp only; omega) _ fun t u m h7 o7 q7 y0 y1 f7 => ⟨t, u, rfl, hL4.of_no f7, fun b4 h9 hb4 f9 hL9 => ?_⟩
  have f9 := f9.in_nil
  have z7 := f7.size
  have z9 := f9.size
  have f09 := (f04.no_trans f7).no_trans f9
  have l4 : b4 < h9.size := hL9.head.lt
  have l2 : b2 < h3.size := hL3.tail.head.lt
  have l1 : b1 < h3.size := hL3.tail.tail.head.lt
  refine ⟨fun n i h' => ∃ (l : Lo) (q : Nat), 0 ≤ i ∧ i + n = (ps.length : Int) ∧ (q : Int) ≤ i ∧ LOK xss q l ∧ (∀ c, c ∈ l.2 → 0 ≤ c) ∧ OwI h' (Iv h4.size m) t l.1 ∧ OwI h' (Iv m h7.size) u l.2 ∧ Fr No h h' ∧ h9.size ≤ h'.size ∧ (match ordP xss sink (ps.drop i.toNat) l with
    | some l' => (l', true)
    | none => (([], []), false)) = R, ⟨ps.length, (rs, cs), 0, by omega, by omega, by omega, L0, nn0, Ow.no o7 f9, Ow.no q7 f9, f09, Nat.le_refl _, by simpa using hR⟩, ?_⟩
  rintro n i h10 ⟨l, q, i0, i1, qi, L, nn, o10, q10, f10, z10, eq⟩ hL10
  have P10 := H3.no f10
  refine ⟨fun e4 => ?_, fun e4 => ?_⟩
  · have hi := P10.lt e4
    rw [drop_cons ps i0 hi, ordP] at eq
    have hp := hps _ (List.getElem_mem (show i.toNat < ps.length by omega))
    have cc : RdI (Iv m h7.size) h10 u l.2 := q10.rdI
    have hll := L.len
    refine ⟨P10.inb i0 hi, _, P10.get i0 hi, fun e5 h13 f13 _ => ?_, fun e5 => ⟨cc.inb hp.1 (by omega), _, cc.get hp.1 (by omega), fun e6 h11 f11 _ => ?_, fun e6 => ?_⟩⟩
    · simp only [decide_eq_true_eq] at e5
      exact no (by rw [← eq, if_pos (.inl e5)]) _ _ f10 (by omega) f13
    · simp only [decide_eq_true_eq] at e6
      exact no (by rw [← eq, if_pos (.inr (by rw [getD_getI (by omega)]; exact e6))]) _ _ f10 (by omega) f11
    · simp only [decide_eq_false_iff_not] at e5 e6
      have h6 : ¬ l.2.getD (ps[i.toNat]'(by omega)).toNat 0 < 1 := by rw [getD_getI (by omega)]; exact e6
      rw [if_neg (fun h => h.elim e5 h6)] at eq
      have hne : (xss.getD (ps[i.toNat]'(by omega)).toNat []).length ≠ 0 := by
        rw [getD_get (by omega)]
        exact leadB_exit s0 hlead (by omega) (by rw [show (((ps[i.toNat]'(by omega)).toNat : Nat) : Int) = ps[i.toNat]'(by omega) by omega]; exact e5) s1
      have G10 : RdR (fun k => k < h4.size) h10 g xss := (G.low.no f10).mono fun k hk => by have := f04.size; omega
      refine k_chMove G10 o10 q10 y0 y1 (by omega) L (by omega) hp.1 hp.2 hne _ fun h12 v o12 q12 f12 => ⟨hL10.iv f12 ⟨.inr (by omega), .inl (by omega), .inl (by omega), .inl (by omega), trivial⟩, ?_⟩
      have z12 := f12.size
      rw [P10.succ i0 hi]
      refine ⟨n - 1, by omega, _, q + 1, by omega, by omega, by omega, L.mv hp.1 hp.2, mv_nn L hp.1 hp.2 nn (by omega), o12, q12, f10.ivFresh f12 (by have := f04.size; omega), by omega, eq⟩
  · have hi := P10.ge e4
    rw [List.drop_of_length_le (by omega), ordP] at eq
    intro h14 f14 _
    have f14 := f14.inIv (lo := h.size) (hi := h3.size) ⟨⟨hb3, l3⟩, trivial⟩
    have z14 := f14.size
    have := HK t u m h14 (by rw [← eq]; exact (Ow.iv o10 f14 (by omega)).ivs (by omega) (by omega)) (by rw [← eq]; exact (Ow.iv q10 f14 (by omega)).ivs (by omega) (by omega)) (by omega) (by omega) (f10.ivFresh f14 (Nat.le_refl _))
    rw [← eq] at this
    exact this

theorem k_MoveInOrder {S S1 S2 S3 : Nat → Prop} {h : Heap} {g r c o : Sl} {xss : List (List Int)} {rs cs ps : List Int} (G : RdR S h g xss) (H1 : RdI S1 h r rs) (H2 : RdI S2 h c cs) (H3 : RdI S3 h o ps) (sink : Int) (K : Value → Heap → Prop) (HK : ∀ t u m h', OwI h' (Iv h.size m) t (mioP xss sink (rs, cs) ps).1.1 → OwI h' (Iv m h'.size) u (mioP xss sink (rs, cs) ps).1.2 → h.size ≤ m → m ≤ h'.size → Fr No h h' → K (.tuple #[.agg #[t.v, u.v], VB (mioP xss sink (rs, cs) ps).2]) h') : callM Try.prog 48 #[.agg #[g.v], VI sink, .agg #[r.v, c.v], o.v] h K := by
  refine v48 g sink r c o h K fun b1 b2 b3 h3 hb1 hb2 hb3 f3 hL3 => ?_
  generalize hR : mioP xss sink (rs, cs) ps = R at HK
  unfold mioP at hR
  have f3 := f3.in_nil
  have l3 : b3 < h3.size := hL3.head.lt
  have z3 := f3.size
  have no : R = (([], []), false) → ∀ h4 h', Fr No h h4 → h3.size ≤ h4.size → Fr (In [b3]) h4 h' → K (.tuple #[.agg #[nilSl.v, nilSl.v], VB false]) h' := fun e h4 h' f z f' => by
    have f' := f'.inIv (lo := h.size) (hi := h3.size) ⟨⟨hb3, l3⟩, trivial⟩
    have z' := f'.size
    have := HK nilSl nilSl h.size h' (by rw [e]; exact Ow.nil _ _ _ _) (by rw [e]; exact Ow.nil _ _ _ _) (Nat.le_refl _) (by omega) (f.ivFresh f' (Nat.le_refl _))
    rw [e] at this
    exact this
  refine k_isLoad (l := (rs, cs)) (G.no f3) (H1.no f3) (H2.no f3) sink _ fun h4 f4 => ⟨_, rfl, hL3.of_no f4, fun e h16 f16 _ => ?_, fun e => ?_⟩
  · exact no (by rw [← hR, if_neg (by rw [not_t e]; simp)]) _ _ (f3.no_trans f4) f4.size f16
  have e := not_f e
  rw [e, Bool.true_and] at hR
  obtain ⟨hs, L0, nn0⟩ := load_of e
  obtain ⟨hg, s0, s1, hlead⟩ := sink_of hs
  have hgl := graph_len hg
  have f04 := f3.no_trans f4
  have hL4 := hL3.of_no f4
  have z4 := f4.size
  have hpn := H3.len
  refine ⟨fun e2 h15 f15 _ => ?_, fun e2 => ?_⟩
  · simp only [decide_eq_true_eq] at e2
    exact no (by rw [← hR, if_neg (by rw [decide_eq_false (by omega)]; simp)]) _ _ f04 z4 f15
  simp only [decide_eq_false_iff_not] at e2
  rw [decide_eq_true (show ps.length ≤ 100 by omega), Bool.true_and] at hR
  refine k_has (G.no f04) (H3.no f04) _ fun h5 f5 => ⟨_, rfl, hL4.of_no f5, fun e3 h6 f6 _ => ?_, fun e3 => ?_⟩
  all_goals rw [hg, Bool.true_and] at e3
  · exact no (by rw [← hR, if_neg (by rw [not_t e3]; simp)]) _ _ (f04.no_trans f5) (by have := f5.size; omega) f6
  have e3 := not_f e3
  rw [if_pos e3] at hR
  have hps := in_all e3
  have hrl : rs.length = xss.length := L0.w.len
  have hcl : cs.length = xss.length := L0.len
  have f05 := f04.no_trans f5
  have hL5 := hL4.of_no f5
  have z5 := f5.size
  refine k_copiedL (l := (rs, cs)) (H1.no f05) (H2.no f05) (by simp only; omega) (by simp only; omega) _ fun t u m h7 o7 q7 y0 y1 f7 => ⟨t, u, rfl, hL5.of_no f7, fun b4 h9 hb4 f9 hL9 => ?_⟩
  have f9 := f9.in_nil
  have z7 := f7.size
  have z9 := f9.size
  have f09 := (f05.no_trans f7).no_trans f9
  have l4 : b4 < h9.size := hL9.head.lt
  have l2 : b2 < h3.size := hL3.tail.head.lt
  have l1 : b1 < h3.size := hL3.tail.tail.head.lt
  refine ⟨fun n i x1 x2 h' => ∃ (l : Lo) (q : Nat), t = x1 ∧ u = x2 ∧ 0 ≤ i ∧ i + n = (ps.length : Int) ∧ (q : Int) ≤ i ∧ LOK xss q l ∧ (∀ c, c ∈ l.2 → 0 ≤ c) ∧ OwI h' (Iv h5.size m) t l.1 ∧ OwI h' (Iv m h7.size) u l.2 ∧ Fr No h h' ∧ h9.size ≤ h'.size ∧ (match ordP xss sink (ps.drop i.toNat) l with
    | some l' => (l', true)
    | none => (([], []), false)) = R, ⟨ps.length, (rs, cs), 0, rfl, rfl, by omega, by omega, by omega, L0, nn0, Ow.no o7 f9, Ow.no q7 f9, f09, Nat.le_refl _, by simpa using hR⟩, ?_⟩
  rintro n i _ _ h10 ⟨l, q, rfl, rfl, i0, i1, qi, L, nn, o10, q10, f10, z10, eq⟩ hL10
  have P10 := H3.no f10
  refine ⟨fun e4 => ?_, fun e4 => ?_⟩
  · have hi := P10.lt e4
    rw [drop_cons ps i0 hi, ordP] at eq
    have hp := hps _ (List.getElem_mem (show i.toNat < ps.length by omega))
    have hll := L.len
    have hpl : (ps[i.toNat]'(by omega)).toNat < l.2.length := by omega
    have hne : ps[i.toNat]'(by omega) ≠ sink → (xss.getD (ps[i.toNat]'(by omega)).toNat []).length ≠ 0 := fun e5 => by
      rw [getD_get (by omega)]
      exact leadB_exit s0 hlead (by omega) (by rw [show (((ps[i.toNat]'(by omega)).toNat : Nat) : Int) = ps[i.toNat]'(by omega) by omega]; exact e5) s1
    have G10 : RdR (fun k => k < h5.size) h10 g xss := (G.low.no f10).mono fun k hk => by have := f05.size; omega
    have hnn := nn _ (List.getElem_mem hpl)
    refine ⟨P10.inb i0 hi, _, P10.get i0 hi, k_move hL10.head (.inl (by omega)) G10 o10 q10 y0 y1 (by omega) L (by omega) sink hp.1 hp.2 hne _ (fun hx h11 f11 => ⟨t, u, false, rfl, hL10.of_no f11, fun _ h12 f12 _ => ?_, fun e => by simp at e⟩) fun hx1 hx2 h11 o11 q11 f11 => ⟨t, u, true, rfl, hL10.iv f11 ⟨.inr (by omega), .inl (by omega), .inl (by omega), .inl (by omega), trivial⟩, fun e => by simp at e, fun _ => ?_⟩⟩
    · have z11 := f11.size
      exact no (by rw [← eq, if_pos (hx.imp id fun h => by omega)]) _ _ (f10.no_trans f11) (by omega) f12
    · rw [getD_getI hpl] at hx2
      have h6 : ¬ l.2.getD (ps[i.toNat]'(by omega)).toNat 0 < 1 := by rw [getD_getI hpl]; omega
      rw [if_neg (fun h => h.elim hx1 h6)] at eq
      have z11 := f11.size
      rw [P10.succ i0 hi]
      exact ⟨n - 1, by omega, _, q + 1, rfl, rfl, by omega, by omega, by omega, L.mv hp.1 hp.2, mv_nn L hp.1 hp.2 nn (by omega), o11, q11, f10.ivFresh f11 (by have := f05.size; omega), by omega, eq⟩
  · have hi := P10.ge e4
    rw [List.drop_of_length_le (by omega), ordP] at eq
    intro h14 f14 _
    have f14 := f14.inIv (lo := h.size) (hi := h3.size) ⟨⟨hb3, l3⟩, trivial⟩
    have z14 := f14.size
    have := HK t u m h14 (by rw [← eq]; exact (Ow.iv o10 f14 (by omega)).ivs (by omega) (by omega)) (by rw [← eq]; exact (Ow.iv q10 f14 (by omega)).ivs (by omega) (by omega)) (by omega) (by omega) (f10.ivFresh f14 (Nat.le_refl _))
    rw [← eq] at this
    exact this

theorem k_spec_MoveChip {S S1 S2 : Nat → Prop} {h : Heap} {g r c : Sl} {xss : List (List Int)} {rs cs : List Int} (G : RdR S h g xss) (H1 : RdI S1 h r rs) (H2 : RdI S2 h c cs) (sink p : Int) (K : Value → Heap → Prop) (HK : ∀ t u m h', OwI h' (Iv h.size m) t (mioP xss sink (rs, cs) [p]).1.1 → OwI h' (Iv m h'.size) u (mioP xss sink (rs, cs) [p]).1.2 → h.size ≤ m → m ≤ h'.size → Fr No h h' → K (.tuple #[.agg #[t.v, u.v], VB (mioP xss sink (rs, cs) [p]).2]) h') : callM Try.prog 52 #[.agg #[g.v], VI sink, .agg #[r.v, c.v], VI p] h K := by
  refine v52 g sink r c p h K fun b1 b2 b3 h3 hb1 hb2 hb3 f3 hL3 => ?_
  have f3 := f3.in_nil
  have l3 : b3 < h3.size := hL3.head.lt
  have z3 := f3.size
  refine eop_lit rIs (fun k => h3.size ≤ k) (fun _ h => h) 1 (by omega) [VI p] rfl rfl fun q h4 n4 c4 o4 f4 m4 _ => ⟨q, rfl, hL3.of_no f4, ?_⟩
  have o4 : RdI (fun k => h3.size ≤ k) h4 q [p] := o4.rdF
  have f04 := f3.no_trans f4
  refine k_spec_MoveInOrder (G.no f04) (H1.no f04) (H2.no f04) o4 sink _ fun t u m h5 o5 q5 y0 y1 f5 => ⟨t, u, _, rfl, (hL3.of_no f4).of_no f5, fun h6 f6 _ => ?_⟩
  have f6 := f6.inIv (lo := h.size) (hi := h3.size) ⟨⟨hb3, l3⟩, trivial⟩
  have z4 := f4.size
  have z5 := f5.size
  have z6 := f6.size
  exact HK t u m h6 ((Ow.iv o5 f6 (by omega)).ivs (by omega) (by omega)) ((Ow.iv q5 f6 (by omega)).ivs (by omega) (by omega)) (by omega) (by omega) ((f04.no_trans f5).ivFresh f6 (Nat.le_refl _))

theorem k_MoveChip {S S1 S2 : Nat → Prop} {h : Heap} {g r c : Sl} {xss : List (List Int)} {rs cs : List Int} (G : RdR S h g xss) (H1 : RdI S1 h r rs) (H2 : RdI S2 h c cs) (sink p : Int) (K : Value → Heap → Prop) (HK : ∀ t u m h', OwI h' (Iv h.size m) t (mioP xss sink (rs, cs) [p]).1.1 → OwI h' (Iv m h'.size) u (mioP xss sink (rs, cs) [p]).1.2 → h.size ≤ m → m ≤ h'.size → Fr No h h' → K (.tuple #[.agg #[t.v, u.v], VB (mioP xss sink (rs, cs) [p]).2]) h') : callM Try.prog 51 #[.agg #[g.v], VI sink, .agg #[r.v, c.v], VI p] h K := by
  refine v51 g sink r c p h K fun b1 b2 b3 h3 hb1 hb2 hb3 f3 hL3 => ?_
  have f3 := f3.in_nil
  have l3 : b3 < h3.size := hL3.head.lt
  have z3 := f3.size
  refine eop_lit rIs (fun k => h3.size ≤ k) (fun _ h => h) 1 (by omega) [VI p] rfl rfl fun q h4 n4 c4 o4 f4 m4 _ => ⟨q, rfl, hL3.of_no f4, ?_⟩
  have o4 : RdI (fun k => h3.size ≤ k) h4 q [p] := o4.rdF
  have f04 := f3.no_trans f4
  refine k_MoveInOrder (G.no f04) (H1.no f04) (H2.no f04) o4 sink _ fun t u m h5 o5 q5 y0 y1 f5 => ⟨t, u, _, rfl, (hL3.of_no f4).of_no f5, fun h6 f6 _ => ?_⟩
  have f6 := f6.inIv (lo := h.size) (hi := h3.size) ⟨⟨hb3, l3⟩, trivial⟩
  have z4 := f4.size
  have z5 := f5.size
  have z6 := f6.size
  exact HK t u m h6 ((Ow.iv o5 f6 (by omega)).ivs (by omega) (by omega)) ((Ow.iv q5 f6 (by omega)).ivs (by omega) (by omega)) (by omega) (by omega) ((f04.no_trans f5).ivFresh f6 (Nat.le_refl _))

def repP (g : List (List Int)) (p : Int) : Nat → Lo → Lo
  | 0, l => l
  | n + 1, l => repP g p n (mvP g l p)
def forcL (g : List (List Int)) : List Int → Int → Lo → Lo
  | [], _, l => l
  | n :: ns, p, l => forcL g ns (p + 1) (repP g p n.toNat l)
def cntB (g : List (List Int)) (sink : Int) (l : Lo) (ns : List Int) : Bool := loadB g sink l && (decide (ns.length = g.length) && (decide (ns.getD sink.toNat 0 = 0) && ns.all (inR 0 50)))
def forP (g : List (List Int)) (sink : Int) (l : Lo) (ns : List Int) : Lo × Bool := if cntB g sink l ns then (forcL g ns 0 l, true) else (([], []), false)
def enoP (g : List (List Int)) (sink : Int) (l : Lo) (ns : List Int) : Bool × Bool := if cntB g sink l ns then (decide ((waitP sink (forcL g ns 0 l).2).length = 0), true) else (false, false)
theorem repP_ok {g : List (List Int)} {p : Int} (h0 : 0 ≤ p) (h1 : p < (g.length : Int)) : ∀ {n m : Nat} {l : Lo}, LOK g m l → LOK g (m + n) (repP g p n l)
  | 0, m, l, L => L
  | n + 1, m, l, L => by
    have := repP_ok h0 h1 (n := n) (L.mv h0 h1)
    rw [show m + (n + 1) = m + 1 + n by omega]
    exact this
theorem cnt_of {g : List (List Int)} {sink : Int} {l : Lo} {ns : List Int} (h : cntB g sink l ns = true) : loadB g sink l = true ∧ ns.length = g.length ∧ ns.getD sink.toNat 0 = 0 ∧ ∀ n, n ∈ ns → 0 ≤ n ∧ n ≤ 50 := by
  unfold cntB at h
  simp only [Bool.and_eq_true, decide_eq_true_eq] at h
  exact ⟨h.1, h.2.1, h.2.2.1, fun n hn => inR_iff.1 (List.all_eq_true.1 h.2.2.2 n hn)⟩
theorem forcL_ok {g : List (List Int)} : ∀ {ns : List Int} {p : Int} {m : Nat} {l : Lo}, 0 ≤ p → p + ns.length ≤ (g.length : Int) → LOK g m l → ∃ m', LOK g m' (forcL g ns p l)
  | [], p, m, l, _, _, L => ⟨m, L⟩
  | n :: ns, p, m, l, h0, h1, L => by
    simp only [List.length_cons] at h1
    exact forcL_ok (l := repP g p n.toNat l) (m := m + n.toNat) (by omega) (by omega) (repP_ok h0 (by omega) L)
theorem forP_len (g : List (List Int)) (sink : Int) (l : Lo) (ns : List Int) : (forP g sink l ns).1.1.length ≤ 8 ∧ (forP g sink l ns).1.2.length ≤ 8 := by
  unfold forP
  split
  · rename_i h
    obtain ⟨h1, h2, _, _⟩ := cnt_of h
    obtain ⟨_, L, _⟩ := load_of h1
    have hgl := graph_len L.w.graph
    obtain ⟨m', L'⟩ := forcL_ok (ns := ns) (p := 0) (by omega) (by omega) L
    have h3 : (forcL g ns 0 l).1.length = g.length := L'.w.len
    have h4 := L'.len
    simp only
    omega
  · simp

theorem k_force1 (x : Int) (h : Heap) (K : Value → Heap → Prop) (HK : K (VB (!inR 0 50 x)) h) : callV Try.prog (.func (.func 155) #[] #[]) [VI x] h K :=
  v155 x h K (k_impl_in _ _ _ _ _ ⟨_, rfl, .nil, HK⟩)

theorem k_force {S S1 S2 S3 : Nat → Prop} {h : Heap} {g r c o : Sl} {xss : List (List Int)} {l : Lo} {ns : List Int} (G : RdR S h g xss) (H1 : RdI S1 h r l.1) (H2 : RdI S2 h c l.2) (H3 : RdI S3 h o ns) (sink : Int) (K : Value → Heap → Prop) (HK : ∀ t u m h', OwI h' (Iv h.size m) t (forP xss sink l ns).1.1 → OwI h' (Iv m h'.size) u (forP xss sink l ns).1.2 → h.size ≤ m → m ≤ h'.size → Fr No h h' → K (.tuple #[.agg #[t.v, u.v], VB (forP xss sink l ns).2]) h') : callM Try.prog 93 #[.agg #[g.v], VI sink, .agg #[r.v, c.v], o.v] h K := by
  refine v93 g sink r c o h K fun b1 b2 b3 h3 hb1 hb2 hb3 f3 hL3 => ?_
  generalize hR : forP xss sink l ns = R at HK
  unfold forP at hR
  have f3 := f3.in_nil
  have l3 : b3 < h3.size := hL3.head.lt
  have l2 : b2 < h3.size := hL3.tail.head.lt
  have l1 : b1 < h3.size := hL3.tail.tail.head.lt
  have z3 := f3.size
  have no : cntB xss sink l ns = false → ∀ h4 h', Fr No h h4 → h3.size ≤ h4.size → Fr (In [b3]) h4 h' → K (.tuple #[.agg #[nilSl.v, nilSl.v], VB false]) h' := fun e h4 h' f z f' => by
    rw [e] at hR
    have e : R = (([], []), false) := hR.symm
    have f' := f'.inIv (lo := h.size) (hi := h3.size) ⟨⟨hb3, l3⟩, trivial⟩
    have z' := f'.size
    have := HK nilSl nilSl h.size h' (by rw [e]; exact Ow.nil _ _ _ _) (by rw [e]; exact Ow.nil _ _ _ _) (Nat.le_refl _) (by omega) (f.ivFresh f' (Nat.le_refl _))
    rw [e] at this
    exact this
  refine k_isLoad (G.no f3) (H1.no f3) (H2.no f3) sink _ fun h4 f4 => ⟨_, rfl, hL3.of_no f4, fun e h16 f16 _ => ?_, fun e => ?_⟩
  · exact no (by unfold cntB; rw [not_t e, Bool.false_and]) _ _ (f3.no_trans f4) f4.size f16
  have e := not_f e
  obtain ⟨hs, L0, _⟩ := load_of e
  obtain ⟨hg, s0, s1, hlead⟩ := sink_of hs
  have hgl := graph_len hg
  have hrl : l.1.length = xss.length := L0.w.len
  have hcl := L0.len
  have f04 := f3.no_trans f4
  have hL4 := hL3.of_no f4
  have z4 := f4.size
  have hgn := G.len
  have hon := H3.len
  refine ⟨fun e2 h15 f15 _ => ?_, fun e2 => ?_⟩
  · have e2 := not_t e2
    simp only [decide_eq_false_iff_not] at e2
    exact no (by unfold cntB; rw [decide_eq_false (show ¬ ns.length = xss.length by omega)]; simp) _ _ f04 z4 f15
  have e2 := not_f e2
  simp only [decide_eq_true_eq] at e2
  have N4 := H3.no f04
  refine ⟨N4.inb s0 (by omega), _, N4.get s0 (by omega), fun e3 h14 f14 _ => ?_, fun e3 => ?_⟩
  · have e3 := not_t e3
    simp only [decide_eq_false_iff_not] at e3
    exact no (by unfold cntB; rw [getD_getI (by omega), decide_eq_false e3]; simp) _ _ f04 z4 f14
  have e3 := not_f e3
  simp only [decide_eq_true_eq] at e3
  refine k_ContainsFunc N4 _ _ (fun x K HK => k_force1 x h4 K HK) _ ⟨_, rfl, hL4, fun e4 h6 f6 _ => ?_, fun e4 => ?_⟩
  all_goals rw [any_not] at e4
  · exact no (by unfold cntB; rw [not_t e4]; simp) _ _ f04 z4 f6
  have hc : cntB xss sink l ns = true := by
    unfold cntB
    rw [e, decide_eq_true (show ns.length = xss.length by omega), getD_getI (by omega), decide_eq_true e3, not_f e4]
    rfl
  rw [if_pos hc] at hR
  obtain ⟨_, hnl, hns, hnb⟩ := cnt_of hc
  refine k_copiedL (H1.no f04) (H2.no f04) (by omega) (by omega) _ fun t u m h7 o7 q7 y0 y1 f7 => ⟨t, u, rfl, hL4.of_no f7, fun b4 h9 hb4 f9 hL9 => ?_⟩
  have f9 := f9.in_nil
  have z7 := f7.size
  have z9 := f9.size
  have f09 := (f04.no_trans f7).no_trans f9
  have l4 : b4 < h9.size := hL9.head.lt
  refine ⟨fun n i x1 x2 h' => ∃ (l : Lo) (q : Nat), t = x1 ∧ u = x2 ∧ 0 ≤ i ∧ i + n = (ns.length : Int) ∧ (q : Int) ≤ 50 * i ∧ LOK xss q l ∧ OwI h' (Iv h4.size m) t l.1 ∧ OwI h' (Iv m h7.size) u l.2 ∧ Fr No h h' ∧ h9.size ≤ h'.size ∧ (forcL xss (ns.drop i.toNat) i l, true) = R, ⟨ns.length, l, 0, rfl, rfl, by omega, by omega, by omega, L0, Ow.no o7 f9, Ow.no q7 f9, f09, Nat.le_refl _, by simpa using hR⟩, ?_⟩
  rintro n i _ _ h10 ⟨l7, q7, rfl, rfl, i0, i1, qi, L7, o10, p10, f10, z10, eq⟩ hL10
  have N10 := H3.no f10
  refine ⟨fun e5 => ?_, fun e5 => ?_⟩
  · have hi := N10.lt e5
    rw [drop_cons ns i0 hi, forcL] at eq
    have hb := hnb _ (List.getElem_mem (show i.toNat < ns.length by omega))
    have hci : ((i.toNat : Nat) : Int) = i := by omega
    have hne : 0 < ns[i.toNat]'(by omega) → (xss.getD i.toNat []).length ≠ 0 := fun hpos => by
      rw [getD_get (by omega)]
      refine leadB_exit s0 hlead (by omega) (fun h => ?_) s1
      have : i.toNat = sink.toNat := by omega
      rw [← this, getD_getI (by omega)] at hns
      omega
    refine ⟨N10.inb i0 hi, _, N10.get i0 hi, ?_⟩
    refine ⟨fun k j x3 x4 h' => ∃ (l : Lo) (q : Nat), t = x3 ∧ u = x4 ∧ 0 ≤ j ∧ j ≤ ns[i.toNat]'(by omega) ∧ (k : Int) = ns[i.toNat]'(by omega) - j ∧ (q : Int) ≤ 50 * i + j ∧ LOK xss q l ∧ OwI h' (Iv h4.size m) t l.1 ∧ OwI h' (Iv m h7.size) u l.2 ∧ Fr No h h' ∧ h9.size ≤ h'.size ∧ (forcL xss (ns.drop (i + 1).toNat) (i + 1) (repP xss i k l), true) = R, ⟨(ns[i.toNat]'(by omega)).toNat, l7, q7, rfl, rfl, by omega, hb.1, by omega, by omega, L7, o10, p10, f10, z10, eq⟩, ?_⟩
    rintro k j _ _ h11 ⟨l8, q8, rfl, rfl, j0, j1, kj, qj, L8, o11, p11, f11, z11, eq8⟩ hL11
    refine ⟨fun e6 => ?_, fun e6 => ?_⟩
    · simp only [decide_eq_true_eq] at e6
      have G11 : RdR (fun k => k < h4.size) h11 g xss := (G.low.no f11).mono fun k hk => by have := f04.size; omega
      refine k_send hL11.head (.inl (by omega)) G11 o11 p11 y0 y1 (by omega) L8 (by omega) i0 (by omega) (hne (by omega)) _ fun h12 v o12 p12 f12 => ⟨t, u, hL11.iv f12 ⟨.inr (by omega), .inl (by omega), .inl (by omega), .inl (by omega), trivial⟩, ?_⟩
      have z12 := f12.size
      rw [w64_eq _ (by omega) (by omega)]
      obtain ⟨k, rfl⟩ : ∃ k' : Nat, k = k' + 1 := ⟨k - 1, by omega⟩
      rw [repP] at eq8
      exact ⟨k, by omega, _, q8 + 1, rfl, rfl, by omega, by omega, by omega, by omega, L8.mv i0 (by omega), o12, p12, f11.ivFresh f12 (by have := f04.size; omega), by omega, eq8⟩
    · simp only [decide_eq_false_iff_not] at e6
      obtain rfl : k = 0 := by omega
      rw [N10.succ i0 hi]
      refine ⟨n - 1, by omega, l8, q8, rfl, rfl, by omega, by omega, by omega, L8, o11, p11, f11, z11, ?_⟩
      simpa [repP] using eq8
  · have hi := N10.ge e5
    rw [List.drop_of_length_le (by omega), forcL] at eq
    intro h13 f13 _
    have f13 := f13.inIv (lo := h.size) (hi := h3.size) ⟨⟨hb3, l3⟩, trivial⟩
    have z13 := f13.size
    have := HK t u m h13 (by rw [← eq]; exact (Ow.iv o10 f13 (by omega)).ivs (by omega) (by omega)) (by rw [← eq]; exact (Ow.iv p10 f13 (by omega)).ivs (by omega) (by omega)) (by omega) (by omega) (f10.ivFresh f13 (Nat.le_refl _))
    rw [← eq] at this
    exact this

theorem k_ForceMoves {S S1 S2 S3 : Nat → Prop} {h : Heap} {g r c o : Sl} {xss : List (List Int)} {rs cs ns : List Int} (G : RdR S h g xss) (H1 : RdI S1 h r rs) (H2 : RdI S2 h c cs) (H3 : RdI S3 h o ns) (sink : Int) (K : Value → Heap → Prop) (HK : ∀ t u m h', OwI h' (Iv h.size m) t (forP xss sink (rs, cs) ns).1.1 → OwI h' (Iv m h'.size) u (forP xss sink (rs, cs) ns).1.2 → h.size ≤ m → m ≤ h'.size → Fr No h h' → K (.tuple #[.agg #[t.v, u.v], VB (forP xss sink (rs, cs) ns).2]) h') : callM Try.prog 38 #[.agg #[g.v], VI sink, .agg #[r.v, c.v], o.v] h K := by
  refine v38 g sink r c o h K fun b1 b2 b3 h3 hb1 hb2 hb3 f3 hL3 => ?_
  have f3 := f3.in_nil
  have l3 : b3 < h3.size := hL3.head.lt
  have z3 := f3.size
  refine k_force (l := (rs, cs)) (G.no f3) (H1.no f3) (H2.no f3) (H3.no f3) sink _ fun t u m h4 o4 p4 y0 y1 f4 => ⟨t, u, _, rfl, hL3.of_no f4, fun h5 f5 _ => ?_⟩
  have f5 := f5.inIv (lo := h.size) (hi := h3.size) ⟨⟨hb3, l3⟩, trivial⟩
  have z4 := f4.size
  have z5 := f5.size
  exact HK t u m h5 ((Ow.iv o4 f5 (by omega)).ivs (by omega) (by omega)) ((Ow.iv p4 f5 (by omega)).ivs (by omega) (by omega)) (by omega) (by omega) ((f3.no_trans f4).ivFresh f5 (Nat.le_refl _))

def pickP (ch w : List Int) (j : Nat) : Int := if j < ch.length then w.getD ((ch.getD j 0).tmod w.length).toNat 0 else w.getD 0 0
def endL (g : List (List Int)) (sink : Int) (ch : List Int) : Nat → Nat → Lo → List Int → Lo × List Int × Bool
  | 0, _, l, cnt => if (waitP sink l.2).length = 0 then (l, cnt, true) else (([], []), [], false)
  | f + 1, j, l, cnt => if (waitP sink l.2).length = 0 then (l, cnt, true) else endL g sink ch f (j + 1) (mvP g l (pickP ch (waitP sink l.2) j)) (bump cnt (pickP ch (waitP sink l.2) j).toNat)
theorem pick_mem {ch w : List Int} (hc : ∀ c, c ∈ ch → 0 ≤ c) (hw : w.length ≠ 0) (j : Nat) : pickP ch w j ∈ w := by
  unfold pickP
  split
  · rename_i h
    have hm' : (0 : Int) < (w.length : Int) := by omega
    rw [getD_getI h]
    have h1 := Int.tmod_nonneg (w.length : Int) (hc _ (List.getElem_mem h))
    have h2 := Int.tmod_lt_of_pos (ch[j]) hm'
    rw [getD_getI (by omega)]
    exact List.getElem_mem _
  · rw [getD_getI (by omega)]
    exact List.getElem_mem _
theorem pick_ok {g : List (List Int)} {m : Nat} {l : Lo} (L : LOK g m l) {sink : Int} {ch : List Int} (hc : ∀ c, c ∈ ch → 0 ≤ c) (hw : (waitP sink l.2).length ≠ 0) (j : Nat) : 0 ≤ pickP ch (waitP sink l.2) j ∧ pickP ch (waitP sink l.2) j < (g.length : Int) ∧ pickP ch (waitP sink l.2) j ≠ sink := by
  have h1 := wtP_mem sink l.2 _ _ (pick_mem hc hw j)
  have h2 := L.len
  omega
theorem endL_ok {g : List (List Int)} {sink : Int} {ch : List Int} (hc : ∀ c, c ∈ ch → 0 ≤ c) : ∀ (f j : Nat) (l : Lo) (cnt : List Int) (m : Nat), LOK g m l → cnt.length = g.length → (endL g sink ch f j l cnt).1.1.length ≤ g.length ∧ (endL g sink ch f j l cnt).1.2.length ≤ g.length ∧ (endL g sink ch f j l cnt).2.1.length ≤ g.length
  | 0, j, l, cnt, m, L, hl => by
    have h1 : l.1.length = g.length := L.w.len
    have h2 := L.len
    rw [endL]
    split
    · simp only; omega
    · simp
  | f + 1, j, l, cnt, m, L, hl => by
    have h1 : l.1.length = g.length := L.w.len
    have h2 := L.len
    rw [endL]
    split
    · simp only; omega
    · rename_i hw
      have hp := pick_ok L hc hw j
      exact endL_ok hc f (j + 1) _ _ (m + 1) (L.mv hp.1 hp.2.1) (by rw [bump_length]; exact hl)
theorem endL_no {g : List (List Int)} {sink : Int} {ch : List Int} : ∀ (f j : Nat) (l : Lo) (cnt : List Int), (endL g sink ch f j l cnt).2.2 = false → endL g sink ch f j l cnt = (([], []), [], false)
  | 0, j, l, cnt, h => by
    rw [endL] at h ⊢
    split
    · rename_i h1; rw [if_pos h1] at h; simp at h
    · rfl
  | f + 1, j, l, cnt, h => by
    rw [endL] at h ⊢
    split
    · rename_i h1; rw [if_pos h1] at h; simp at h
    · rename_i h1
      rw [if_neg h1] at h
      exact endL_no f _ _ _ h

theorem k_chEnd {S S1 S2 S3 : Nat → Prop} {h : Heap} {g r c o : Sl} {xss : List (List Int)} {l : Lo} {ch : List Int} {sink : Int} (G : RdR S h g xss) (H1 : RdI S1 h r l.1) (H2 : RdI S2 h c l.2) (H3 : RdI S3 h o ch) (hload : loadB xss sink l = true) (hch : ∀ c, c ∈ ch → 0 ≤ c) (K : Value → Heap → Prop)
    (HK : ∀ t u w i m j i3 j3 h', OwI h' (Iv i m) t (endL xss sink ch 4000 0 l (List.replicate xss.length 0)).1.1 → OwI h' (Iv m j) u (endL xss sink ch 4000 0 l (List.replicate xss.length 0)).1.2 → OwI h' (Iv i3 j3) w (endL xss sink ch 4000 0 l (List.replicate xss.length 0)).2.1 → h.size ≤ i → i ≤ m → m ≤ j → j ≤ h'.size → h.size ≤ i3 → j3 ≤ h'.size → Fr No h h' → K (.tuple #[.agg #[t.v, u.v], w.v, VB (endL xss sink ch 4000 0 l (List.replicate xss.length 0)).2.2]) h') : callM Try.prog 77 #[.agg #[g.v], VI sink, .agg #[r.v, c.v], o.v] h K := by
  refine v77 g sink r c o h K fun b1 b2 b3 h3 hb1 hb2 hb3 f3 hL => ?_
  generalize hR : endL xss sink ch 4000 0 l (List.replicate xss.length 0) = R at HK
  have f3 := f3.in_nil
  have l3 : b3 < h3.size := hL.head.lt
  have l2 : b2 < h3.size := hL.tail.head.lt
  have l1 : b1 < h3.size := hL.tail.tail.head.lt
  have z3 := f3.size
  obtain ⟨hs, L0, _⟩ := load_of hload
  obtain ⟨hg, s0, s1, hlead⟩ := sink_of hs
  have hgl := graph_len hg
  have hrl : l.1.length = xss.length := L0.w.len
  have hcl := L0.len
  have fj : Fr No h3 h3 := Fr.refl _ _
  have ow : ∀ {h1 : Heap} {K : Value → Heap → Prop}, Fr No h3 h1 → (∀ t u m h2, OwI h2 (Iv h1.size m) t l.1 → OwI h2 (Iv m h2.size) u l.2 → h1.size ≤ m → m ≤ h2.size → Fr No h1 h2 → K (.agg #[t.v, u.v]) h2) → callM Try.prog 109 #[.agg #[r.v, c.v]] h1 K := fun f HK => k_chOwn ((H1.no f3).no f) ((H2.no f3).no f) (by omega) (by omega) _ HK
  have mk : ∀ {h1 : Heap} {K : Value → Heap → Prop}, Fr No h3 h1 → (∀ t h2, OwI h2 (Iv h1.size h2.size) t (List.replicate xss.length 0) → Fr No h1 h2 → K t.v h2) → eop Try.prog (Instr.makeSlice tIs (VI (g.n : Int)) (VI (g.n : Int))) h1 K := fun _ HK => eop_make rIs (fun k => _ ≤ k) (fun _ h => h) .i64 .i64 g.n g.n (Nat.le_refl _) (by rw [G.len]; omega) fun t h2 n2 c2 o2 f2 m2 _ => HK t h2 (Ow.toIv (by
    have e : (List.replicate g.n [VI 0]).flatten = (List.replicate xss.length (0 : Int)).map VI := by rw [G.len]; simp [List.flatten_replicate_singleton]
    rw [e] at o2; exact o2)) f2
  refine ⟨fun b x1 x2 x3 h' => ∃ i m j i3 j3, OwI h' (Iv i m) x1 l.1 ∧ OwI h' (Iv m j) x2 l.2 ∧ OwI h' (Iv i3 j3) x3 (List.replicate xss.length 0) ∧ i ≤ m ∧ m ≤ j ∧ (j ≤ i3 ∨ j3 ≤ i) ∧ (b < i ∨ j ≤ b) ∧ (b < i3 ∨ j3 ≤ b) ∧ h3.size ≤ i ∧ h3.size ≤ i3 ∧ h3.size ≤ b ∧ j ≤ h'.size ∧ j3 ≤ h'.size ∧ Fr No h3 h', ?_, ?_⟩
  · refine ⟨?_, ?_, ?_⟩
    · refine ow fj fun u_1 v_1 m_1 h_4 o_1 p_1 y_1 w_1 f_1 => ⟨u_1, v_1, rfl, hL.of_no f_1, ?_⟩
      replace hL := hL.of_no f_1
      have z_f_1 := f_1.size
      replace fj := fj.no_trans f_1
      refine ⟨?_, ?_⟩
      · refine mk fj fun u_2 h_5 o_2 f_2 => ⟨u_2, rfl, hL.of_no f_2, ?_⟩
        replace hL := hL.of_no f_2
        have z_f_2 := f_2.size
        replace o_1 := o_1.no f_2
        replace p_1 := p_1.no f_2
        replace fj := fj.no_trans f_2
        intro b_5 h_6 hb_b_5 f_3 hL
        have lt_b_5 : b_5 < h_6.size := (hL).head.lt
        replace f_3 := f_3.in_nil
        have z_f_3 := f_3.size
        replace o_1 := o_1.no f_3
        replace p_1 := p_1.no f_3
        replace o_2 := o_2.no f_3
        replace fj := fj.no_trans f_3
        intro  h_7  f_4 hL
        replace f_4 := f_4.inIv (lo := h_5.size) (hi := h_6.size) ⟨⟨by omega, by omega⟩, trivial⟩
        have z_f_4 := f_4.size
        replace o_1 := o_1.iv f_4 (by omega)
        replace p_1 := p_1.iv f_4 (by omega)
        replace o_2 := o_2.iv f_4 (by omega)
        replace fj := fj.ivFresh f_4 (by omega)
        exact ⟨h3.size, m_1, h_4.size, h_4.size, h_5.size, o_1, p_1, o_2, by omega, by omega, by omega, by omega, by omega, by omega, by omega, by omega, by omega, by omega, fj⟩
      · intro b_6 h_8 hb_b_6 f_5 hL
        have lt_b_6 : b_6 < h_8.size := (hL).head.lt
        replace f_5 := f_5.in_nil
        have z_f_5 := f_5.size
        replace o_1 := o_1.no f_5
        replace p_1 := p_1.no f_5
        replace fj := fj.no_trans f_5
        refine ⟨?_, ?_⟩
        · refine mk fj fun u_6 h_9 o_6 f_6 => ⟨u_6, rfl, hL.of_no f_6, ?_⟩
          replace hL := hL.of_no f_6
          have z_f_6 := f_6.size
          replace o_1 := o_1.no f_6
          replace p_1 := p_1.no f_6
          replace fj := fj.no_trans f_6
          intro  h_10  f_7 hL
          replace f_7 := f_7.inIv (lo := h_4.size) (hi := h_8.size) ⟨⟨by omega, by omega⟩, trivial⟩
          have z_f_7 := f_7.size
          replace o_1 := o_1.iv f_7 (by omega)
          replace p_1 := p_1.iv f_7 (by omega)
          replace o_6 := o_6.iv f_7 (by omega)
          replace fj := fj.ivFresh f_7 (by omega)
          exact ⟨h3.size, m_1, h_4.size, h_8.size, h_9.size, o_1, p_1, o_6, by omega, by omega, by omega, by omega, by omega, by omega, by omega, by omega, by omega, by omega, fj⟩
        · intro  h_11  f_8 hL
          replace f_8 := f_8.inIv (lo := h_4.size) (hi := h_8.size) ⟨⟨by omega, by omega⟩, trivial⟩
          have z_f_8 := f_8.size
          replace o_1 := o_1.iv f_8 (by omega)
          replace p_1 := p_1.iv f_8 (by omega)
          replace fj := fj.ivFresh f_8 (by omega)
          refine mk fj fun u_9 h_12 o_9 f_9 => ⟨u_9, rfl, hL.of_no f_9, ?_⟩
          replace hL := hL.of_no f_9
          have z_f_9 := f_9.size
          replace o_1 := o_1.no f_9
          replace p_1 := p_1.no f_9
          replace fj := fj.no_trans f_9
          exact ⟨h3.size, m_1, h_4.size, h_11.size, h_12.size, o_1, p_1, o_9, by omega, by omega, by omega, by omega, by omega, by omega, by omega, by omega, by omega, by omega, fj⟩
    · refine mk fj fun u_10 h_13 o_10 f_10 => ⟨u_10, rfl, hL.of_no f_10, ?_⟩
      replace hL := hL.of_no f_10
      have z_f_10 := f_10.size
      replace fj := fj.no_trans f_10
      refine ⟨?_, ?_⟩
      · refine ow fj fun u_11 v_11 m_11 h_14 o_11 p_11 y_11 w_11 f_11 => ⟨u_11, v_11, rfl, hL.of_no f_11, ?_⟩
        replace hL := hL.of_no f_11
        have z_f_11 := f_11.size
        replace o_10 := o_10.no f_11
        replace fj := fj.no_trans f_11
        intro b_7 h_15 hb_b_7 f_12 hL
        have lt_b_7 : b_7 < h_15.size := (hL).head.lt
        replace f_12 := f_12.in_nil
        have z_f_12 := f_12.size
        replace o_10 := o_10.no f_12
        replace o_11 := o_11.no f_12
        replace p_11 := p_11.no f_12
        replace fj := fj.no_trans f_12
        intro  h_16  f_13 hL
        replace f_13 := f_13.inIv (lo := h_14.size) (hi := h_15.size) ⟨⟨by omega, by omega⟩, trivial⟩
        have z_f_13 := f_13.size
        replace o_10 := o_10.iv f_13 (by omega)
        replace o_11 := o_11.iv f_13 (by omega)
        replace p_11 := p_11.iv f_13 (by omega)
        replace fj := fj.ivFresh f_13 (by omega)
        exact ⟨h_13.size, m_11, h_14.size, h3.size, h_13.size, o_11, p_11, o_10, by omega, by omega, by omega, by omega, by omega, by omega, by omega, by omega, by omega, by omega, fj⟩
      · intro b_8 h_17 hb_b_8 f_14 hL
        have lt_b_8 : b_8 < h_17.size := (hL).head.lt
        replace f_14 := f_14.in_nil
        have z_f_14 := f_14.size
        replace o_10 := o_10.no f_14
        replace fj := fj.no_trans f_14
        refine ow fj fun u_15 v_15 m_15 h_18 o_15 p_15 y_15 w_15 f_15 => ⟨u_15, v_15, rfl, hL.of_no f_15, ?_⟩
        replace hL := hL.of_no f_15
        have z_f_15 := f_15.size
        replace o_10 := o_10.no f_15
        replace fj := fj.no_trans f_15
        intro  h_19  f_16 hL
        replace f_16 := f_16.inIv (lo := h_13.size) (hi := h_17.size) ⟨⟨by omega, by omega⟩, trivial⟩
        have z_f_16 := f_16.size
        replace o_10 := o_10.iv f_16 (by omega)
        replace o_15 := o_15.iv f_16 (by omega)
        replace p_15 := p_15.iv f_16 (by omega)
        replace fj := fj.ivFresh f_16 (by omega)
        exact ⟨h_17.size, m_15, h_18.size, h3.size, h_13.size, o_15, p_15, o_10, by omega, by omega, by omega, by omega, by omega, by omega, by omega, by omega, by omega, by omega, fj⟩
    · intro b_9 h_20 hb_b_9 f_17 hL
      have lt_b_9 : b_9 < h_20.size := (hL).head.lt
      replace f_17 := f_17.in_nil
      have z_f_17 := f_17.size
      replace fj := fj.no_trans f_17
      refine ⟨?_, ?_⟩
      · refine ow fj fun u_18 v_18 m_18 h_21 o_18 p_18 y_18 w_18 f_18 => ⟨u_18, v_18, rfl, hL.of_no f_18, ?_⟩
        replace hL := hL.of_no f_18
        have z_f_18 := f_18.size
        replace fj := fj.no_trans f_18
        refine ⟨?_, ?_⟩
        · refine mk fj fun u_19 h_22 o_19 f_19 => ⟨u_19, rfl, hL.of_no f_19, ?_⟩
          replace hL := hL.of_no f_19
          have z_f_19 := f_19.size
          replace o_18 := o_18.no f_19
          replace p_18 := p_18.no f_19
          replace fj := fj.no_trans f_19
          intro  h_23  f_20 hL
          replace f_20 := f_20.inIv (lo := h3.size) (hi := h_20.size) ⟨⟨by omega, by omega⟩, trivial⟩
          have z_f_20 := f_20.size
          replace o_18 := o_18.iv f_20 (by omega)
          replace p_18 := p_18.iv f_20 (by omega)
          replace o_19 := o_19.iv f_20 (by omega)
          replace fj := fj.ivFresh f_20 (by omega)
          exact ⟨h_20.size, m_18, h_21.size, h_21.size, h_22.size, o_18, p_18, o_19, by omega, by omega, by omega, by omega, by omega, by omega, by omega, by omega, by omega, by omega, fj⟩
        · intro  h_24  f_21 hL
          replace f_21 := f_21.inIv (lo := h3.size) (hi := h_20.size) ⟨⟨by omega, by omega⟩, trivial⟩
          have z_f_21 := f_21.size
          replace o_18 := o_18.iv f_21 (by omega)
          replace p_18 := p_18.iv f_21 (by omega)
          replace fj := fj.ivFresh f_21 (by omega)
          refine mk fj fun u_22 h_25 o_22 f_22 => ⟨u_22, rfl, hL.of_no f_22, ?_⟩
          replace hL := hL.of_no f_22
          have z_f_22 := f_22.size
          replace o_18 := o_18.no f_22
          replace p_18 := p_18.no f_22
          replace fj := fj.no_trans f_22
          exact ⟨h_20.size, m_18, h_21.size, h_24.size, h_25.size, o_18, p_18, o_22, by omega, by omega, by omega, by omega, by omega, by omega, by omega, by omega, by omega, by omega, fj⟩
      · refine mk fj fun u_23 h_26 o_23 f_23 => ⟨u_23, rfl, hL.of_no f_23, ?_⟩
        replace hL := hL.of_no f_23
        have z_f_23 := f_23.size
        replace fj := fj.no_trans f_23
        refine ow fj fun u_24 v_24 m_24 h_27 o_24 p_24 y_24 w_24 f_24 => ⟨u_24, v_24, rfl, hL.of_no f_24, ?_⟩
        replace hL := hL.of_no f_24
        have z_f_24 := f_24.size
        replace o_23 := o_23.no f_24
        replace fj := fj.no_trans f_24
        intro  h_28  f_25 hL
        replace f_25 := f_25.inIv (lo := h3.size) (hi := h_20.size) ⟨⟨by omega, by omega⟩, trivial⟩
        have z_f_25 := f_25.size
        replace o_23 := o_23.iv f_25 (by omega)
        replace o_24 := o_24.iv f_25 (by omega)
        replace p_24 := p_24.iv f_25 (by omega)
        replace fj := fj.ivFresh f_25 (by omega)
        exact ⟨h_26.size, m_24, h_27.size, h_20.size, h_26.size, o_24, p_24, o_23, by omega, by omega, by omega, by omega, by omega, by omega, by omega, by omega, by omega, by omega, fj⟩
  rintro b4 x1 x2 x3 h29 ⟨i, m, j, i3, j3, o29, p29, q29, y0, y1, d1, d2, d3, e1, e2, e3, e4, e5, f29⟩ hL29
  have z29 := f29.size
  have f029 := f3.no_trans f29
  have l4 : b4 < h29.size := hL29.head.lt
  refine ⟨fun n k h' => ∃ (l : Lo) (cnt : List Int), 0 ≤ k ∧ k + n = 4000 ∧ LOK xss k.toNat l ∧ cnt.length = xss.length ∧ (∀ x, x ∈ cnt → 0 ≤ x ∧ x ≤ (k.toNat : Int)) ∧ OwI h' (Iv i m) x1 l.1 ∧ OwI h' (Iv m j) x2 l.2 ∧ OwI h' (Iv i3 j3) x3 cnt ∧ Fr No h h' ∧ h29.size ≤ h'.size ∧ endL xss sink ch n k.toNat l cnt = R, ⟨4000, l, List.replicate xss.length 0, by omega, by omega, L0, by simp, fun x hx => by simp only [List.mem_replicate] at hx; omega, o29, p29, q29, f029, Nat.le_refl _, hR⟩, ?_⟩
  rintro n k h30 ⟨lk, cnt, k0, k1, L, hcnt, hcb, o30, p30, q30, f30, z30, eq⟩ hL30
  have hlk := L.len
  have cc : RdI (Iv m j) h30 x2 lk.2 := p30.rdI
  have out : ∀ (t u w : Sl) (h6 h7 : Heap), Fr No h h6 → h29.size ≤ h6.size → Fr (In [b3]) h6 h7 → OwI h6 (Iv i m) t R.1.1 → OwI h6 (Iv m j) u R.1.2 → OwI h6 (Iv i3 j3) w R.2.1 → K (.tuple #[.agg #[t.v, u.v], w.v, VB R.2.2]) h7 := fun t u w h6 h7 f6 z6 f7 a1 a2 a3 => by
    have f7 := f7.inIv (lo := h.size) (hi := h3.size) ⟨⟨hb3, l3⟩, trivial⟩
    have z7 := f7.size
    exact HK t u w i m j i3 j3 h7 (Ow.iv a1 f7 (.inr e1)) (Ow.iv a2 f7 (.inr (by omega))) (Ow.iv a3 f7 (.inr e2)) (by omega) y0 y1 (by omega) (by omega) (by omega) (f6.ivFresh f7 (Nat.le_refl _))
  refine k_chLoaded cc (by omega) sink _ fun w h31 o31 f31 => ⟨w, rfl, hL30.of_no f31, fun e => ?_, fun e => ⟨fun e6 => ?_, fun e6 => ?_⟩⟩
  · simp only [decide_eq_true_eq] at e
    have hwn := RdI.len (Ow.rdF o31 : RdI _ h31 w _)
    have er : R = (lk, cnt, true) := by
      rw [← eq]
      cases n with
      | zero => rw [endL, if_pos (by omega)]
      | succ n => rw [endL, if_pos (by omega)]
    intro h32 f32 _
    have := out x1 x2 x3 h31 h32 (f30.no_trans f31) (by have := f31.size; omega) f32 (by rw [er]; exact Ow.no o30 f31) (by rw [er]; exact Ow.no p30 f31) (by rw [er]; exact Ow.no q30 f31)
    rw [er] at this
    exact this
  · simp only [decide_eq_false_iff_not] at e
    simp only [decide_eq_true_eq] at e6
    have hwn := RdI.len (Ow.rdF o31 : RdI _ h31 w _)
    obtain rfl : n = 0 := by omega
    rw [endL, if_neg (by omega)] at eq
    intro h33 f33 _
    have := out nilSl nilSl nilSl h31 h33 (f30.no_trans f31) (by have := f31.size; omega) f33 (by rw [← eq]; exact Ow.nil _ _ _ _) (by rw [← eq]; exact Ow.nil _ _ _ _) (by rw [← eq]; exact Ow.nil _ _ _ _)
    rw [← eq] at this
    exact this
  simp only [decide_eq_false_iff_not] at e e6
  have w31 : RdI _ h31 w (waitP sink lk.2) := Ow.rdF o31
  have hwn := w31.len
  obtain ⟨n, rfl⟩ : ∃ n', n = n' + 1 := ⟨n - 1, by omega⟩
  have hw0 : (waitP sink lk.2).length ≠ 0 := by omega
  rw [endL, if_neg hw0] at eq
  have hpk := pick_ok L hch hw0 (sink := sink) k.toNat
  have z31 := f31.size
  have f031 := f30.no_trans f31
  have C31 := RdI.no H3 f031
  have hon := C31.len
  refine ⟨w31.inb (by omega) (by omega), _, w31.get (by omega) (by omega), fun x h' => x = pickP ch (waitP sink lk.2) k.toNat ∧ h' = h31, ⟨fun e7 => ?_, fun e7 => ?_⟩, ?_⟩
  · have hm := C31.lt e7
    have hm' : (0 : Int) < ((waitP sink lk.2).length : Int) := by omega
    have h1 := Int.tmod_nonneg ((waitP sink lk.2).length : Int) (hch _ (List.getElem_mem (show k.toNat < ch.length by omega)))
    have h2 := Int.tmod_lt_of_pos (ch[k.toNat]'(by omega)) hm'
    refine ⟨C31.inb k0 hm, _, C31.get k0 hm, by omega, ?_⟩
    rw [hwn]
    refine ⟨w31.inb h1 h2, _, w31.get h1 h2, ?_, rfl⟩
    unfold pickP
    rw [if_pos (by omega), getD_getI (show k.toNat < ch.length by omega), getD_getI (by omega)]
  · simp only [decide_eq_false_iff_not] at e7
    refine ⟨?_, rfl⟩
    unfold pickP
    rw [if_neg (by omega), getD_getI (by omega)]
    rfl
  rintro x h34 ⟨rfl, rfl⟩ hL34
  generalize hpp : pickP ch (waitP sink lk.2) k.toNat = pp at eq hpk
  have hne : (xss.getD pp.toNat []).length ≠ 0 := by
    rw [getD_get (by omega)]
    exact leadB_exit s0 hlead (by omega) (by rw [show ((pp.toNat : Nat) : Int) = pp by omega]; exact hpk.2.2) s1
  have G34 : RdR (fun k => k < h3.size) h34 g xss := (G.low.no f031).mono fun k hk => by omega
  have G34 : RdR (fun k => k < i) h34 g xss := G34.mono fun k hk => by omega
  refine k_chMove G34 (Ow.no o30 f31) (Ow.no p30 f31) y0 y1 (by omega) L (by omega) hpk.1 hpk.2.1 hne _ fun h35 v o35 p35 f35 => ?_
  have hL35 := hL34.iv f35 ⟨by omega, .inl (by omega), .inl (by omega), .inl (by omega), trivial⟩
  have q35 := Ow.iv (Ow.no q30 f31) f35 (by omega)
  have rq : RdI (Iv i3 j3) h35 x3 cnt := q35.rdI
  have hql := rq.len
  have hcm := hcb _ (List.getElem_mem (show pp.toNat < cnt.length by omega))
  obtain ⟨w1, w2, w3⟩ := q35.store1 hpk.1 (by omega) (VI (cnt[pp.toNat]'(by omega) + 1))
  have w3' : Fr (Iv i3 j3) h35 _ := w3.mono fun _ _ hk => (q35.foot hk).1
  have hL36 := hL35.iv w3' ⟨by omega, .inl (by omega), .inl (by omega), .inl (by omega), trivial⟩
  refine ⟨hL35, rq.inb hpk.1 (by omega), _, rq.get hpk.1 (by omega), rq.inb hpk.1 (by omega), ?_⟩
  rw [w64_eq _ (by omega) (by omega)]
  refine ⟨w1, hL36, fun h36 e36 _ => ?_⟩
  subst e36
  rw [← List.map_set] at w2
  have eb : cnt.set pp.toNat (cnt[pp.toNat]'(by omega) + 1) = bump cnt pp.toNat := by unfold bump; rw [getD_getI (by omega)]
  rw [eb] at w2
  have z35 := f35.size
  have z36 := w3'.size
  rw [w64_eq _ (by omega) (by omega)]
  have L' := L.mv hpk.1 hpk.2.1
  have ek : (k + 1).toNat = k.toNat + 1 := by omega
  refine ⟨n, by omega, _, _, by omega, by omega, by rw [ek]; exact L', by rw [bump_length]; exact hcnt, by rw [ek]; exact bump_mem hcb, Ow.iv o35 w3' (by omega), Ow.iv p35 w3' (by omega), w2, (f031.ivFresh f35 (by omega)).ivFresh w3' (by omega), by omega, by rw [ek]; exact eq⟩

theorem k_end {a m b bL : Nat} {S3 : Nat → Prop} {h : Heap} {g r c o : Sl} {xss : List (List Int)} {l : Lo} {ch : List Int} {sink : Int} (V : IsVar h bL [r.v, c.v]) (hbL : b ≤ bL ∨ bL < a) (G : RdR (fun k => k < a) h g xss) (R : OwI h (Iv a m) r l.1) (C : OwI h (Iv m b) c l.2) (ha : a ≤ m) (hm : m ≤ b) (hb : b ≤ h.size) (H3 : RdI S3 h o ch) (h3d : ∀ k, S3 k → ¬ Iv a b k) (L0 : LOK xss 0 l) (s0 : 0 ≤ sink) (s1 : sink < (xss.length : Int)) (hlead : leadB xss sink = true) (hch : ∀ c, c ∈ ch → 0 ≤ c) (K : Value → Heap → Prop)
    (HN : (endL xss sink ch 4000 0 l (List.replicate xss.length 0)).2.2 = false → ∀ h', IsVar h' bL [r.v, c.v] → Fr (Iv a b) h h' → K (.tuple #[nilSl.v, VB false]) h')
    (HS : (endL xss sink ch 4000 0 l (List.replicate xss.length 0)).2.2 = true → ∀ t h', IsVar h' bL [r.v, c.v] → OwI h' (Iv a m) r (endL xss sink ch 4000 0 l (List.replicate xss.length 0)).1.1 → OwI h' (Iv m b) c (endL xss sink ch 4000 0 l (List.replicate xss.length 0)).1.2 → OwI h' (Iv h.size h'.size) t (endL xss sink ch 4000 0 l (List.replicate xss.length 0)).2.1 → Fr (Iv a b) h h' → K (.tuple #[t.v, VB true]) h') : callM Try.prog 81 #[VP bL 0, .agg #[g.v], VI sink, o.v] h K := by
  have lb := V.lt
  refine v81 bL r c g sink o h K (.cons V (by simp) .nil) fun b2 h1 hb2 f1 hL1 => ?_
  generalize hR : endL xss sink ch 4000 0 l (List.replicate xss.length 0) = R' at HN HS
  have f1 := f1.in_nil
  have z1 := f1.size
  have l2 : b2 < h1.size := hL1.head.lt
  have hgl := graph_len L0.w.graph
  refine eop_make rIs (fun k => h1.size ≤ k) (fun _ h => h) .i64 .i64 g.n g.n (Nat.le_refl _) (by rw [G.len]; omega) fun t h2 n2 c2 o2 f2 m2 _ => ⟨t, rfl, hL1.of_no f2, ?_⟩
  have o2 : OwI h2 (Iv h1.size h2.size) t (List.replicate xss.length 0) := by
    have e : (List.replicate g.n [VI 0]).flatten = (List.replicate xss.length (0 : Int)).map VI := by rw [G.len]; simp [List.flatten_replicate_singleton]
    rw [e] at o2; exact Ow.toIv o2
  have z2 := f2.size
  have f02 := f1.no_trans f2
  have hL2 := hL1.of_no f2
  -- what turns: the load, and what is new
  refine ⟨fun n k x1 x2 h' => ∃ (l : Lo) (cnt : List Int), r = x1 ∧ c = x2 ∧ 0 ≤ k ∧ k + n = 4000 ∧ LOK xss k.toNat l ∧ cnt.length = xss.length ∧ (∀ x, x ∈ cnt → 0 ≤ x ∧ x ≤ (k.toNat : Int)) ∧ OwI h' (Iv a m) r l.1 ∧ OwI h' (Iv m b) c l.2 ∧ OwI h' (Iv h1.size h2.size) t cnt ∧ Fr (Iv a b) h h' ∧ h2.size ≤ h'.size ∧ endL xss sink ch n k.toNat l cnt = R', ⟨4000, l, List.replicate xss.length 0, rfl, rfl, by omega, by omega, L0, by simp, fun x hx => by simp only [List.mem_replicate] at hx; omega, Ow.no R f02, Ow.no C f02, o2, f02.of_no, Nat.le_refl _, hR⟩, ?_⟩
  rintro n k _ _ h30 ⟨lk, cnt, rfl, rfl, k0, k1, L, hcnt, hcb, o30, p30, q30, f30, z30, eq⟩ hL30
  have hlk := L.len
  have cc : RdI (Iv m b) h30 c lk.2 := p30.rdI
  refine k_waiting hL30.tail.head cc (by omega) sink _ fun w h31 o31 f31 => ⟨r, c, w, rfl, hL30.of_no f31, fun e => ?_, fun e => ⟨fun e6 => ?_, fun e6 => ?_⟩⟩
  · simp only [decide_eq_true_eq] at e
    have hwn := RdI.len (Ow.rdF o31 : RdI _ h31 w _)
    have er : R' = (lk, cnt, true) := by
      rw [← eq]
      cases n with
      | zero => rw [endL, if_pos (by omega)]
      | succ n => rw [endL, if_pos (by omega)]
    rw [er] at HS
    have z31 := f31.size
    exact HS rfl t h31 (hL30.of_no f31).tail.head (Ow.no o30 f31) (Ow.no p30 f31) ((Ow.no q30 f31).ivs (by omega) (by omega)) (f30.trans f31.of_no)
  · simp only [decide_eq_false_iff_not] at e
    simp only [decide_eq_true_eq] at e6
    have hwn := RdI.len (Ow.rdF o31 : RdI _ h31 w _)
    obtain rfl : n = 0 := by omega
    rw [endL, if_neg (by omega)] at eq
    exact HN (by rw [← eq]) h31 (hL30.of_no f31).tail.head (f30.trans f31.of_no)
  simp only [decide_eq_false_iff_not] at e e6
  have w31 : RdI _ h31 w (waitP sink lk.2) := Ow.rdF o31
  have hwn := w31.len
  obtain ⟨n, rfl⟩ : ∃ n', n = n' + 1 := ⟨n - 1, by omega⟩
  have hw0 : (waitP sink lk.2).length ≠ 0 := by omega
  rw [endL, if_neg hw0] at eq
  have hpk := pick_ok L hch hw0 (sink := sink) k.toNat
  have z31 := f31.size
  have f031 : Fr (Iv a b) h h31 := f30.trans f31.of_no
  have C31 : RdI S3 h31 o ch := RdI.fr H3 f031 h3d
  have hon := C31.len
  refine ⟨w31.inb (by omega) (by omega), _, w31.get (by omega) (by omega), fun x h' => x = pickP ch (waitP sink lk.2) k.toNat ∧ h' = h31, ⟨fun e7 => ?_, fun e7 => ?_⟩, ?_⟩
  · have hm := C31.lt e7
    have hm' : (0 : Int) < ((waitP sink lk.2).length : Int) := by omega
    have h1 := Int.tmod_nonneg ((waitP sink lk.2).length : Int) (hch _ (List.getElem_mem (show k.toNat < ch.length by omega)))
    have h2 := Int.tmod_lt_of_pos (ch[k.toNat]'(by omega)) hm'
    refine ⟨C31.inb k0 hm, _, C31.get k0 hm, by omega, ?_⟩
    rw [hwn]
    refine ⟨w31.inb h1 h2, _, w31.get h1 h2, ?_, rfl⟩
    unfold pickP
    rw [if_pos (by omega), getD_getI (show k.toNat < ch.length by omega), getD_getI (by omega)]
  · simp only [decide_eq_false_iff_not] at e7
    refine ⟨?_, rfl⟩
    unfold pickP
    rw [if_neg (by omega), getD_getI (by omega)]
    rfl
  rintro x h34 ⟨rfl, rfl⟩ hL34
  generalize hpp : pickP ch (waitP sink lk.2) k.toNat = pp at eq hpk
  have hne : (xss.getD pp.toNat []).length ≠ 0 := by
    rw [getD_get (by omega)]
    exact leadB_exit s0 hlead (by omega) (by rw [show ((pp.toNat : Nat) : Int) = pp by omega]; exact hpk.2.2) s1
  have G34 : RdR (fun k => k < a) h34 g xss := G.fr f031 fun k hk hk2 => by have := hk2.1; omega
  refine k_send hL34.tail.head hbL G34 (Ow.no o30 f31) (Ow.no p30 f31) ha hm (by omega) L (by omega) hpk.1 hpk.2.1 hne _ fun h35 v o35 p35 f35 => ?_
  have hL35 := hL34.iv f35 ⟨.inr (by omega), by omega, trivial⟩
  have q35 := Ow.iv (Ow.no q30 f31) f35 (by omega)
  have rq : RdI (Iv h1.size h2.size) h35 t cnt := q35.rdI
  have hql := rq.len
  have hcm := hcb _ (List.getElem_mem (show pp.toNat < cnt.length by omega))
  obtain ⟨w1, w2, w3⟩ := q35.store1 hpk.1 (by omega) (VI (cnt[pp.toNat]'(by omega) + 1))
  have w3' : Fr (Iv h1.size h2.size) h35 _ := w3.mono fun _ _ hk => (q35.foot hk).1
  have hL36 := hL35.iv w3' ⟨.inl (by omega), .inl (by omega), trivial⟩
  refine ⟨r, c, hL35, rq.inb hpk.1 (by omega), _, rq.get hpk.1 (by omega), rq.inb hpk.1 (by omega), ?_⟩
  rw [w64_eq _ (by omega) (by omega)]
  refine ⟨w1, hL36, fun h36 e36 _ => ?_⟩
  subst e36
  rw [← List.map_set] at w2
  have eb : cnt.set pp.toNat (cnt[pp.toNat]'(by omega) + 1) = bump cnt pp.toNat := by unfold bump; rw [getD_getI (by omega)]
  rw [eb] at w2
  have z35 := f35.size
  have z36 := w3'.size
  rw [w64_eq _ (by omega) (by omega)]
  have L' := L.mv hpk.1 hpk.2.1
  have ek : (k + 1).toNat = k.toNat + 1 := by omega
  have fin : Fr (Iv a b) h _ := (f031.trans f35).fresh2 w3' fun k hk => by have := hk.1; omega
  exact ⟨n, by omega, _, _, rfl, rfl, by omega, by omega, by rw [ek]; exact L', by rw [bump_length]; exact hcnt, by rw [ek]; exact bump_mem hcb, Ow.iv o35 w3' (by omega), Ow.iv p35 w3' (by omega), w2, fin, by omega, by rw [ek]; exact eq⟩

def eolP (g : List (List Int)) (sink : Int) (l : Lo) (ch : List Int) : Lo × Bool :=
  if loadB g sink l && (decide (ch.length ≤ 100) && !ch.any fun c => decide (c < 0)) then ((endL g sink ch 4000 0 l (List.replicate g.length 0)).1, (endL g sink ch 4000 0 l (List.replicate g.length 0)).2.2) else (([], []), false)
theorem eolP_len (g : List (List Int)) (sink : Int) (l : Lo) (ch : List Int) : (eolP g sink l ch).1.1.length ≤ 8 ∧ (eolP g sink l ch).1.2.length ≤ 8 := by
  unfold eolP
  split
  · rename_i h
    simp only [Bool.and_eq_true, decide_eq_true_eq] at h
    obtain ⟨_, L, _⟩ := load_of h.1
    have hgl := graph_len L.w.graph
    have := endL_ok (sink := sink) (cs_ok h.2.2) 4000 0 l (List.replicate g.length 0) 0 L (by simp)
    simp only
    omega
  · simp

theorem k_spec_EndOfLoad {S S1 S2 S3 : Nat → Prop} {h : Heap} {g r c o : Sl} {xss : List (List Int)} {rs cs ch : List Int} (G : RdR S h g xss) (H1 : RdI S1 h r rs) (H2 : RdI S2 h c cs) (H3 : RdI S3 h o ch) (B : ∀ n, n ∈ ch → (Lit.int .i64 n).wf = true) (sink : Int) (K : Value → Heap → Prop) (HK : ∀ t u m h', OwI h' (Iv h.size m) t (eolP xss sink (rs, cs) ch).1.1 → OwI h' (Iv m h'.size) u (eolP xss sink (rs, cs) ch).1.2 → h.size ≤ m → m ≤ h'.size → Fr No h h' → K (.tuple #[.agg #[t.v, u.v], VB (eolP xss sink (rs, cs) ch).2]) h') : callM Try.prog 44 #[.agg #[g.v], VI sink, .agg #[r.v, c.v], o.v] h K := by
  refine v44 g sink r c o h K fun b1 b2 b3 h3 hb1 hb2 hb3 f3 hL3 => ?_
  generalize hR : eolP xss sink (rs, cs) ch = R at HK
  unfold eolP at hR
  have f3 := f3.in_nil
  have l3 : b3 < h3.size := hL3.head.lt
  have z3 := f3.size
  have no : R = (([], []), false) → ∀ h4 h', Fr No h h4 → h3.size ≤ h4.size → Fr (In [b3]) h4 h' → K (.tuple #[.agg #[nilSl.v, nilSl.v], VB false]) h' := fun e h4 h' f z f' => by
    have f' := f'.inIv (lo := h.size) (hi := h3.size) ⟨⟨hb3, l3⟩, trivial⟩
    have z' := f'.size
    have := HK nilSl nilSl h.size h' (by rw [e]; exact Ow.nil _ _ _ _) (by rw [e]; exact Ow.nil _ _ _ _) (Nat.le_refl _) (by omega) (f.ivFresh f' (Nat.le_refl _))
    rw [e] at this
    exact this
  refine k_chGood (l := (rs, cs)) (G.no f3) (H1.no f3) (H2.no f3) sink _ fun h4 f4 => ⟨_, rfl, hL3.of_no f4, fun e h16 f16 _ => ?_, fun e => ?_⟩
  · exact no (by rw [← hR, if_neg (by rw [not_t e]; simp)]) _ _ (f3.no_trans f4) f4.size f16
  have e := not_f e
  rw [e, Bool.true_and] at hR
  have f04 := f3.no_trans f4
  have hL4 := hL3.of_no f4
  have z4 := f4.size
  have hon := H3.len
  refine ⟨fun e2 h15 f15 _ => ?_, fun e2 => ?_⟩
  · simp only [decide_eq_true_eq] at e2
    exact no (by rw [← hR, if_neg (by rw [decide_eq_false (by omega)]; simp)]) _ _ f04 z4 f15
  simp only [decide_eq_false_iff_not] at e2
  rw [decide_eq_true (show ch.length ≤ 100 by omega), Bool.true_and, ← all_max B] at hR
  refine k_spec_l1All (H3.no f04) _ _ _ ⟨_, rfl, hL4, fun e3 h6 f6 _ => ?_, fun e3 => ?_⟩
  · exact no (by rw [← hR, if_neg (by rw [not_t e3]; simp)]) _ _ f04 z4 f6
  have e3 := not_f e3
  rw [if_pos e3] at hR
  rw [all_max B] at e3
  have hch := cs_ok e3
  refine k_chEnd (l := (rs, cs)) (G.no f04) (H1.no f04) (H2.no f04) (H3.no f04) e hch _ fun t u w i m j i3 j3 h7 o7 p7 q7 y0 y1 y2 y3 y4 y5 f7 => ⟨t, u, w, _, rfl, hL4.of_no f7, fun b4 h10 hb4 f10 _ => ?_⟩
  have f10 := f10.inIv (lo := h.size) (hi := h3.size) ⟨⟨hb3, l3⟩, trivial⟩
  have z7 := f7.size
  have z10 := f10.size
  rw [← hR] at HK
  exact HK t u m h10 ((Ow.iv o7 f10 (by omega)).ivs (by omega) (Nat.le_refl _)) ((Ow.iv p7 f10 (by omega)).ivs (Nat.le_refl _) (by omega)) (by omega) (by omega) ((f04.no_trans f7).ivFresh f10 (Nat.le_refl _))

theorem k_EndOfLoad1 (x : Int) (h : Heap) (K : Value → Heap → Prop) (HK : K (VB (decide (x < 0))) h) : callV Try.prog (.func (.func 103) #[] #[]) [VI x] h K := v103 x h K HK

theorem k_EndOfLoad {S S1 S2 S3 : Nat → Prop} {h : Heap} {g r c o : Sl} {xss : List (List Int)} {rs cs ch : List Int} (G : RdR S h g xss) (H1 : RdI S1 h r rs) (H2 : RdI S2 h c cs) (H3 : RdI S3 h o ch) (B : ∀ n, n ∈ ch → (Lit.int .i64 n).wf = true) (sink : Int) (K : Value → Heap → Prop) (HK : ∀ t u m h', OwI h' (Iv h.size m) t (eolP xss sink (rs, cs) ch).1.1 → OwI h' (Iv m h'.size) u (eolP xss sink (rs, cs) ch).1.2 → h.size ≤ m → m ≤ h'.size → Fr No h h' → K (.tuple #[.agg #[t.v, u.v], VB (eolP xss sink (rs, cs) ch).2]) h') : callM Try.prog 43 #[.agg #[g.v], VI sink, .agg #[r.v, c.v], o.v] h K := by
  refine v43 g sink r c o h K fun b1 b2 b3 h3 hb1 hb2 hb3 f3 hL3 => ?_
  generalize hR : eolP xss sink (rs, cs) ch = R at HK
  unfold eolP at hR
  have f3 := f3.in_nil
  have l3 : b3 < h3.size := hL3.head.lt
  have l2 : b2 < h3.size := hL3.tail.head.lt
  have l1 : b1 < h3.size := hL3.tail.tail.head.lt
  have z3 := f3.size
  have no : R = (([], []), false) → ∀ h4 h', Fr No h h4 → h3.size ≤ h4.size → Fr (In [b3]) h4 h' → K (.tuple #[.agg #[nilSl.v, nilSl.v], VB false]) h' := fun e h4 h' f z f' => by
    have f' := f'.inIv (lo := h.size) (hi := h3.size) ⟨⟨hb3, l3⟩, trivial⟩
    have z' := f'.size
    have := HK nilSl nilSl h.size h' (by rw [e]; exact Ow.nil _ _ _ _) (by rw [e]; exact Ow.nil _ _ _ _) (Nat.le_refl _) (by omega) (f.ivFresh f' (Nat.le_refl _))
    rw [e] at this
    exact this
  refine k_isLoad (l := (rs, cs)) (G.no f3) (H1.no f3) (H2.no f3) sink _ fun h4 f4 => ⟨_, rfl, hL3.of_no f4, fun e h16 f16 _ => ?_, fun e => ?_⟩
  · exact no (by rw [← hR, if_neg (by rw [not_t e]; simp)]) _ _ (f3.no_trans f4) f4.size f16
  have e := not_f e
  rw [e, Bool.true_and] at hR
  obtain ⟨hs, L0, _⟩ := load_of e
  obtain ⟨hg, s0, s1, hlead⟩ := sink_of hs
  have hgl := graph_len hg
  have hrl : rs.length = xss.length := L0.w.len
  have hcl : cs.length = xss.length := L0.len
  have f04 := f3.no_trans f4
  have hL4 := hL3.of_no f4
  have z4 := f4.size
  have hon := H3.len
  refine ⟨fun e2 h15 f15 _ => ?_, fun e2 => ?_⟩
  · simp only [decide_eq_true_eq] at e2
    exact no (by rw [← hR, if_neg (by rw [decide_eq_false (by omega)]; simp)]) _ _ f04 z4 f15
  simp only [decide_eq_false_iff_not] at e2
  rw [decide_eq_true (show ch.length ≤ 100 by omega), Bool.true_and] at hR
  refine k_ContainsFunc (H3.no f04) _ _ (fun x K HK => k_EndOfLoad1 x h4 K HK) _ ⟨_, rfl, hL4, fun e3 h6 f6 _ => ?_, fun e3 => ?_⟩
  · exact no (by rw [← hR, if_neg (by rw [e3]; simp)]) _ _ f04 z4 f6
  have e3' : (!ch.any fun c => decide (c < 0)) = true := by rw [e3]; rfl
  rw [if_pos e3'] at hR
  have hch := cs_ok e3'
  refine k_copiedL (l := (rs, cs)) (H1.no f04) (H2.no f04) (by simp only; omega) (by simp only; omega) _ fun t u m h7 o7 p7 y0 y1 f7 => ⟨t, u, rfl, hL4.of_no f7, fun b4 h9 hb4 f9 hL9 => ?_⟩
  have f9 := f9.in_nil
  have z7 := f7.size
  have z9 := f9.size
  have f09 := (f04.no_trans f7).no_trans f9
  have l4 : b4 < h9.size := hL9.head.lt
  have G9 : RdR (fun k => k < h4.size) h9 g xss := (G.low.no f09).mono fun k hk => by have := f04.size; omega
  have C9 : RdI (fun k => k < h.size) h9 o ch := RdI.no H3.low f09
  refine k_end (l := (rs, cs)) hL9.head (.inl (by omega)) G9 (Ow.no o7 f9) (Ow.no p7 f9) y0 y1 (by omega) C9 (fun k hk hk2 => by have := hk2.1; have := f04.size; omega) L0 s0 s1 hlead hch _ (fun hx h10 v10 f10 => ?_) fun hx w h10 v10 o10 p10 q10 f10 => ?_
  · have hL10 := hL9.iv f10 ⟨.inr (by omega), .inl (by omega), .inl (by omega), .inl (by omega), trivial⟩
    refine ⟨t, u, nilSl, false, rfl, hL10, fun _ h11 f11 _ => ?_, fun e => by simp at e⟩
    have z10 := f10.size
    rw [endL_no _ _ _ _ hx] at hR
    exact no hR.symm h10 h11 (f09.ivFresh f10 (by have := f04.size; omega)) (by omega) f11
  · have hL10 := hL9.iv f10 ⟨.inr (by omega), .inl (by omega), .inl (by omega), .inl (by omega), trivial⟩
    refine ⟨t, u, w, true, rfl, hL10, fun e => by simp at e, fun _ h12 f12 _ => ?_⟩
    have f12 := f12.inIv (lo := h.size) (hi := h3.size) ⟨⟨hb3, l3⟩, trivial⟩
    have z10 := f10.size
    have z12 := f12.size
    rw [← hR] at HK
    have := HK t u m h12 ((Ow.iv o10 f12 (by omega)).ivs (by omega) (Nat.le_refl _)) ((Ow.iv p10 f12 (by omega)).ivs (Nat.le_refl _) (by omega)) (by omega) (by omega) ((f09.ivFresh f10 (by have := f04.size; omega)).ivFresh f12 (Nat.le_refl _))
    rw [hx] at this
    exact this

/-- The moves to the end. -/
def molP (g : List (List Int)) (sink : Int) (l : Lo) : List Int × Bool :=
  if loadB g sink l then ((endL g sink [] 4000 0 l (List.replicate g.length 0)).2.1, (endL g sink [] 4000 0 l (List.replicate g.length 0)).2.2) else ([], false)
theorem molP_len (g : List (List Int)) (sink : Int) (l : Lo) : (molP g sink l).1.length ≤ 8 := by
  unfold molP
  split
  · rename_i h
    obtain ⟨_, L, _⟩ := load_of h
    have hgl := graph_len L.w.graph
    have := endL_ok (sink := sink) (ch := []) (by simp) 4000 0 l (List.replicate g.length 0) 0 L (by simp)
    simp only
    omega
  · simp

theorem k_spec_MovesOfLoad {S S1 S2 : Nat → Prop} {h : Heap} {g r c : Sl} {xss : List (List Int)} {rs cs : List Int} (G : RdR S h g xss) (H1 : RdI S1 h r rs) (H2 : RdI S2 h c cs) (sink : Int) (K : Value → Heap → Prop) (HK : ∀ t h', OwI h' (Iv h.size h'.size) t (molP xss sink (rs, cs)).1 → Fr No h h' → K (.tuple #[t.v, VB (molP xss sink (rs, cs)).2]) h') : callM Try.prog 12 #[.agg #[g.v], VI sink, .agg #[r.v, c.v]] h K := by
  refine v12 g sink r c h K fun b1 b2 h3 hb1 hb2 f3 hL3 => ?_
  generalize hR : molP xss sink (rs, cs) = R at HK
  unfold molP at hR
  have f3 := f3.in_nil
  have z3 := f3.size
  refine k_chGood (l := (rs, cs)) (G.no f3) (H1.no f3) (H2.no f3) sink _ fun h4 f4 => ⟨_, rfl, hL3.of_no f4, fun e => ?_, fun e => ?_⟩
  · rw [if_neg (by rw [not_t e]; simp)] at hR
    rw [← hR] at HK
    exact HK nilSl h4 (Ow.nil _ _ _ _) (f3.no_trans f4)
  have e := not_f e
  rw [if_pos e] at hR
  rw [← hR] at HK
  have f04 := f3.no_trans f4
  have hL4 := hL3.of_no f4
  have z4 := f4.size
  refine k_chEnd (l := (rs, cs)) (G.no f04) (H1.no f04) (H2.no f04) (rdI_nil h4) e (by simp) _ fun t u w i m j i3 j3 h7 o7 p7 q7 y0 y1 y2 y3 y4 y5 f7 => ⟨t, u, w, _, rfl, hL4.of_no f7, fun b4 h10 hb4 f10 _ => ?_⟩
  have f10 := f10.in_nil
  have z7 := f7.size
  have z10 := f10.size
  exact HK w h10 ((Ow.no q7 f10).ivs (by omega) (by omega)) ((f04.no_trans f7).no_trans f10)

theorem k_MovesOfLoad {S S1 S2 : Nat → Prop} {h : Heap} {g r c : Sl} {xss : List (List Int)} {rs cs : List Int} (G : RdR S h g xss) (H1 : RdI S1 h r rs) (H2 : RdI S2 h c cs) (sink : Int) (K : Value → Heap → Prop) (HK : ∀ t h', OwI h' (Iv h.size h'.size) t (molP xss sink (rs, cs)).1 → Fr No h h' → K (.tuple #[t.v, VB (molP xss sink (rs, cs)).2]) h') : callM Try.prog 15 #[.agg #[g.v], VI sink, .agg #[r.v, c.v]] h K := by
  refine v15 g sink r c h K fun b1 b2 h3 hb1 hb2 f3 hL3 => ?_
  generalize hR : molP xss sink (rs, cs) = R at HK
  unfold molP at hR
  have f3 := f3.in_nil
  have l2 : b2 < h3.size := hL3.head.lt
  have l1 : b1 < h3.size := hL3.tail.head.lt
  have z3 := f3.size
  refine k_isLoad (l := (rs, cs)) (G.no f3) (H1.no f3) (H2.no f3) sink _ fun h4 f4 => ⟨_, rfl, hL3.of_no f4, fun e => ?_, fun e => ?_⟩
  · rw [if_neg (by rw [not_t e]; simp)] at hR
    rw [← hR] at HK
    exact HK nilSl h4 (Ow.nil _ _ _ _) (f3.no_trans f4)
  have e := not_f e
  rw [if_pos e] at hR
  obtain ⟨hs, L0, _⟩ := load_of e
  obtain ⟨hg, s0, s1, hlead⟩ := sink_of hs
  have hgl := graph_len hg
  have hrl : rs.length = xss.length := L0.w.len
  have hcl : cs.length = xss.length := L0.len
  have f04 := f3.no_trans f4
  have hL4 := hL3.of_no f4
  have z4 := f4.size
  refine k_copiedL (l := (rs, cs)) (H1.no f04) (H2.no f04) (by simp only; omega) (by simp only; omega) _ fun t u m h7 o7 p7 y0 y1 f7 => ⟨t, u, rfl, hL4.of_no f7, fun b4 h9 hb4 f9 hL9 => ?_⟩
  have f9 := f9.in_nil
  have z7 := f7.size
  have z9 := f9.size
  have f09 := (f04.no_trans f7).no_trans f9
  have l4 : b4 < h9.size := hL9.head.lt
  have G9 : RdR (fun k => k < h4.size) h9 g xss := (G.low.no f09).mono fun k hk => by have := f04.size; omega
  refine k_end (l := (rs, cs)) hL9.head (.inl (by omega)) G9 (Ow.no o7 f9) (Ow.no p7 f9) y0 y1 (by omega) (rdI_nil h9) (fun k hk _ => hk) L0 s0 s1 hlead (by simp) _ (fun hx h10 v10 f10 => ?_) fun hx w h10 v10 o10 p10 q10 f10 => ?_
  · have hL10 := hL9.iv f10 ⟨.inr (by omega), .inl (by omega), .inl (by omega), trivial⟩
    refine ⟨t, u, nilSl, false, rfl, hL10, ?_⟩
    rw [endL_no _ _ _ _ hx] at hR
    rw [← hR] at HK
    exact HK nilSl h10 (Ow.nil _ _ _ _) (f09.ivFresh f10 (by have := f04.size; omega))
  · have hL10 := hL9.iv f10 ⟨.inr (by omega), .inl (by omega), .inl (by omega), trivial⟩
    refine ⟨t, u, w, true, rfl, hL10, ?_⟩
    have z10 := f10.size
    rw [← hR] at HK
    have := HK w h10 (Ow.ivs q10 (by omega) (Nat.le_refl _)) (f09.ivFresh f10 (by have := f04.size; omega))
    (try simp only at this)
    rw [hx] at this
    exact this

/-! Chips in any order: what moves make is told by their numbers. -/
def dstP (g : List (List Int)) (rs : List Int) (q j : Nat) : Int := (g.getD q []).getD (((rs.getD q 0).toNat + j) % (g.getD q []).length) 0
/-- How many of the first k moves at q send a chip to p. -/
def arrP (g : List (List Int)) (rs : List Int) (q : Nat) : Nat → Nat → Nat
  | 0, _ => 0
  | k + 1, p => arrP g rs q k p + (if dstP g rs q (k + 1) = (p : Int) then 1 else 0)
def sumN (f : Nat → Nat) : Nat → Nat
  | 0 => 0
  | n + 1 => sumN f n + f n
theorem sumN_congr {f f' : Nat → Nat} : ∀ {n : Nat}, (∀ i, i < n → f i = f' i) → sumN f n = sumN f' n
  | 0, _ => rfl
  | n + 1, h => by rw [sumN, sumN, sumN_congr fun i hi => h i (by omega), h n (by omega)]
theorem sumN_le {f f' : Nat → Nat} : ∀ {n : Nat}, (∀ i, i < n → f i ≤ f' i) → sumN f n ≤ sumN f' n
  | 0, _ => Nat.le_refl _
  | n + 1, h => by
    have := sumN_le (n := n) fun i hi => h i (by omega)
    have := h n (by omega)
    rw [sumN, sumN]; omega
theorem sumN_one {f f' : Nat → Nat} {p d : Nat} (hp : f' p = f p + d) (ho : ∀ i, i ≠ p → f' i = f i) : ∀ n, sumN f' n = sumN f n + (if p < n then d else 0)
  | 0 => by simp [sumN]
  | n + 1 => by
    rw [sumN, sumN, sumN_one hp ho n]
    by_cases e : n = p
    · subst e; rw [hp, if_neg (by omega), if_pos (by omega)]; omega
    · rw [ho n e]
      by_cases h : p < n
      · rw [if_pos h, if_pos (by omega)]; omega
      · rw [if_neg h, if_neg (by omega), Nat.add_zero, Nat.add_zero]
theorem sumN_eq {f f' : Nat → Nat} : ∀ {n : Nat}, (∀ i, i < n → f i ≤ f' i) → sumN f' n ≤ sumN f n → ∀ i, i < n → f i = f' i
  | n + 1, h, hs, i, hi => by
    rw [sumN, sumN] at hs
    have h1 := sumN_le (n := n) fun i hi => h i (by omega)
    have h2 := h n (by omega)
    by_cases e : i = n
    · subst e; omega
    · exact sumN_eq (n := n) (fun i hi => h i (by omega)) (by omega) i (by omega)
def upC (c : Nat → Nat) (p : Nat) : Nat → Nat := fun i => if i = p then c i + 1 else c i
theorem upC_at (c : Nat → Nat) (p : Nat) : upC c p p = c p + 1 := by unfold upC; rw [if_pos rfl]
theorem upC_ne (c : Nat → Nat) {p i : Nat} (h : i ≠ p) : upC c p i = c i := by unfold upC; rw [if_neg h]
/-- The load behind so many moves at each place. -/
structure IsSt (g : List (List Int)) (l : Lo) (c : Nat → Nat) (l' : Lo) : Prop where
  len1 : l'.1.length = g.length
  len2 : l'.2.length = g.length
  ex : ∀ q, q < g.length → (g.getD q []).length = 0 → c q = 0
  rot : ∀ q, q < g.length → l'.1.getD q 0 = if (g.getD q []).length = 0 then l.1.getD q 0 else ((((l.1.getD q 0).toNat + c q) % (g.getD q []).length : Nat) : Int)
  chip : ∀ p, p < g.length → l'.2.getD p 0 = l.2.getD p 0 - (c p : Int) + ((sumN (fun q => arrP g l.1 q (c q) p) g.length : Nat) : Int)
theorem ext_getD {xs ys : List Int} (hl : xs.length = ys.length) (h : ∀ i, i < xs.length → xs.getD i 0 = ys.getD i 0) : xs = ys := by
  apply List.ext_getElem hl
  intro i h1 h2
  have := h i h1
  rwa [getD_getI h1, getD_getI h2] at this
theorem IsSt.same {g : List (List Int)} {l a b : Lo} {c c' : Nat → Nat} (A : IsSt g l c a) (B : IsSt g l c' b) (hc : ∀ i, i < g.length → c i = c' i) : a = b := by
  have h1 : a.1 = b.1 := ext_getD (by rw [A.len1, B.len1]) fun i hi => by
    rw [A.len1] at hi
    rw [A.rot i hi, B.rot i hi, hc i hi]
  have h2 : a.2 = b.2 := ext_getD (by rw [A.len2, B.len2]) fun i hi => by
    rw [A.len2] at hi
    rw [A.chip i hi, B.chip i hi, hc i hi, sumN_congr (f := fun q => arrP g l.1 q (c q) i) (f' := fun q => arrP g l.1 q (c' q) i) fun q hq => by simp only [hc q hq]]
  exact Prod.ext h1 h2
theorem LOK.rotN {g : List (List Int)} {m : Nat} {l : Lo} (L : LOK g m l) {q : Nat} (hq : q < g.length) : 0 ≤ l.1.getD q 0 ∧ ((g.getD q []).length ≠ 0 → (l.1.getD q 0).toNat < (g.getD q []).length) := by
  have hl : l.1.length = g.length := L.w.len
  have h1 : q < l.1.length := by omega
  have := L.w.rot q h1 hq
  simp only at this
  rw [getD_getI h1, List.getD_eq_getElem?_getD, List.getElem?_eq_getElem hq, Option.getD_some]
  exact ⟨this.1, fun hn => by omega⟩
theorem IsSt.init {g : List (List Int)} {m : Nat} {l : Lo} (L : LOK g m l) : IsSt g l (fun _ => 0) l := by
  refine ⟨L.w.len, L.len, fun _ _ _ => rfl, fun q hq => ?_, fun p hp => ?_⟩
  · obtain ⟨a, b⟩ := L.rotN hq
    split
    · rfl
    · rename_i hn
      rw [Nat.add_zero, Nat.mod_eq_of_lt (b hn)]
      omega
  · have : sumN (fun q => arrP g l.1 q ((fun _ => 0) q) p) g.length = 0 := by
      have : ∀ n, sumN (fun q => arrP g l.1 q ((fun _ => 0) q) p) n = 0 := by
        intro n
        induction n with
        | zero => rfl
        | succ n ih => rw [sumN, ih]; rfl
      exact this _
    rw [this]; simp
theorem getD_set {xs : List Int} {i j : Nat} {v : Int} (hi : i < xs.length) : (xs.set i v).getD j 0 = if j = i then v else xs.getD j 0 := by
  by_cases hj : j < xs.length
  · rw [getD_getI (by rw [List.length_set]; exact hj), List.getElem_set, getD_getI hj]
    by_cases e : i = j
    · rw [if_pos e, if_pos e.symm]
    · rw [if_neg e, if_neg fun h => e h.symm]
  · rw [if_neg (by omega), List.getD_eq_getElem?_getD, List.getElem?_eq_none (by rw [List.length_set]; omega), List.getD_eq_getElem?_getD, List.getElem?_eq_none (by omega)]
/-- What a move makes. -/
theorem mvP_at {g : List (List Int)} {m : Nat} {l : Lo} (L : LOK g m l) {p : Nat} (hp : p < g.length) (hn : (g.getD p []).length ≠ 0) : ∃ k : Nat, k = ((l.1.getD p 0).toNat + 1) % (g.getD p []).length ∧ 0 ≤ (g.getD p []).getD k 0 ∧ (g.getD p []).getD k 0 < (g.length : Int) ∧ (mvP g l p).1 = l.1.set p (k : Int) ∧ ∀ i, i < g.length → (mvP g l p).2.getD i 0 = l.2.getD i 0 - (if i = p then 1 else 0) + (if (g.getD p []).getD k 0 = (i : Int) then 1 else 0) := by
  have hl : l.1.length = g.length := L.w.len
  have hl2 := L.len
  have W : WOK g (l.1, (p : Int)) := L.w.to (by omega) (by omega)
  have hs : stepP g (l.1, (p : Int)) = some (l.1.set p ((((l.1.getD p 0).toNat + 1) % (g.getD p []).length : Nat) : Int), (g.getD p []).getD (((l.1.getD p 0).toNat + 1) % (g.getD p []).length) 0) := by
    unfold stepP
    simp only [Int.toNat_natCast]
    rw [if_neg hn]
  have W' := W.step hs
  have h0 := W'.lo
  have h1 := W'.hi
  simp only at h0 h1
  refine ⟨_, rfl, h0, h1, ?_, fun i hi => ?_⟩
  · unfold mvP; rw [hs]
  · have e : (mvP g l p).2 = (l.2.set p (l.2.getD p 0 - 1)).set ((g.getD p []).getD (((l.1.getD p 0).toNat + 1) % (g.getD p []).length) 0).toNat ((l.2.set p (l.2.getD p 0 - 1)).getD ((g.getD p []).getD (((l.1.getD p 0).toNat + 1) % (g.getD p []).length) 0).toNat 0 + 1) := by
      unfold mvP; rw [hs]
      simp only [Int.toNat_natCast]
    rw [e]
    generalize (g.getD p []).getD (((l.1.getD p 0).toNat + 1) % (g.getD p []).length) 0 = d at *
    rw [getD_set (by rw [List.length_set]; omega), getD_set (by omega), getD_set (by omega)]
    by_cases hd : i = d.toNat
    · rw [if_pos hd, if_pos (show d = (i : Int) by omega), ← hd]
      by_cases hip : i = p
      · rw [if_pos hip, if_pos hip, hip]
      · rw [if_neg hip, if_neg hip]; omega
    · rw [if_neg hd, if_neg (show ¬ d = (i : Int) by omega)]
      by_cases hip : i = p
      · rw [if_pos hip, if_pos hip, hip]; omega
      · rw [if_neg hip, if_neg hip]; omega
theorem IsSt.mv {g : List (List Int)} {m : Nat} {l l' : Lo} {c : Nat → Nat} (L0 : LOK g 0 l) (A : IsSt g l c l') (L : LOK g m l') {p : Nat} (hp : p < g.length) (hn : (g.getD p []).length ≠ 0) : IsSt g l (upC c p) (mvP g l' p) := by
  obtain ⟨k, ek, k0, k1, e1, e2⟩ := mvP_at L hp hn
  have hl := A.len1
  have hl2 := (mvP_len L (p := (p : Int)) (by omega) (by omega)).2
  have hr := A.rot p hp
  rw [if_neg hn] at hr
  have ek' : k = ((l.1.getD p 0).toNat + (c p + 1)) % (g.getD p []).length := by
    rw [ek, hr, Int.toNat_natCast, Nat.mod_add_mod, Nat.add_assoc]
  refine ⟨by rw [e1, List.length_set]; exact hl, hl2, fun q hq h => ?_, fun q hq => ?_, fun i hi => ?_⟩
  · have : q ≠ p := fun e => hn (e ▸ h)
    rw [upC_ne c this]; exact A.ex q hq h
  · rw [e1, getD_set (by omega)]
    by_cases e : q = p
    · subst e; rw [if_pos rfl, if_neg hn, upC_at, ek']
    · rw [if_neg e, upC_ne c e]; exact A.rot q hq
  · rw [e2 i hi, A.chip i hi]
    have hs := sumN_one (f := fun q => arrP g l.1 q (c q) i) (f' := fun q => arrP g l.1 q (upC c p q) i) (p := p) (d := if dstP g l.1 p (c p + 1) = (i : Int) then 1 else 0) (by simp only [upC_at, arrP]) (fun q hq => by simp only [upC_ne c hq]) g.length
    rw [hs, if_pos hp]
    have hd : dstP g l.1 p (c p + 1) = (g.getD p []).getD k 0 := by unfold dstP; rw [ek']
    rw [hd]
    have hc : (upC c p i : Int) = (c i : Int) + (if i = p then 1 else 0) := by
      by_cases e : i = p
      · subst e; rw [upC_at, if_pos rfl]; omega
      · rw [upC_ne c e, if_neg e]; omega
    rw [hc]
    split <;> split <;> omega
theorem arrP_mono {g : List (List Int)} {rs : List Int} {q p : Nat} {k : Nat} : ∀ d, arrP g rs q k p ≤ arrP g rs q (k + d) p
  | 0 => Nat.le_refl _
  | d + 1 => by
    have := arrP_mono (g := g) (rs := rs) (q := q) (p := p) (k := k) d
    rw [← Nat.add_assoc, arrP]; omega
/-- Moves with a chip each, but at the sink. -/
def Leg (g : List (List Int)) (sink : Int) : List Int → Lo → Lo → Prop
  | [], l, l' => l = l'
  | p :: w, l, l' => 0 ≤ p ∧ p < (g.length : Int) ∧ p ≠ sink ∧ 1 ≤ l.2.getD p.toNat 0 ∧ Leg g sink w (mvP g l p) l'
theorem Leg.append {g : List (List Int)} {sink : Int} : ∀ {w v : List Int} {l l' l'' : Lo}, Leg g sink w l l' → Leg g sink v l' l'' → Leg g sink (w ++ v) l l''
  | [], v, l, l', l'', h, h' => by rw [show l = l' from h]; exact h'
  | p :: w, v, l, l', l'', h, h' => ⟨h.1, h.2.1, h.2.2.1, h.2.2.2.1, h.2.2.2.2.append h'⟩
def upW (c : Nat → Nat) : List Int → Nat → Nat
  | [] => c
  | p :: w => upW (upC c p.toNat) w
/-- Each place but the sink has an exit. -/
def SnkOK (g : List (List Int)) (sink : Int) : Prop := ∀ p : Nat, p < g.length → (p : Int) ≠ sink → (g.getD p []).length ≠ 0
theorem IsSt.leg {g : List (List Int)} {sink : Int} (hg : SnkOK g sink) {l : Lo} (L0 : LOK g 0 l) : ∀ {w : List Int} {m : Nat} {c : Nat → Nat} {a b : Lo}, IsSt g l c a → LOK g m a → Leg g sink w a b → IsSt g l (upW c w) b ∧ LOK g (m + w.length) b
  | [], m, c, a, b, A, L, h => by rw [← show a = b from h]; exact ⟨A, L⟩
  | p :: w, m, c, a, b, A, L, h => by
    obtain ⟨h0, h1, h2, h3, h4⟩ := h
    have e : ((p.toNat : Nat) : Int) = p := by omega
    have A' := A.mv L0 L (p := p.toNat) (by omega) (hg _ (by omega) (by rw [e]; exact h2))
    rw [e] at A'
    obtain ⟨r1, r2⟩ := IsSt.leg hg L0 A' (L.mv h0 h1) h4
    refine ⟨r1, ?_⟩
    rw [List.length_cons, show m + (w.length + 1) = m + 1 + w.length by omega]
    exact r2
/-- No place but the sink has a chip. -/
def Ended (g : List (List Int)) (sink : Int) (l : Lo) : Prop := ∀ p : Nat, p < g.length → (p : Int) ≠ sink → l.2.getD p 0 ≤ 0
/-- Where moves are enough, none is made more often. -/
theorem least_step {g : List (List Int)} {sink : Int} {l a e : Lo} {c d : Nat → Nat} (A : IsSt g l c a) (E : IsSt g l d e) (hE : Ended g sink e) (hle : ∀ i, i < g.length → c i ≤ d i) {p : Nat} (hp : p < g.length) (hs : (p : Int) ≠ sink) (h1 : 1 ≤ a.2.getD p 0) : c p < d p := by
  refine Nat.lt_of_le_of_ne (hle p hp) fun he => ?_
  have e1 := A.chip p hp
  have e2 := E.chip p hp
  have e3 := hE p hp hs
  have e4 := sumN_le (f := fun q => arrP g l.1 q (c q) p) (f' := fun q => arrP g l.1 q (d q) p) (n := g.length) fun q hq => by
    have := arrP_mono (g := g) (rs := l.1) (q := q) (p := p) (k := c q) (d q - c q)
    have h := hle q hq
    rw [show c q + (d q - c q) = d q by omega] at this
    exact this
  omega
theorem least_leg {g : List (List Int)} {sink : Int} (hg : SnkOK g sink) {l e : Lo} {d : Nat → Nat} (L0 : LOK g 0 l) (E : IsSt g l d e) (hE : Ended g sink e) : ∀ {w : List Int} {m : Nat} {c : Nat → Nat} {a b : Lo}, IsSt g l c a → LOK g m a → (∀ i, i < g.length → c i ≤ d i) → Leg g sink w a b → ∀ i, i < g.length → upW c w i ≤ d i
  | [], m, c, a, b, A, L, hle, h => hle
  | p :: w, m, c, a, b, A, L, hle, h => by
    obtain ⟨h0, h1, h2, h3, h4⟩ := h
    have e : ((p.toNat : Nat) : Int) = p := by omega
    have hlt := least_step A E hE hle (p := p.toNat) (by omega) (by rw [e]; exact h2) h3
    have A' := A.mv L0 L (p := p.toNat) (by omega) (hg _ (by omega) (by rw [e]; exact h2))
    rw [e] at A'
    rw [upW]
    refine least_leg hg L0 E hE (c := upC c p.toNat) A' (L.mv h0 h1) (fun i hi => ?_) h4
    by_cases ei : i = p.toNat
    · subst ei; rw [upC_at]; omega
    · rw [upC_ne c ei]; exact hle i hi
theorem upW_mono : ∀ (w : List Int) (c : Nat → Nat) (i : Nat), c i ≤ upW c w i
  | [], c, i => Nat.le_refl _
  | p :: w, c, i => by
    have := upW_mono w (upC c p.toNat) i
    rw [upW]
    by_cases e : i = p.toNat
    · subst e; rw [upC_at] at this; omega
    · rw [upC_ne c e] at this; exact this
theorem upW_sum {n : Nat} : ∀ (w : List Int) (c : Nat → Nat), (∀ p, p ∈ w → 0 ≤ p ∧ p < (n : Int)) → sumN (upW c w) n = sumN c n + w.length
  | [], c, _ => rfl
  | p :: w, c, h => by
    have h1 := h p List.mem_cons_self
    rw [upW, upW_sum w _ fun q hq => h q (List.mem_cons_of_mem _ hq), sumN_one (f := c) (p := p.toNat) (d := 1) (upC_at _ _) (fun i hi => upC_ne c hi), if_pos (by omega), List.length_cons]
    omega
theorem Leg.rng {g : List (List Int)} {sink : Int} : ∀ {w : List Int} {l l' : Lo}, Leg g sink w l l' → ∀ p, p ∈ w → 0 ≤ p ∧ p < (g.length : Int)
  | q :: w, l, l', h, p, hp => by
    rcases List.mem_cons.1 hp with e | e
    · rw [e]; exact ⟨h.1, h.2.1⟩
    · exact h.2.2.2.2.rng p e
theorem upW_off {p : Nat} : ∀ {w : List Int} (c : Nat → Nat), (∀ q, q ∈ w → q.toNat ≠ p) → upW c w p = c p
  | [], c, _ => rfl
  | q :: w, c, h => by
    rw [upW, upW_off _ fun x hx => h x (List.mem_cons_of_mem _ hx), upC_ne c fun e => h q List.mem_cons_self e.symm]
theorem Leg.off {g : List (List Int)} {sink : Int} : ∀ {w : List Int} {l l' : Lo}, Leg g sink w l l' → ∀ p, p ∈ w → p ≠ sink
  | q :: w, l, l', h, p, hp => by
    rcases List.mem_cons.1 hp with e | e
    · rw [e]; exact h.2.2.1
    · exact h.2.2.2.2.off p e
/-- Two ends of one load: the same moves. -/
theorem ends_same {g : List (List Int)} {sink : Int} (hg : SnkOK g sink) {l a b : Lo} (L0 : LOK g 0 l) {v w : List Int} (h1 : Leg g sink v l a) (h2 : Leg g sink w l b) (e1 : Ended g sink a) (e2 : Ended g sink b) : a = b ∧ (∀ i, i < g.length → upW (fun _ => 0) v i = upW (fun _ => 0) w i) ∧ v.length = w.length := by
  have A := (IsSt.init L0).leg hg L0 L0 h1
  have B := (IsSt.init L0).leg hg L0 L0 h2
  have i1 := least_leg hg L0 B.1 e2 (IsSt.init L0) L0 (fun i _ => Nat.zero_le _) h1
  have i2 := least_leg hg L0 A.1 e1 (IsSt.init L0) L0 (fun i _ => Nat.zero_le _) h2
  have hs : ∀ i, i < g.length → upW (fun _ => 0) v i = upW (fun _ => 0) w i := fun i hi => Nat.le_antisymm (i1 i hi) (i2 i hi)
  refine ⟨A.1.same B.1 hs, hs, ?_⟩
  have s1 := upW_sum v (fun _ => 0) h1.rng
  have s2 := upW_sum w (fun _ => 0) h2.rng
  rw [sumN_congr hs] at s1
  omega
/-! The numbers of moves as lists. -/
def CntOK (n : Nat) (c : Nat → Nat) (xs : List Int) : Prop := xs.length = n ∧ ∀ i, i < n → xs.getD i 0 = (c i : Int)
theorem CntOK.bump {n : Nat} {c : Nat → Nat} {xs : List Int} (h : CntOK n c xs) {p : Nat} (hp : p < n) : CntOK n (upC c p) (Go.Proofs.Ytbhnecochpehdaa.bump xs p) := by
  refine ⟨by rw [bump_length]; exact h.1, fun i hi => ?_⟩
  unfold Go.Proofs.Ytbhnecochpehdaa.bump
  rw [getD_set (by rw [h.1]; exact hp)]
  by_cases e : i = p
  · subst e; rw [if_pos rfl, upC_at, h.2 i hi]; omega
  · rw [if_neg e, upC_ne c e, h.2 i hi]
theorem CntOK.same {n : Nat} {c d : Nat → Nat} {xs ys : List Int} (h : CntOK n c xs) (h' : CntOK n d ys) (hc : ∀ i, i < n → c i = d i) : xs = ys :=
  ext_getD (by rw [h.1, h'.1]) fun i hi => by
    rw [h.1] at hi
    rw [h.2 i hi, h'.2 i hi, hc i hi]
theorem CntOK.zero (n : Nat) : CntOK n (fun _ => 0) (List.replicate n 0) := ⟨by simp, fun i hi => by rw [getD_getI (by simpa using hi)]; simp⟩
theorem wait_mem {sink : Int} {cs : List Int} : ∀ {n p : Nat}, p < n → (p : Int) ≠ sink → 0 < cs.getD p 0 → (p : Int) ∈ wtP sink cs n
  | n + 1, p, h, h1, h2 => by
    rw [wtP, List.mem_append]
    by_cases e : p = n
    · subst e; exact .inr (by rw [if_pos ⟨h1, h2⟩]; simp)
    · exact .inl (wait_mem (by omega) h1 h2)
theorem ended_of {g : List (List Int)} {sink : Int} {l : Lo} (hl : l.2.length = g.length) (h : (waitP sink l.2).length = 0) : Ended g sink l := by
  intro p hp hs
  refine Int.not_lt.1 fun hlt => ?_
  have := wait_mem (sink := sink) (cs := l.2) (n := l.2.length) (by omega) hs hlt
  unfold waitP at h
  rw [List.length_eq_zero_iff.1 h] at this
  simp at this
theorem of_ended {g : List (List Int)} {sink : Int} {l : Lo} (hl : l.2.length = g.length) (h : Ended g sink l) : (waitP sink l.2).length = 0 := by
  refine Classical.byContradiction fun hn => ?_
  have hm := List.getElem_mem (show 0 < (waitP sink l.2).length by omega)
  have := wtP_mem sink l.2 _ _ hm
  have h2 := h (waitP sink l.2)[0].toNat (by omega) (by omega)
  omega
/-- The end that is made is one of legal moves. -/
theorem endL_leg {g : List (List Int)} {sink : Int} {ch : List Int} (hc : ∀ c, c ∈ ch → 0 ≤ c) : ∀ (f j : Nat) (l : Lo) (cnt : List Int) (m : Nat) (c : Nat → Nat), LOK g m l → CntOK g.length c cnt → (endL g sink ch f j l cnt).2.2 = true → ∃ w, w.length ≤ f ∧ Leg g sink w l (endL g sink ch f j l cnt).1 ∧ CntOK g.length (upW c w) (endL g sink ch f j l cnt).2.1 ∧ Ended g sink (endL g sink ch f j l cnt).1
  | 0, j, l, cnt, m, c, L, hcnt, h => by
    rw [endL] at h ⊢
    by_cases hw : (waitP sink l.2).length = 0
    · rw [if_pos hw]
      exact ⟨[], Nat.le_refl _, rfl, hcnt, ended_of L.len hw⟩
    · rw [if_neg hw] at h; simp at h
  | f + 1, j, l, cnt, m, c, L, hcnt, h => by
    rw [endL] at h ⊢
    by_cases hw : (waitP sink l.2).length = 0
    · rw [if_pos hw]
      exact ⟨[], Nat.zero_le _, rfl, hcnt, ended_of L.len hw⟩
    · rw [if_neg hw] at h ⊢
      obtain ⟨p0, p1, p2⟩ := pick_ok L hc hw j
      have p3 := (wtP_mem sink l.2 _ _ (pick_mem hc hw j)).2.2.2
      obtain ⟨w, w1, w2, w3, w4⟩ := endL_leg hc f (j + 1) _ _ (m + 1) _ (L.mv p0 p1) (hcnt.bump (by omega)) h
      exact ⟨_ :: w, by simp only [List.length_cons]; omega, ⟨p0, p1, p2, by omega, w2⟩, w3, w4⟩
/-- An end is come to if there is one over no more moves. -/
theorem endL_comes {g : List (List Int)} {sink : Int} {ch : List Int} (hg : SnkOK g sink) (hc : ∀ c, c ∈ ch → 0 ≤ c) {l0 e : Lo} {d : Nat → Nat} (L0 : LOK g 0 l0) (E : IsSt g l0 d e) (hE : Ended g sink e) : ∀ (f j : Nat) (l : Lo) (cnt : List Int) (m : Nat) (c : Nat → Nat), LOK g m l → IsSt g l0 c l → (∀ i, i < g.length → c i ≤ d i) → sumN d g.length ≤ sumN c g.length + f → (endL g sink ch f j l cnt).2.2 = true
  | 0, j, l, cnt, m, c, L, A, hle, hs => by
    have heq := sumN_eq hle (by omega)
    have : l = e := A.same E heq
    rw [endL, if_pos (of_ended L.len (this ▸ hE))]
  | f + 1, j, l, cnt, m, c, L, A, hle, hs => by
    rw [endL]
    by_cases hw : (waitP sink l.2).length = 0
    · rw [if_pos hw]
    · rw [if_neg hw]
      obtain ⟨p0, p1, p2⟩ := pick_ok L hc hw j
      have p3 := (wtP_mem sink l.2 _ _ (pick_mem hc hw j)).2.2.2
      have e : (((pickP ch (waitP sink l.2) j).toNat : Nat) : Int) = pickP ch (waitP sink l.2) j := by omega
      have hlt := least_step A E hE hle (p := (pickP ch (waitP sink l.2) j).toNat) (by omega) (by rw [e]; exact p2) (by omega)
      have A' := A.mv L0 L (p := (pickP ch (waitP sink l.2) j).toNat) (by omega) (hg _ (by omega) (by rw [e]; exact p2))
      rw [e] at A'
      refine endL_comes hg hc L0 E hE f (j + 1) _ _ (m + 1) _ (L.mv p0 p1) A' (fun i hi => ?_) ?_
      · by_cases ei : i = (pickP ch (waitP sink l.2) j).toNat
        · subst ei; rw [upC_at]; omega
        · rw [upC_ne c ei]; exact hle i hi
      · rw [sumN_one (f := c) (p := (pickP ch (waitP sink l.2) j).toNat) (d := 1) (upC_at _ _) (fun i hi => upC_ne c hi), if_pos (by omega)]
        omega
/-! The sum of chips stays. -/
theorem sum_set : ∀ (xs : List Int) (i : Nat) (v : Int), i < xs.length → (xs.set i v).sum = xs.sum - xs.getD i 0 + v
  | [], i, v, h => by simp at h
  | x :: xs, 0, v, h => by simp; omega
  | x :: xs, i + 1, v, h => by
    rw [List.set_cons_succ, List.sum_cons, List.sum_cons, sum_set xs i v (by simpa using h), List.getD_cons_succ]
    omega
theorem mvP_sum {g : List (List Int)} {m : Nat} {l : Lo} (L : LOK g m l) {p : Int} (h0 : 0 ≤ p) (h1 : p < (g.length : Int)) : (mvP g l p).2.sum = l.2.sum := by
  unfold mvP
  split
  · rfl
  · rename_i s hs
    have W := (L.w.to h0 h1).step hs
    have := W.lo
    have := W.hi
    have := L.len
    rw [sum_set _ _ _ (by rw [List.length_set]; omega), sum_set _ _ _ (by omega)]
    omega
theorem leg_sum {g : List (List Int)} {sink : Int} : ∀ {w : List Int} {m : Nat} {a b : Lo}, LOK g m a → Leg g sink w a b → b.2.sum = a.2.sum
  | [], m, a, b, L, h => by rw [show a = b from h]
  | p :: w, m, a, b, L, h => by rw [leg_sum (L.mv h.1 h.2.1) h.2.2.2.2, mvP_sum L h.1 h.2.1]
end Go.Proofs.Ytbhnecochpehdaa
