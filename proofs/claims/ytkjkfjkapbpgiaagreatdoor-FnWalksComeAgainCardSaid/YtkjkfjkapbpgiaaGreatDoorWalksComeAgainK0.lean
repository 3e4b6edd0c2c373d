import Derived.Test.YtkjkfjkapbpgiaaGreatDoorWalksComeAgainU2
import Derived.Test.YtkjkfjkapbpgiaaGreatDoorM4
import Derived.WideMake
import Derived.MapKept
import Derived.Test.YtkjkfjkapbpgiaaGreatDoorWalksComeAgainH
set_option linter.unusedVariables false
set_option linter.unusedSimpArgs false
namespace Go.Proofs.YtkjkfjkapbpgiaaGreatDoor
open Go Go.Mx
@[reducible] def tI : TypeId := 3
@[reducible] def tIs : TypeId := 33
@[reducible] def tIss : TypeId := 24
theorem rIs : rowC Tryz.prog tIs = some (tI, 1, 8, [VI 0]) := by kernel_rfl
theorem rIss : rowC Tryz.prog tIss = some (tIs, 1, 24, [nilSl.v]) := by kernel_rfl
@[reducible] def OwI (h : Heap) (F : Nat -> Prop) (s : Sl) (xs : List Int) : Prop := Ow h F tI 1 s (xs.map VI)
@[reducible] def OwX (h : Heap) (F : Nat -> Prop) (s : Sl) (xss : List (List Int)) : Prop := OwR h F tIs tI s xss
theorem plainVI (xs : List Int) : (xs.map VI).all plainV = true := by simp [List.all_eq_true, plainV]
theorem k_impl_in (n lo hi : Int) (h : Heap) (K : Value -> Heap -> Prop) (H : K (VB (decide (lo ≤ n) && decide (n ≤ hi))) h) : callM Tryz.prog 72 #[VI n, VI lo, VI hi] h K := by
  refine v72 n lo hi h K ⟨fun e => ?_, fun e => ?_⟩
  · rw [e, Bool.true_and] at H; exact H
  · rw [e, Bool.false_and] at H; exact H
theorem k_spec_l1In (n lo hi : Int) (h : Heap) (K : Value -> Heap -> Prop) (H : K (VB (decide (lo ≤ n) && decide (n ≤ hi))) h) : callM Tryz.prog 74 #[VI n, VI lo, VI hi] h K := by
  refine v74 n lo hi h K ⟨fun e => ?_, fun e => ?_⟩
  · rw [e, Bool.true_and] at H; exact H
  · rw [e, Bool.false_and] at H; exact H
def inR (lo hi x : Int) : Bool := decide (lo ≤ x) && decide (x ≤ hi)
def graphB (g : List (List Int)) : Bool := inR 1 8 g.length && g.all fun l => !decide (5 < (l.length : Int)) && l.all (inR 0 ((g.length : Int) - 1))
theorem not_t {b : Bool} (h : (!b) = true) : b = false := by simpa using h
theorem not_f {b : Bool} (h : (!b) = false) : b = true := by simpa using h
theorem k_spec_l1All {S : Nat -> Prop} {h : Heap} {l : Sl} {xs : List Int} (H : RdI S h l xs) (lo hi_1 : Int) (K : Value -> Heap -> Prop) (HK : K (VB (xs.all (inR lo hi_1))) h) : callM Tryz.prog 79 #[l.v, VI lo, VI hi_1] h K := by
  refine v79 l lo hi_1 h K ?_
  refine ⟨fun n i h' => h' = h /\ 0 ≤ i /\ i + n = (xs.length : Int) /\ xs.all (inR lo hi_1) = (xs.drop i.toNat).all (inR lo hi_1), ⟨xs.length, rfl, by omega, by omega, by simp⟩, ?_⟩
  rintro n i _ ⟨rfl, h0, h1, h2⟩ hL
  refine ⟨fun e => ?_, fun e => ?_⟩
  · have hi := H.lt e
    refine ⟨H.inb h0 hi, _, H.get h0 hi, ?_⟩
    rw [drop_cons xs h0 hi, List.all_cons] at h2
    refine k_spec_l1In _ _ _ _ _ ⟨_, rfl, hL, fun e2 => ?_, fun e2 => ?_⟩
    · have e3 : inR lo hi_1 (xs[i.toNat]'(by omega)) = false := not_t e2
      rw [h2, e3] at HK
      exact HK
    · have e3 : inR lo hi_1 (xs[i.toNat]'(by omega)) = true := not_f e2
      rw [e3, Bool.true_and] at h2
      rw [H.succ h0 hi]
      exact ⟨n - 1, by omega, rfl, by omega, by omega, h2⟩
  · have hi := H.ge e
    rw [List.drop_of_length_le (by omega)] at h2
    rw [h2] at HK
    exact HK
theorem k_spec_grGood {S : Nat -> Prop} {h : Heap} {g : Sl} {xss : List (List Int)} (H : RdR S h g xss) : Ret Tryz.prog 82 #[.agg #[g.v]] h (VB (graphB xss)) := by
  intro K HK
  refine v82 g h K ?_
  intro b1 h1 hb1 hf1 hL1
  have f1 := hf1.in_nil
  have hlen := H.len
  refine k_spec_l1In _ _ _ _ _ ⟨_, rfl, hL1, fun e => ?_, fun e => ?_⟩
  · have e3 : inR 1 8 xss.length = false := by have := not_t e; rw [hlen] at this; exact this
    have : graphB xss = false := by unfold graphB; rw [e3]; rfl
    rw [← this]; exact HK _ f1
  · have e3 : inR 1 8 xss.length = true := by have := not_f e; rw [hlen] at this; exact this
    have hw : w64 ((g.n : Int) - 1) = (xss.length : Int) - 1 := by rw [hlen]; exact w64_eq _ (by omega) (by have := maxLen_lt H.big; omega)
    have hg : graphB xss = xss.all fun l => !decide (5 < (l.length : Int)) && l.all (inR 0 ((xss.length : Int) - 1)) := by unfold graphB; rw [e3]; rfl
    rw [hw]
    refine ⟨fun n i h' => Fr No h1 h' /\ 0 ≤ i /\ i + n = (xss.length : Int) /\ graphB xss = (xss.drop i.toNat).all (fun l => !decide (5 < (l.length : Int)) && l.all (inR 0 ((xss.length : Int) - 1))), ⟨xss.length, Fr.refl _ _, by omega, by omega, by simp [hg]⟩, ?_⟩
    rintro n i h3 ⟨f3, h0, h2, h4⟩ hL
    have H3 := (H.no f1).no f3
    refine ⟨fun e => ?_, fun e => ?_⟩
    · have hi := H.lt e
      obtain ⟨si, hc, Hi⟩ := H3.get h0 hi
      refine ⟨H3.inb h0 hi, si, hc, fun e5 => ?_, fun e5 => ?_⟩
      · rw [drop_cons xss h0 hi, List.all_cons] at h4
        rw [Hi.len] at e5
        rw [e5] at h4
        have h5 : graphB xss = false := by rw [h4]; rfl
        rw [← h5]; exact HK _ (f1.trans f3)
      · rw [drop_cons xss h0 hi, List.all_cons] at h4
        rw [Hi.len] at e5
        rw [e5] at h4
        refine k_spec_l1All Hi _ _ _ ⟨_, rfl, hL, fun e6 => ?_, fun e6 => ?_⟩
        · rw [not_t e6] at h4
          have h5 : graphB xss = false := by rw [h4]; rfl
          rw [← h5]; exact HK _ (f1.trans f3)
        · rw [not_f e6] at h4
          rw [H.succ h0 hi]
          exact ⟨n - 1, by omega, f3, by omega, by omega, by rw [h4]; rfl⟩
    · have hi := H.ge e
      rw [List.drop_of_length_le (by omega)] at h4
      have h5 : graphB xss = true := by rw [h4]; rfl
      rw [← h5]; exact HK _ (f1.trans f3)
theorem k_IndexFunc {S : Nat -> Prop} {h : Heap} {s : Sl} {xs : List Int} (H : RdI S h s xs) (f : Value) (p : Int -> Bool) (hf : ∀ (x : Int) (K : Value -> Heap -> Prop), K (VB (p x)) h -> callV Tryz.prog f [VI x] h K) (K : Value -> Heap -> Prop) (HK : ∀ r : Int, decide (0 ≤ r) = xs.any p -> K (VI r) h) : callM Tryz.prog 124 #[s.v, f] h K := by
  refine v124 s f h K ⟨fun n i h' => h' = h /\ 0 ≤ i /\ i + n = (xs.length : Int) /\ xs.any p = (xs.drop i.toNat).any p, ⟨xs.length, rfl, by omega, by omega, by simp⟩, ?_⟩
  rintro n i _ ⟨rfl, i0, i1, i2⟩ hL
  refine ⟨fun e => ?_, fun e => ?_⟩
  · have hi := H.lt e
    rw [drop_cons xs i0 hi, List.any_cons] at i2
    refine ⟨H.inb i0 hi, _, H.get i0 hi, hf _ _ ⟨_, rfl, .nil, fun e => ?_, fun e => ?_⟩⟩
    · rw [e, Bool.true_or] at i2
      exact HK _ (by rw [i2]; simpa using i0)
    · rw [e, Bool.false_or] at i2
      rw [H.succ i0 hi]
      exact ⟨n - 1, by omega, rfl, by omega, by omega, i2⟩
  · have hi := H.ge e
    rw [List.drop_of_length_le (by omega)] at i2
    exact HK _ (by rw [i2]; rfl)
theorem k_ContainsFunc {S : Nat -> Prop} {h : Heap} {s : Sl} {xs : List Int} (H : RdI S h s xs) (f : Value) (p : Int -> Bool) (hf : ∀ (x : Int) (K : Value -> Heap -> Prop), K (VB (p x)) h -> callV Tryz.prog f [VI x] h K) (K : Value -> Heap -> Prop) (HK : K (VB (xs.any p)) h) : callM Tryz.prog 75 #[s.v, f] h K := by
  refine v75 s f h K (k_IndexFunc H f p hf _ fun r hr => ⟨r, rfl, .nil, ?_⟩)
  rw [hr]; exact HK
theorem k_isGraph1 {h : Heap} {b : Nat} {n : Int} (x : Int) {L : List (Nat × List Value)} (hL : Vars h ((b, [VI n]) :: L)) (K : Value -> Heap -> Prop) (HK : K (VB (!inR 0 (w64 (n - 1)) x)) h) : callV Tryz.prog (.func (.func 134) #[] #[VP b 0]) [VI x] h K := by
  refine v134 x b n h K (.cons hL.head (by simp) .nil) ?_
  refine k_impl_in _ _ _ _ _ ⟨_, rfl, .cons hL.head (by simp) .nil, ?_⟩
  exact HK
theorem k_has1 {h : Heap} {b : Nat} {g : Sl} (x : Int) {L : List (Nat × List Value)} (hL : Vars h ((b, [g.v]) :: L)) (K : Value -> Heap -> Prop) (HK : K (VB (!inR 0 (w64 (g.n - 1)) x)) h) : callV Tryz.prog (.func (.func 112) #[] #[VP b 0]) [VI x] h K := by
  refine v112 x b g h K (.cons hL.head (by simp) .nil) ?_
  refine k_impl_in _ _ _ _ _ ⟨_, rfl, .cons hL.head (by simp) .nil, ?_⟩
  exact HK
theorem graphB_eq {xss : List (List Int)} (e3 : inR 1 8 xss.length = true) : graphB xss = xss.all fun l => !decide (5 < (l.length : Int)) && l.all (inR 0 ((xss.length : Int) - 1)) := by unfold graphB; rw [e3]; rfl
theorem graphB_no {xss : List (List Int)} (e3 : inR 1 8 xss.length = false) : graphB xss = false := by unfold graphB; rw [e3]; rfl
theorem any_not {xs : List Int} {p : Int -> Bool} : xs.any (fun x => !p x) = !xs.all p := by
  induction xs with
  | nil => rfl
  | cons x xs ih => simp only [List.any_cons, List.all_cons, ih, Bool.not_and]
theorem len_w64 {S : Nat -> Prop} {h : Heap} {g : Sl} {xss : List (List Int)} (H : RdR S h g xss) : w64 ((g.n : Int) - 1) = (xss.length : Int) - 1 := by
  rw [H.len]
  have h1 := maxLen_lt H.big
  have h2 := H.len
  exact w64_eq _ (by omega) (by omega)
theorem k_isGraph {S : Nat -> Prop} {h : Heap} {g : Sl} {xss : List (List Int)} (H : RdR S h g xss) : Ret Tryz.prog 94 #[.agg #[g.v]] h (VB (graphB xss)) := by
  intro K HK
  refine v94 g h K fun b1 b2 h1 hb1 hb2 hf1 hL1 => ?_
  have f1 := hf1.in_nil
  have hlen := H.len
  refine k_impl_in _ _ _ _ _ ⟨_, rfl, hL1, fun e => ?_, fun e => ?_⟩
  · have e3 : inR 1 8 xss.length = false := by have := not_t e; rw [hlen] at this; exact this
    rw [← graphB_no e3]; exact HK _ f1
  · have e3 : inR 1 8 xss.length = true := by have := not_f e; rw [hlen] at this; exact this
    have hg := graphB_eq e3
    refine ⟨fun n i x h' => h' = h1 /\ x = (g.n : Int) /\ 0 ≤ i /\ i + n = (xss.length : Int) /\ graphB xss = (xss.drop i.toNat).all (fun l => !decide (5 < (l.length : Int)) && l.all (inR 0 ((xss.length : Int) - 1))), ⟨xss.length, rfl, rfl, by omega, by omega, by simp [hg]⟩, ?_⟩
    rintro n i x _ ⟨rfl, rfl, h0, h2, h4⟩ hL
    have H3 := H.no f1
    refine ⟨fun e => ?_, fun e => ?_⟩
    · have hi := H.lt e
      obtain ⟨si, hc, Hi⟩ := H3.get h0 hi
      rw [drop_cons xss h0 hi, List.all_cons] at h4
      refine ⟨H3.inb h0 hi, si, hc, fun e5 => ?_, fun e5 => ?_⟩
      · rw [Hi.len] at e5
        rw [e5] at h4
        have h5 : graphB xss = false := by rw [h4]; rfl
        rw [← h5]; exact HK _ f1
      · rw [Hi.len] at e5
        rw [e5] at h4
        refine k_ContainsFunc Hi _ _ (fun x K HK => k_isGraph1 x hL K HK) _ ?_
        refine ⟨_, _, rfl, hL, fun e6 => ?_, fun e6 => ?_⟩
        · rw [any_not, len_w64 H] at e6
          rw [not_t e6] at h4
          have h5 : graphB xss = false := by rw [h4]; rfl
          rw [← h5]; exact HK _ f1
        · rw [any_not, len_w64 H] at e6
          rw [not_f e6] at h4
          rw [H.succ h0 hi]
          exact ⟨n - 1, by omega, rfl, rfl, by omega, by omega, by rw [h4]; rfl⟩
    · have hi := H.ge e
      rw [List.drop_of_length_le (by omega)] at h4
      have h5 : graphB xss = true := by rw [h4]; rfl
      rw [← h5]; exact HK _ f1
theorem k_has {S S' : Nat -> Prop} {h : Heap} {g s : Sl} {xss : List (List Int)} {ps : List Int} (H : RdR S h g xss) (Hp : RdI S' h s ps) : Ret Tryz.prog 54 #[.agg #[g.v], s.v] h (VB (graphB xss && ps.all (inR 0 ((xss.length : Int) - 1)))) := by
  intro K HK
  refine v54 g s h K fun b1 h1 hb1 f1 hL1 => ?_
  have f1 := f1.in_nil
  refine k_isGraph (H.no f1) _ fun h2 f2 => ⟨_, rfl, hL1.of_no f2, fun e => ?_, fun e => ?_⟩
  · rw [e, Bool.true_and] at HK
    have hL2 := hL1.of_no f2
    refine k_ContainsFunc ((Hp.no f1).no f2) _ _ (fun x K HK => k_has1 x hL2 K HK) _ ?_
    refine ⟨_, _, rfl, hL2, ?_⟩
    rw [any_not, len_w64 H, Bool.not_not]
    exact HK _ (f1.trans f2)
  · rw [e, Bool.false_and] at HK
    exact HK _ (f1.trans f2)
theorem k_spec_grPlace {S : Nat -> Prop} {h : Heap} {g : Sl} {xss : List (List Int)} (H : RdR S h g xss) (p : Int) : Ret Tryz.prog 55 #[.agg #[g.v], VI p] h (VB (graphB xss && inR 0 ((xss.length : Int) - 1) p)) := by
  intro K HK
  refine v55 g p h K fun b1 h1 hb1 f1 hL1 => ?_
  have f1 := f1.in_nil
  refine k_spec_grGood (H.no f1) _ fun h2 f2 => ⟨_, rfl, hL1.of_no f2, fun e => ?_, fun e => ?_⟩
  · rw [e, Bool.true_and] at HK
    refine k_spec_l1In _ _ _ _ _ ⟨_, rfl, hL1.of_no f2, ?_⟩
    rw [len_w64 H]
    exact HK _ (f1.trans f2)
  · rw [e, Bool.false_and] at HK
    exact HK _ (f1.trans f2)
theorem k_spec_l1Most (a b : Int) (h : Heap) (K : Value -> Heap -> Prop) (HK : K (VI (max a b)) h) : callM Tryz.prog 123 #[VI a, VI b] h K := by
  refine v123 a b h K ⟨fun e => ?_, fun e => ?_⟩
  · simp only [decide_eq_true_eq] at e
    rw [Int.max_eq_left (by omega)] at HK
    exact HK
  · simp only [decide_eq_false_iff_not] at e
    rw [Int.max_eq_right (by omega)] at HK
    exact HK
def rotB (l : List Int) (r : Int) : Bool := inR 0 (max ((l.length : Int) - 1) 0) r
def walkB (g : List (List Int)) (rs : List Int) (p : Int) : Bool := graphB g && inR 0 ((g.length : Int) - 1) p && decide (rs.length = g.length) && (g.zip rs).all fun q => rotB q.1 q.2
theorem walkB_no1 {g : List (List Int)} {rs : List Int} {p : Int} (e : (graphB g && inR 0 ((g.length : Int) - 1) p) = false) : walkB g rs p = false := by unfold walkB; rw [e]; rfl
theorem walkB_no2 {g : List (List Int)} {rs : List Int} {p : Int} (e : ¬ rs.length = g.length) : walkB g rs p = false := by unfold walkB; rw [decide_eq_false e]; simp
theorem walkB_eq {g : List (List Int)} {rs : List Int} {p : Int} (e : (graphB g && inR 0 ((g.length : Int) - 1) p) = true) (e2 : rs.length = g.length) : walkB g rs p = (g.zip rs).all fun q => rotB q.1 q.2 := by unfold walkB; rw [e, decide_eq_true e2]; rfl
theorem zip_drop (g : List (List Int)) (rs : List Int) {i : Int} (h0 : 0 ≤ i) (h1 : i < (g.length : Int)) (h2 : i < (rs.length : Int)) : (g.zip rs).drop i.toNat = (g[i.toNat]'(by omega), rs[i.toNat]'(by omega)) :: (g.zip rs).drop (i + 1).toNat := by
  have := drop_cons (g.zip rs) h0 (by simp; omega)
  simpa using this
theorem len_w64I {S : Nat -> Prop} {h : Heap} {g : Sl} {xs : List Int} (H : RdI S h g xs) : w64 ((g.n : Int) - 1) = (xs.length : Int) - 1 := by
  rw [H.len]
  have h1 := maxLen_lt (RdV.big H)
  have h2 := H.len
  exact w64_eq _ (by omega) (by omega)
theorem k_isWalk {S S' : Nat -> Prop} {h : Heap} {g s : Sl} {xss : List (List Int)} {rs : List Int} (G : RdR S h g xss) (H : RdI S' h s rs) (p : Int) : Ret Tryz.prog 84 #[.agg #[g.v], .agg #[s.v, VI p]] h (VB (walkB xss rs p)) := by
  intro K HK
  refine v84 g s p h K fun b1 b2 h1 hb1 hb2 f1 hL1 => ?_
  have f1 := f1.in_nil
  refine eop_lit rIs (fun k => h1.size ≤ k) (fun _ h => h) 1 (by omega) [VI p] rfl rfl fun t h2 n2 c2 o2 f2 l2 _ => ⟨t, rfl, hL1.of_no f2, ?_⟩
  have o2 : RdI (fun k => h1.size ≤ k) h2 t [p] := o2.rdF
  refine k_has ((G.no f1).no f2) o2 _ fun h3 f3 => ⟨_, rfl, (hL1.of_no f2).of_no f3, fun e => ?_, fun e => ?_⟩
  all_goals simp only [List.all_cons, List.all_nil, Bool.and_true] at e
  · rw [← walkB_no1 (rs := rs) (not_t e)]; exact HK _ ((f1.no_trans f2).no_trans f3)
  · have f13 := (f1.no_trans f2).no_trans f3
    rw [G.len, H.len]
    refine ⟨fun e2 => ?_, fun e2 => ?_⟩
    · have e3 := not_t e2
      simp only [decide_eq_false_iff_not] at e3
      rw [← walkB_no2 (g := xss) (rs := rs) (p := p) (by omega)]; exact HK _ f13
    · have e3 := not_f e2
      simp only [decide_eq_true_eq] at e3
      have e4 := walkB_eq (not_f e) (rs := rs) (by omega)
      have G3 := G.no f13
      have H3 := H.no f13
      refine ⟨fun n i h' => h' = h3 /\ 0 ≤ i /\ i + n = (xss.length : Int) /\ walkB xss rs p = ((xss.zip rs).drop i.toNat).all fun q => rotB q.1 q.2, ⟨xss.length, rfl, by omega, by omega, by simpa using e4⟩, ?_⟩
      rintro n i _ ⟨rfl, i0, i1, i2⟩ hL
      refine ⟨fun e5 => ?_, fun e5 => ?_⟩
      · have hi : i < (rs.length : Int) := by simpa using e5
        have hi' : i < (xss.length : Int) := by omega
        obtain ⟨si, c1, c2⟩ := G3.get i0 hi'
        rw [zip_drop xss rs i0 hi' hi, List.all_cons] at i2
        refine ⟨H3.inb i0 hi, _, H3.get i0 hi, G3.inb i0 hi', si, c1, ?_⟩
        rw [len_w64I c2]
        refine pop_max _ _ _ _ ⟨_, rfl, k_impl_in _ _ _ _ _ ⟨_, rfl, hL, fun e6 => ?_, fun e6 => ?_⟩⟩
        · have e7 : rotB (xss[i.toNat]'(by omega)) (rs[i.toNat]'(by omega)) = false := not_t e6
          simp only at i2
          rw [e7] at i2
          have e8 : walkB xss rs p = false := by rw [i2]; rfl
          rw [← e8]; exact HK _ f13
        · have e7 : rotB (xss[i.toNat]'(by omega)) (rs[i.toNat]'(by omega)) = true := not_f e6
          simp only at i2
          rw [e7, Bool.true_and] at i2
          rw [H.succ i0 hi]
          exact ⟨n - 1, by omega, rfl, by omega, by omega, i2⟩
      · have hi : ¬ i < (rs.length : Int) := by simpa using e5
        rw [List.drop_of_length_le (by simp; omega)] at i2
        have e8 : walkB xss rs p = true := by rw [i2]; rfl
        rw [← e8]; exact HK _ f13
theorem k_spec_waGood {S S' : Nat -> Prop} {h : Heap} {g s : Sl} {xss : List (List Int)} {rs : List Int} (G : RdR S h g xss) (H : RdI S' h s rs) (p : Int) : Ret Tryz.prog 73 #[.agg #[g.v], .agg #[s.v, VI p]] h (VB (walkB xss rs p)) := by
  intro K HK
  refine v73 g s p h K fun b1 b2 h1 hb1 hb2 f1 hL1 => ?_
  have f1 := f1.in_nil
  refine k_spec_grPlace (G.no f1) p _ fun h3 f3 => ⟨_, rfl, hL1.of_no f3, fun e => ?_, fun e => ?_⟩
  · rw [← walkB_no1 (rs := rs) (not_t e)]; exact HK _ (f1.no_trans f3)
  · have f13 := f1.no_trans f3
    rw [G.len, H.len]
    refine ⟨fun e2 => ?_, fun e2 => ?_⟩
    · have e3 := not_t e2
      simp only [decide_eq_false_iff_not] at e3
      rw [← walkB_no2 (g := xss) (rs := rs) (p := p) (by omega)]; exact HK _ f13
    · have e3 := not_f e2
      simp only [decide_eq_true_eq] at e3
      have e4 := walkB_eq (not_f e) (rs := rs) (by omega)
      have G3 := G.no f13
      have H3 := H.no f13
      refine ⟨fun n i h' => h' = h3 /\ 0 ≤ i /\ i + n = (xss.length : Int) /\ walkB xss rs p = ((xss.zip rs).drop i.toNat).all fun q => rotB q.1 q.2, ⟨xss.length, rfl, by omega, by omega, by simpa using e4⟩, ?_⟩
      rintro n i _ ⟨rfl, i0, i1, i2⟩ hL
      refine ⟨fun e5 => ?_, fun e5 => ?_⟩
      · have hi' : i < (xss.length : Int) := by simpa using e5
        have hi : i < (rs.length : Int) := by omega
        obtain ⟨si, c1, c2⟩ := G3.get i0 hi'
        rw [zip_drop xss rs i0 hi' hi, List.all_cons] at i2
        refine ⟨G3.inb i0 hi', si, c1, H3.inb i0 hi, _, H3.get i0 hi, ?_⟩
        rw [len_w64I c2]
        refine k_spec_l1Most _ _ _ _ ⟨_, rfl, hL, H3.get i0 hi, ?_⟩
        rw [Int.max_comm]
        refine k_spec_l1In _ _ _ _ _ ⟨_, rfl, hL, fun e6 => ?_, fun e6 => ?_⟩
        · have e7 : rotB (xss[i.toNat]'(by omega)) (rs[i.toNat]'(by omega)) = false := not_t e6
          simp only at i2
          rw [e7] at i2
          have e8 : walkB xss rs p = false := by rw [i2]; rfl
          rw [← e8]; exact HK _ f13
        · have e7 : rotB (xss[i.toNat]'(by omega)) (rs[i.toNat]'(by omega)) = true := not_f e6
          simp only at i2
          rw [e7, Bool.true_and] at i2
          rw [G.succ i0 hi']
          exact ⟨n - 1, by omega, rfl, by omega, by omega, i2⟩
      · have hi : ¬ i < (xss.length : Int) := by simpa using e5
        rw [List.drop_of_length_le (by simp; omega)] at i2
        have e8 : walkB xss rs p = true := by rw [i2]; rfl
        rw [← e8]; exact HK _ f13
def totR (xss : List (List Int)) : Nat := (xss.map List.length).sum
theorem totR_take_le : ∀ (xss : List (List Int)) (i : Nat), totR (xss.take i) ≤ totR xss
  | [], i => by simp [totR]
  | x :: xs, 0 => by simp [totR]
  | x :: xs, i + 1 => by
    have := totR_take_le xs i
    simp only [totR, List.take_succ_cons, List.map_cons, List.sum_cons] at *
    omega
theorem totR_snoc (xss : List (List Int)) (i : Nat) (h : i < xss.length) : totR (xss.take (i + 1)) = totR (xss.take i) + xss[i].length := by
  rw [List.take_succ_eq_append_getElem h]
  simp only [totR, List.map_append, List.sum_append, List.map_cons, List.map_nil, List.sum_cons, List.sum_nil]
  omega
theorem nil_of_none {S : Nat -> Prop} {h : Heap} {s : Sl} {xs : List Int} (H : RdI S h s xs) (hn : s.a = none) : xs = [] := by
  cases xs with
  | nil => rfl
  | cons x xs =>
    obtain ⟨a, ha, _⟩ := RdV.cell H 0 (by simp)
    rw [hn] at ha
    cases ha
theorem k_Clone {S : Nat -> Prop} {h : Heap} {s : Sl} {xs : List Int} (H : RdI S h s xs) (hn : xs.length ≤ 1000000000) (K : Value -> Heap -> Prop) (HK : ∀ t h', OwI h' (Iv h.size h'.size) t xs -> Fr No h h' -> K t.v h') : callM Tryz.prog 117 #[s.v] h K := by
  refine v117 s h K (pop_isnil rIs _ _ ⟨_, rfl, fun e => ?_, fun e => ?_⟩)
  · have : xs = [] := nil_of_none H (by simpa using e)
    subst this
    exact HK nilSl h (Ow.nil _ _ _ _) (Fr.refl _ _)
  · refine eop_lit rIs (fun k => h.size ≤ k) (fun _ h => h) 0 (by omega) [] rfl rfl fun t h1 n1 c1 o1 f1 l1 _ => ⟨t, rfl, .nil, ?_⟩
    refine eop_append rIs o1 (fun k hk => Nat.le_trans f1.size hk) (H.no f1) (plainVI _) (by have := H.len; omega) fun t' h2 n2 o2 f2 l2 => ⟨t', rfl, .nil, ?_⟩
    exact HK t' h2 (Ow.toIv (by simpa using o2)) (f1.fresh f2 l1)
theorem k_l1Own {S : Nat -> Prop} {h : Heap} {s : Sl} {xs : List Int} (H : RdI S h s xs) (hn : xs.length ≤ 1000000000) (K : Value -> Heap -> Prop) (HK : ∀ t h', OwI h' (Iv h.size h'.size) t xs -> Fr No h h' -> K t.v h') : callM Tryz.prog 119 #[s.v] h K := by
  refine v119 s h K ?_
  refine eop_lit rIs (fun k => h.size ≤ k) (fun _ h => h) 0 (by omega) [] rfl rfl fun t h1 n1 c1 o1 f1 l1 _ => ⟨t, rfl, .nil, ?_⟩
  refine eop_append rIs o1 (fun k hk => Nat.le_trans f1.size hk) (H.no f1) (plainVI _) (by have := H.len; omega) fun t' h2 n2 o2 f2 l2 => ⟨t', rfl, .nil, ?_⟩
  exact HK t' h2 (Ow.toIv (by simpa using o2)) (f1.fresh f2 l1)
theorem tot_short {n : Nat} : ∀ {xss : List (List Int)} {m : Nat}, xss.length ≤ m -> (∀ l, l ∈ xss -> l.length ≤ n) -> totR xss ≤ m * n
  | [], m, _, _ => by simp [totR]
  | x :: xs, 0, h, _ => by simp at h
  | x :: xs, m + 1, h, h2 => by
    have h3 := tot_short (n := n) (xss := xs) (m := m) (by simpa using h) fun l hl => h2 l (List.mem_cons_of_mem _ hl)
    have h4 := h2 x (by simp)
    have h5 : totR (x :: xs) = x.length + totR xs := by simp [totR]
    rw [h5, Nat.add_mul]
    omega
theorem inR_iff {lo hi x : Int} : inR lo hi x = true ↔ lo ≤ x /\ x ≤ hi := by simp [inR]
theorem graph_len {g : List (List Int)} (h : graphB g = true) : 1 ≤ g.length /\ g.length ≤ 8 := by
  unfold graphB at h
  rw [Bool.and_eq_true, inR_iff] at h
  omega
theorem graph_mem {g : List (List Int)} (h : graphB g = true) {l : List Int} (hl : l ∈ g) : l.length ≤ 5 /\ ∀ x, x ∈ l -> 0 ≤ x /\ x < (g.length : Int) := by
  unfold graphB at h
  rw [Bool.and_eq_true] at h
  have := List.all_eq_true.1 h.2 l hl
  rw [Bool.and_eq_true] at this
  obtain ⟨h1, h2⟩ := this
  simp only [Bool.not_eq_true', decide_eq_false_iff_not] at h1
  refine ⟨by omega, fun x hx => ?_⟩
  have := List.all_eq_true.1 h2 x hx
  rw [inR_iff] at this
  omega
theorem graph_tot {g : List (List Int)} (h : graphB g = true) : totR g ≤ 40 := by
  have := tot_short (n := 5) (xss := g) (m := 8) (graph_len h).2 fun l hl => (graph_mem h hl).1
  omega
theorem getD_get {g : List (List Int)} {i : Nat} (h : i < g.length) : g.getD i [] = g[i] := by simp [List.getD, List.getElem?_eq_getElem h]
theorem k_Grow0 (h : Heap) (n : Nat) (hn : n ≤ 1000000000) (K : Value -> Heap -> Prop) (HK : ∀ t h', OwI h' (Iv h.size h'.size) t [] -> Fr No h h' -> K t.v h') : callM Tryz.prog 137 #[nilSl.v, VI n] h K := by
  refine v137 nilSl n h K ⟨fun h' => h' = h, ⟨fun e => ?_, fun _ => rfl⟩, ?_⟩
  · simp only [decide_eq_true_eq] at e
    omega
  rintro hh rfl hL
  have e0 : w64 ((nilSl.c : Int) - (nilSl.n : Int)) = 0 := by decide
  refine pop_cap rIs ⟨_, rfl, ?_⟩
  rw [e0, show w64 ((n : Int) - 0) = n from w64_eq _ (by omega) (by omega)]
  refine ⟨fun e => ?_, fun e => ?_⟩
  · simp only [decide_eq_true_eq] at e
    refine pop_cap rIs ⟨_, rfl, pop_cut_h rIs .i64 (by simp [nilSl]) (Int.le_refl _) ⟨_, rfl, ?_⟩⟩
    have e2 : nilSl.cut 1 0 ((nilSl.c : Int)).toNat nilSl.c = nilSl := rfl
    rw [e2]
    refine eop_zeros rIs (show Tryz.prog.underlying tI = some (.int .i64) by kernel_rfl) (fun k => hh.size ≤ k) (fun _ h => h) _ n (by omega) (by omega) fun t h2 n2 o2 f2 l2 => ⟨t, rfl, .nil, ?_⟩
    refine pop_cut_h rIs .i64 (by simp [nilSl]) (by have := o2.cap; simp [nilSl]) ⟨_, rfl, ?_⟩
    have o3 := o2.cut (l := 0) (m := 0) (Nat.le_refl _) (Nat.zero_le _)
    have e3 : ((0 : Nat) - 0) * 1 = 0 := rfl
    rw [e3, List.take_zero] at o3
    exact HK _ h2 (Ow.toIv o3) f2
  · exact HK nilSl _ (Ow.nil _ _ _ _) (Fr.refl _ _)
theorem totR_flat (xss : List (List Int)) : xss.flatten.length = totR xss := by simp [totR, List.length_flatten]
theorem k_Concat {S : Nat -> Prop} {h : Heap} {s : Sl} {xss : List (List Int)} (H : RdR S h s xss) (hn : xss.length + totR xss ≤ 1000000000) (K : Value -> Heap -> Prop) (HK : ∀ t h', OwI h' (Iv h.size h'.size) t xss.flatten -> Fr No h h' -> K t.v h') : callM Tryz.prog 97 #[s.v] h K := by
  refine v97 s h K ⟨fun n z i h' => h' = h /\ 0 ≤ i /\ i + n = (xss.length : Int) /\ z = totR (xss.take i.toNat), ⟨xss.length, rfl, by omega, by omega, by simp [totR]⟩, ?_⟩
  rintro n z i hh ⟨rfl, i0, i1, rfl⟩ hL
  refine ⟨fun e => ?_, fun e => ?_⟩
  · have hi := H.lt e
    obtain ⟨si, c1, c2⟩ := H.get i0 hi
    have hsn := totR_snoc xss i.toNat (by omega)
    have hle := totR_take_le xss (i.toNat + 1)
    have hw : w64 ((totR (xss.take i.toNat) : Int) + si.n) = totR (xss.take (i.toNat + 1)) := by rw [c2.len, hsn]; exact w64_eq _ (by omega) (by omega)
    refine ⟨H.inb i0 hi, si, c1, ?_⟩
    rw [hw]
    refine ⟨fun e => ?_, fun e => ?_⟩
    · simp only [decide_eq_true_eq] at e
      omega
    · rw [H.succ i0 hi]
      exact ⟨n - 1, by omega, rfl, by omega, by omega, by rw [toNat_succ i0]⟩
  · have hi := H.ge e
    rw [List.take_of_length_le (by omega)]
    refine k_Grow0 _ (totR xss) (by omega) _ fun t h2 o2 f2 => ⟨t, rfl, .nil, ?_⟩
    refine ⟨fun n x i h' => 0 ≤ i /\ i + n = (xss.length : Int) /\ OwI h' (fun k => hh.size ≤ k) x (xss.take i.toNat).flatten /\ Fr No hh h', ⟨xss.length, by omega, by omega, Ow.mono o2 fun k _ hk => hk.1, f2⟩, ?_⟩
    rintro n x i h3 ⟨i0, i1, o3, f3⟩ hL
    have H3 := H.no f3
    refine ⟨fun e => ?_, fun e => ?_⟩
    · have hi := H.lt e
      obtain ⟨si, c1, c2⟩ := H3.get i0 hi
      have hsn := totR_snoc xss i.toNat (by omega)
      have hle := totR_take_le xss (i.toNat + 1)
      have hfl := totR_flat (xss.take i.toNat)
      refine ⟨H3.inb i0 hi, si, c1, eop_append rIs o3 (fun k hk => Nat.le_trans f3.size hk) c2 (plainVI _) (by have h1 := c2.len; have h2 := RdI.len o3.rdF; omega) fun y h4 n4 o4 f4 d4 => ⟨y, rfl, .nil, ?_⟩⟩
      rw [H.succ i0 hi]
      refine ⟨n - 1, by omega, by omega, by omega, ?_, f3.fresh f4 fun k hk => (o3.foot hk).1⟩
      rw [take_snoc xss i0 hi, List.flatten_append, List.flatten_cons, List.flatten_nil, List.append_nil]
      rw [← List.map_append] at o4
      exact o4
    · have hi := H.ge e
      rw [List.take_of_length_le (by omega)] at o3
      exact HK x h3 o3.toIv f3
theorem tmod_nat {k n : Int} (h0 : 0 ≤ k) (hn : 0 ≤ n) : Int.tmod k n = ((k.toNat % n.toNat : Nat) : Int) := by
  obtain ⟨a, rfl⟩ := Int.eq_ofNat_of_zero_le h0
  obtain ⟨b, rfl⟩ := Int.eq_ofNat_of_zero_le hn
  rfl
@[reducible] def tB : TypeId := 4
@[reducible] def tBs : TypeId := 127
theorem rBs : rowC Tryz.prog tBs = some (tB, 1, 1, [VB false]) := by kernel_rfl
theorem bget {S : Nat -> Prop} {h : Heap} {s : Sl} {bs : List Bool} (H : RdV S h 1 s (bs.map VB)) {i : Int} (h0 : 0 ≤ i) (h1 : i < (bs.length : Int)) : hcell h (s.at i 1) = some (VB (bs[i.toNat]'(by omega))) := by
  have := RdV.get H h0 (by simpa using h1)
  simpa using this
theorem blen {S : Nat -> Prop} {h : Heap} {s : Sl} {bs : List Bool} (H : RdV S h 1 s (bs.map VB)) : s.n = bs.length := by have := RdV.len H; simp at this; exact this.symm
abbrev St := List Int × Int
def stepP (g : List (List Int)) (w : St) : Option St :=
  if (g.getD w.2.toNat []).length = 0 then none
  else some (w.1.set w.2.toNat ((((w.1.getD w.2.toNat 0).toNat + 1) % (g.getD w.2.toNat []).length : Nat) : Int), (g.getD w.2.toNat []).getD (((w.1.getD w.2.toNat 0).toNat + 1) % (g.getD w.2.toNat []).length) 0)
structure WOK (g : List (List Int)) (w : St) : Prop where
  graph : graphB g = true
  len : w.1.length = g.length
  lo : 0 ≤ w.2
  hi : w.2 < (g.length : Int)
  rot : ∀ i (h : i < w.1.length) (h' : i < g.length), 0 ≤ w.1[i] /\ w.1[i] ≤ max ((g[i].length : Int) - 1) 0
theorem wok_of {g : List (List Int)} {rs : List Int} {p : Int} (h : walkB g rs p = true) : WOK g (rs, p) := by
  unfold walkB at h
  simp only [Bool.and_eq_true, decide_eq_true_eq] at h
  obtain ⟨⟨⟨h1, h2⟩, h3⟩, h4⟩ := h
  rw [inR_iff] at h2
  refine ⟨h1, h3, h2.1, by simp only; omega, fun i a b => ?_⟩
  have := List.all_eq_true.1 h4 (g[i], rs[i]) (by
    rw [show (g[i], rs[i]) = (g.zip rs)[i]'(by simp only [List.length_zip]; simp only at a; omega) by simp]
    exact List.getElem_mem _)
  unfold rotB at this
  rw [inR_iff] at this
  exact this
theorem stepP_none {g : List (List Int)} {w : St} (W : WOK g w) (hp : w.2.toNat < g.length) : (g[w.2.toNat]).length = 0 -> stepP g w = none := fun h => by
  unfold stepP
  rw [getD_get hp, if_pos h]
theorem getD_getI {xs : List Int} {i : Nat} (h : i < xs.length) : xs.getD i 0 = xs[i] := by simp [List.getD, List.getElem?_eq_getElem h]
theorem stepP_some {g : List (List Int)} {w : St} (W : WOK g w) (hp : w.2.toNat < g.length) (hr : w.2.toNat < w.1.length) (h : (g[w.2.toNat]).length ≠ 0) :
    stepP g w = some (w.1.set w.2.toNat ((((w.1[w.2.toNat]).toNat + 1) % (g[w.2.toNat]).length : Nat) : Int), (g[w.2.toNat])[((w.1[w.2.toNat]).toNat + 1) % (g[w.2.toNat]).length]'(Nat.mod_lt _ (by omega))) := by
  unfold stepP
  rw [getD_get hp, if_neg h, getD_getI hr, getD_getI (Nat.mod_lt _ (by omega))]
theorem WOK.step {g : List (List Int)} {w w' : St} (W : WOK g w) (h : stepP g w = some w') : WOK g w' := by
  have hp : w.2.toNat < g.length := by have := W.hi; have := W.lo; omega
  have hr : w.2.toNat < w.1.length := by rw [W.len]; exact hp
  by_cases h0 : (g[w.2.toNat]).length = 0
  · rw [stepP_none W hp h0] at h; cases h
  · rw [stepP_some W hp hr h0] at h
    have hm := Nat.mod_lt ((w.1[w.2.toNat]).toNat + 1) (show 0 < (g[w.2.toNat]).length by omega)
    simp only [Option.some.injEq] at h
    subst h
    have hmem := (graph_mem W.graph (List.getElem_mem hp)).2 _ (List.getElem_mem hm)
    refine ⟨W.graph, by simpa using W.len, hmem.1, hmem.2, fun i a b => ?_⟩
    simp only [List.length_set] at a
    simp only [List.getElem_set]
    split
    · rename_i e
      subst e
      omega
    · exact W.rot i a b
theorem k_copiedW {S : Nat -> Prop} {h : Heap} {s : Sl} {xs : List Int} (H : RdI S h s xs) (p : Int) (hn : xs.length ≤ 1000000000) (K : Value -> Heap -> Prop) (HK : ∀ t h', OwI h' (Iv h.size h'.size) t xs -> Fr No h h' -> K (.agg #[t.v, VI p]) h') : callM Tryz.prog 91 #[.agg #[s.v, VI p]] h K := by
  refine v91 s p h K fun b1 b2 h2 hb1 hb2 f2 hL2 => ?_
  have f2 := f2.in_nil
  have l2 : b2 < h2.size := hL2.head.lt
  have s2 := f2.size
  refine k_Clone (H.no f2) hn _ fun t h3 o3 f3 => ⟨t, rfl, hL2.of_no f3, fun h4 f4 hL4 => ?_⟩
  have f4 := f4.inIv (lo := h.size) (hi := h2.size) ⟨⟨hb2, l2⟩, trivial⟩
  exact HK t h4 ((Ow.iv o3 f4 (.inr (Nat.le_refl _))).mono fun k hk hF => ⟨Nat.le_trans s2 hF.1, Nat.lt_of_lt_of_le hF.2 f4.size⟩) ((f2.no_trans f3).ivFresh f4 (Nat.le_refl _))
theorem k_stepF {F S : Nat -> Prop} {b : Nat} {h : Heap} {g w : Sl} {xss : List (List Int)} {s : St} (G : RdR S h g xss) (V : IsVar h b [w.v, VI s.2]) (H : OwI h F w s.1) (hS : ∀ k, S k -> ¬ F k) (hFb : F b) (hbw : ¬ w.own b) (W : WOK xss s) (K : Value -> Heap -> Prop)
    (HN : stepP xss s = none -> ∀ h', Fr No h h' -> K (VB false) h') (HS : ∀ s', stepP xss s = some s' -> ∀ h', OwI h' F w s'.1 -> IsVar h' b [w.v, VI s'.2] -> Fr F h h' -> K (VB true) h') :
    callM Tryz.prog 100 #[.agg #[g.v], VP b 0] h K := by
  have hp : s.2.toNat < xss.length := by have := W.hi; have := W.lo; omega
  have hr : s.2.toNat < s.1.length := by rw [W.len]; exact hp
  have hlo := W.lo
  refine v100 g b w s.2 h K (.cons V (by simp) .nil) ⟨G.inb W.lo W.hi, fun b2 h1 hb2 f1 hL1 => ?_⟩
  have f1 := f1.in_nil
  obtain ⟨si, c1, c2⟩ := (G.no f1).get W.lo W.hi
  have H1 := Ow.no H f1
  have hn1 : w.n = s.1.length := RdI.len H.rdF
  refine ⟨si, c1, fun e => ?_, fun e => ?_⟩
  · simp only [decide_eq_true_eq] at e
    exact HN (stepP_none W hp (by have := c2.len; omega)) h1 f1
  · simp only [decide_eq_false_iff_not] at e
    have h0 : (xss[s.2.toNat]'hp).length ≠ 0 := by have := c2.len; omega
    have hst := stepP_some W hp hr h0
    have hm := Nat.mod_lt ((s.1[s.2.toNat]'hr).toNat + 1) (show 0 < (xss[s.2.toNat]'hp).length by omega)
    have hrot := W.rot _ hr hp
    have hbig := (graph_mem W.graph (List.getElem_mem hp)).1
    have hw : w64 (s.1[s.2.toNat]'hr + 1) = s.1[s.2.toNat]'hr + 1 := w64_eq _ (by omega) (by omega)
    have hm2 : Int.tmod (s.1[s.2.toNat]'hr + 1) (si.n : Int) = ((((s.1[s.2.toNat]'hr).toNat + 1) % (xss[s.2.toNat]'hp).length : Nat) : Int) := by
      rw [tmod_nat (by omega) (by omega), c2.len]
      congr 2
      omega
    have R1 : RdI F h1 w s.1 := H1.rdF
    refine ⟨R1.inb hlo (by omega), _, R1.get hlo (by omega), by omega, R1.inb hlo (by omega), ?_⟩
    rw [hw, hm2]
    obtain ⟨w1, w2, w3⟩ := H1.store1 hlo (by omega) (VI ((((s.1[s.2.toNat]'hr).toNat + 1) % (xss[s.2.toNat]'hp).length : Nat) : Int))
    have w3' : Fr F h1 _ := w3.mono fun k _ hk => (H1.foot hk).1
    have hbl := V.lt
    have hL2 := hL1.fr w3 fun p hp => by
      simp only [List.mem_cons, List.not_mem_nil, or_false] at hp
      rcases hp with rfl | rfl
      · exact fun hk => by have := (H.foot hk).2; simp only at this; omega
      · exact hbw
    refine ⟨w1, hL2, fun h2 e2 _ => ?_⟩
    subst e2
    rw [← List.map_set] at w2
    have R2 : RdI F _ w _ := w2.rdF
    have c2' := RdI.fr c2 w3' hS
    have hv : hcell (hset h1 (w.at s.2 1) (VI ((((s.1[s.2.toNat]'hr).toNat + 1) % (xss[s.2.toNat]'hp).length : Nat) : Int))) (w.at s.2 1) = some (VI ((((s.1[s.2.toNat]'hr).toNat + 1) % (xss[s.2.toNat]'hp).length : Nat) : Int)) := by
      have := R2.get (i := s.2) hlo (by simp; omega)
      simpa using this
    have hq := c2'.get (i := ((((s.1[s.2.toNat]'hr).toNat + 1) % (xss[s.2.toNat]'hp).length : Nat) : Int)) (by omega) (by omega)
    simp only [Int.toNat_natCast] at hq
    refine ⟨R2.inb hlo (by simp; omega), _, hv, c2'.inb (by omega) (by omega), _, hq, fun h3 f3 hL3 => ?_⟩
    have f3' : Fr F _ h3 := f3.mono fun k _ hk => by simp only [In, List.mem_cons, List.not_mem_nil, or_false] at hk; subst hk; exact hFb
    refine HS _ hst h3 ?_ ?_ ((f1.of_no.trans w3').trans f3')
    · exact Ow.fr w2 f3 fun k hk hk2 => by
        simp only [In, List.mem_cons, List.not_mem_nil, or_false] at hk2
        subst hk2
        exact hbw hk
    · exact hL3.tail.head
theorem k_step {a c b : Nat} {h : Heap} {g w : Sl} {xss : List (List Int)} {s : St} (G : RdR (Iv 0 a) h g xss) (V : IsVar h b [w.v, VI s.2]) (H : OwI h (Iv a c) w s.1) (hb0 : a ≤ b) (hb1 : b < c) (hbw : ¬ w.own b) (W : WOK xss s) (K : Value -> Heap -> Prop)
    (HN : stepP xss s = none -> ∀ h', Fr No h h' -> K (VB false) h') (HS : ∀ s', stepP xss s = some s' -> ∀ h', OwI h' (Iv a c) w s'.1 -> IsVar h' b [w.v, VI s'.2] -> Fr (Iv a c) h h' -> K (VB true) h') :
    callM Tryz.prog 100 #[.agg #[g.v], VP b 0] h K :=
  k_stepF G V H (fun k hk hk2 => by have := hk.2; have := hk2.1; omega) ⟨hb0, hb1⟩ hbw W K HN HS
theorem k_waStep {S S' : Nat -> Prop} {h : Heap} {g w : Sl} {xss : List (List Int)} {s : St} (G : RdR S h g xss) (H : RdI S' h w s.1) (W : WOK xss s) (K : Value -> Heap -> Prop)
    (HN : stepP xss s = none -> ∀ h', Fr No h h' -> K (.tuple #[.agg #[w.v, VI s.2], VB false]) h') (HS : ∀ s', stepP xss s = some s' -> ∀ t h', OwI h' (Iv h.size h'.size) t s'.1 -> Fr No h h' -> K (.tuple #[.agg #[t.v, VI s'.2], VB true]) h') :
    callM Tryz.prog 105 #[.agg #[g.v], .agg #[w.v, VI s.2]] h K := by
  have hp : s.2.toNat < xss.length := by have := W.hi; have := W.lo; omega
  have hr : s.2.toNat < s.1.length := by rw [W.len]; exact hp
  have hlo := W.lo
  refine v105 g w s.2 h K ⟨G.inb W.lo W.hi, fun b1 b2 b3 h3 hb1 hb2 hb3 f3 hL3 => ?_⟩
  have f3 := f3.in_nil
  have l3 : b3 < h3.size := hL3.head.lt
  have l2 : b2 < h3.size := hL3.tail.head.lt
  have l1 : b1 < h3.size := hL3.tail.tail.head.lt
  have s3 := f3.size
  have G3 := G.low.no f3
  obtain ⟨si, c1, c2⟩ := G3.get W.lo W.hi
  refine ⟨si, c1, fun e h4 f4 hL4 => ?_, fun e => ?_⟩
  · simp only [decide_eq_true_eq] at e
    have f4 := f4.inIv (lo := h.size) (hi := h3.size) ⟨⟨hb3, l3⟩, trivial⟩
    exact HN (stepP_none W hp (by have := c2.len; omega)) h4 (f3.ivFresh f4 (Nat.le_refl _))
  · simp only [decide_eq_false_iff_not] at e
    have h0 : (xss[s.2.toNat]'hp).length ≠ 0 := by have := c2.len; omega
    have hst := stepP_some W hp hr h0
    have hm := Nat.mod_lt ((s.1[s.2.toNat]'hr).toNat + 1) (show 0 < (xss[s.2.toNat]'hp).length by omega)
    have hrot := W.rot _ hr hp
    have hbig := (graph_mem W.graph (List.getElem_mem hp)).1
    have hglen := graph_len W.graph
    have hw : w64 (s.1[s.2.toNat]'hr + 1) = s.1[s.2.toNat]'hr + 1 := w64_eq _ (by omega) (by omega)
    have hm2 : Int.tmod (s.1[s.2.toNat]'hr + 1) (si.n : Int) = ((((s.1[s.2.toNat]'hr).toNat + 1) % (xss[s.2.toNat]'hp).length : Nat) : Int) := by
      rw [tmod_nat (by omega) (by omega), c2.len]
      congr 2
      omega
    refine k_l1Own (H.no f3) (by have := W.len; omega) _ fun t h5 o5 f5 => ⟨t, rfl, hL3.of_no f5, (H.inb hlo (by omega)), fun b4 h7 hb4 f7 hL7 => ?_⟩
    have f7 := f7.in_nil
    have s5 := f5.size
    have s7 := f7.size
    have l4 : b4 < h7.size := hL7.head.lt
    have f07 := (f3.no_trans f5).no_trans f7
    have H7 := H.no f07
    have o7 := Ow.no o5 f7
    have hn7 : t.n = s.1.length := RdI.len o7.rdF
    refine ⟨_, H7.get hlo (by omega), by omega, o7.inb hlo (by omega), ?_⟩
    rw [hw, hm2]
    obtain ⟨w1, w2, w3⟩ := o7.store1 hlo (by omega) (VI ((((s.1[s.2.toNat]'hr).toNat + 1) % (xss[s.2.toNat]'hp).length : Nat) : Int))
    have w3' : Fr (Iv h3.size h5.size) h7 _ := w3.mono fun k _ hk => (o7.foot hk).1
    have hL8 := hL7.iv w3' ⟨.inr hb4, .inl l3, .inl l2, .inl l1, trivial⟩
    refine ⟨w1, hL8, fun h8 e8 _ => ?_⟩
    subst e8
    rw [← List.map_set] at w2
    have c2' := ((c2.no f5).no f7).fr w3' fun k hk hk2 => by have := hk2.1; omega
    have hq := c2'.get (i := ((((s.1[s.2.toNat]'hr).toNat + 1) % (xss[s.2.toNat]'hp).length : Nat) : Int)) (by omega) (by omega)
    simp only [Int.toNat_natCast] at hq
    refine ⟨c2'.inb (by omega) (by omega), _, hq, fun h10 f10 hL10 => ?_⟩
    have s8 := w3'.size
    have e1 : Fr No h h10 := by
      refine (f07.ivFresh w3' (by omega)).fresh f10 fun k hk => ?_
      simp only [In, List.mem_cons, List.not_mem_nil, or_false] at hk
      rcases hk with rfl | rfl <;> omega
    refine HS _ hst t h10 ?_ e1
    have s10 := f10.size
    refine (Ow.fr w2 f10 fun k hk hk2 => ?_).mono fun k _ hk => ⟨by have := hk.1; omega, by have := hk.2; omega⟩
    have := (o7.foot hk).1
    have h1 := this.1
    have h2 := this.2
    simp only [In, List.mem_cons, List.not_mem_nil, or_false] at hk2
    rcases hk2 with rfl | rfl <;> omega
def firstGo {τ : Type} (g : List (List Int)) (test : τ -> St -> Bool × τ) (frm : Int) : Nat -> Int -> τ -> St -> Int × Bool
  | 0, _, _, _ => (0, false)
  | f + 1, n, t, s =>
    if frm ≤ n then
      if (test t s).1 then (n, true)
      else match stepP g s with
        | none => (0, false)
        | some s' => firstGo g test frm f (n + 1) (test t s).2 s'
    else match stepP g s with
      | none => (0, false)
      | some s' => firstGo g test frm f (n + 1) t s'
theorem k_firstTime {τ : Type} (test : τ -> St -> Bool × τ) (C : τ -> Heap -> Prop) {S S' T : Nat -> Prop} {h : Heap} {g w : Sl} {xss : List (List Int)} {s : St} (G : RdR S h g xss) (H : RdI S' h w s.1) (W : WOK xss s) (frm : Int) (so : Value) (t0 : τ) (hC0 : C t0 h)
    (hT : ∀ k, T k -> k < h.size) (hST : ∀ k, S k -> ¬ T k) (hC : ∀ t h1 h2, C t h1 -> Fr (fun k => h.size ≤ k) h1 h2 -> C t h2)
    (hso : ∀ t x (s' : St) h1 (K : Value -> Heap -> Prop), h.size ≤ h1.size -> C t h1 -> RdI (fun k => h.size ≤ k) h1 x s'.1 -> WOK xss s' -> (∀ h2, C (test t s').2 h2 -> Fr T h1 h2 -> K (VB (test t s').1) h2) -> callV Tryz.prog so [.agg #[x.v, VI s'.2]] h1 K)
    (K : Value -> Heap -> Prop) (HK : ∀ h', Fr T h h' -> K (.tuple #[VI (firstGo xss test frm 2001 0 t0 s).1, VB (firstGo xss test frm 2001 0 t0 s).2]) h') :
    callM Tryz.prog 87 #[.agg #[g.v], .agg #[w.v, VI s.2], VI frm, so] h K := by
  refine v87 g w s.2 frm so h K fun b1 b2 h2 hb1 hb2 f2 hL2 => ?_
  generalize hR : firstGo xss test frm 2001 0 t0 s = R at HK
  have f2 := f2.in_nil
  have l2 : b2 < h2.size := hL2.head.lt
  have l1 : b1 < h2.size := hL2.tail.head.lt
  have z2 := f2.size
  have hglen := graph_len W.graph
  refine k_copiedW (H.no f2) s.2 (by have := W.len; omega) _ fun u h3 o3 f3 => ⟨u, s.2, rfl, hL2.of_no f3, fun b3 h5 hb3 f5 hL5 => ?_⟩
  have f5 := f5.in_nil
  have l3 : b3 < h5.size := hL5.head.lt
  have s3 := f3.size
  have s5 := f5.size
  have f05 := (f2.no_trans f3).no_trans f5
  have hub : ¬ u.own b3 := fun hk => by have := (o3.foot hk).2; omega
  have o5 := Ow.no o3 f5
  have hfr : ∀ {h1 h2' : Heap}, Fr No h1 h2' -> Fr (fun k => h.size ≤ k) h1 h2' := fun f => f.of_no
  refine ⟨fun n i x p h' => ∃ (t : τ) (s' : St), x = u /\ p = s'.2 /\ 0 ≤ i /\ i + n = 2001 /\ C t h' /\ OwI h' (Iv h2.size h5.size) u s'.1 /\ WOK xss s' /\ Fr T h h' /\ h5.size ≤ h'.size /\ R = firstGo xss test frm n i t s', ⟨2001, t0, s, rfl, rfl, by omega, by omega, hC _ _ _ hC0 (hfr f05), o5.mono fun k _ hk => ⟨hk.1, Nat.lt_of_lt_of_le hk.2 s5⟩, W, f05.of_no, Nat.le_refl _, hR.symm⟩, ?_⟩
  rintro n i x p h6 ⟨t, s', rfl, rfl, i0, i1, c6, o6, W6, f6, z6, eq⟩ hL6
  -- a step, from wherever
  have stp : ∀ (t' : τ) (h7 : Heap) (m : Nat), n = m + 1 -> C t' h7 -> OwI h7 (Iv h2.size h5.size) x s'.1 -> Vars h7 [(b3, [x.v, VI s'.2]), (b2, [w.v, VI s.2]), (b1, [g.v])] -> Fr T h h7 -> h5.size ≤ h7.size →
      (R = match stepP xss s' with
        | none => (0, false)
        | some s2 => firstGo xss test frm m (i + 1) t' s2) →
      ∀ K2 : Value -> Heap -> Prop, (∀ h', Fr T h h' -> Vars h' [(b3, [x.v, VI s'.2]), (b2, [w.v, VI s.2]), (b1, [g.v])] -> R = (0, false) -> K2 (VB false) h') -> (∀ s2 h', C t' h' -> OwI h' (Iv h2.size h5.size) x s2.1 -> WOK xss s2 -> Vars h' [(b3, [x.v, VI s2.2]), (b2, [w.v, VI s.2]), (b1, [g.v])] -> Fr T h h' -> h5.size ≤ h'.size -> R = firstGo xss test frm m (i + 1) t' s2 -> K2 (VB true) h') →
      callM Tryz.prog 100 #[.agg #[g.v], VP b3 0] h7 K2 := by
    intro t' h7 m hn c7 o7 hL7 f7 z7 e7 K2 k1 k2
    have G7 : RdR (Iv 0 h2.size) h7 g xss := (G.lowS.fr f7 fun k hk hk2 => hST k hk.1 hk2).mono fun k hk => ⟨Nat.zero_le _, by have := hk.2; omega⟩
    refine k_step G7 hL7.head o7 (by omega) l3 hub W6 K2 (fun hs h8 f8 => ?_) fun s2 hs h8 o8 v8 f8 => ?_
    · rw [hs] at e7
      exact k1 h8 (f7.trans f8.of_no) (hL7.of_no f8) e7
    · rw [hs] at e7
      refine k2 s2 h8 (hC _ _ _ c7 (f8.mono fun k _ hk => Nat.le_trans z2 hk.1)) o8 (W6.step hs) (.cons v8 ?_ (hL7.tail.iv f8 ⟨.inl l2, .inl l1, trivial⟩)) (f7.fresh2 f8 fun k hk => Nat.le_trans z2 hk.1) (Nat.le_trans z7 f8.size) e7
      intro p hp
      simp only [List.mem_cons, List.not_mem_nil, or_false] at hp
      rcases hp with rfl | rfl <;> (simp only; omega)
  refine ⟨fun e => ⟨fun e2 => ?_, fun e2 => ?_⟩, fun e => ?_⟩
  · simp only [decide_eq_true_eq] at e e2
    obtain ⟨m, rfl⟩ : ∃ m, n = m + 1 := ⟨n - 1, by omega⟩
    rw [firstGo, if_pos e2] at eq
    refine hso t x s' h6 _ (by omega) c6 (o6.rdI.mono fun k hk => Nat.le_trans z2 hk.1) W6 fun h7 c7 f7 => ?_
    have hL7 := hL6.fr f7 fun p hp => by
      simp only [List.mem_cons, List.not_mem_nil, or_false] at hp
      rcases hp with rfl | rfl | rfl <;> exact fun hk => by have := hT _ hk; simp only at this; omega
    refine ⟨_, rfl, hL7, fun e3 => ?_, fun e3 => ?_⟩
    · rw [if_pos e3] at eq
      rw [eq] at HK
      exact HK h7 (f6.trans f7)
    · rw [if_neg (by simp [e3])] at eq
      refine stp _ h7 m rfl c7 (Ow.fr o6 f7 fun k hk hk2 => by have := hT _ hk2; have := (o6.foot hk).1.1; omega) hL7 (f6.trans f7) (Nat.le_trans z6 f7.size) eq _ (fun h8 f8 hL8 e8 => ?_) fun s2 h8 c8 o8 W8 hL8 f8 z8 e8 => ?_
      · refine ⟨x, s'.2, _, rfl, hL8, fun _ => ?_, fun e => by simp at e⟩
        rw [e8] at HK
        exact HK h8 f8
      · refine ⟨x, s2.2, _, rfl, hL8, fun e => by simp at e, fun _ => ?_⟩
        rw [w64_eq (i + 1) (by omega) (by omega)]
        exact ⟨m, by omega, _, s2, rfl, rfl, by omega, by omega, c8, o8, W8, f8, z8, e8⟩
  · simp only [decide_eq_true_eq] at e
    simp only [decide_eq_false_iff_not] at e2
    obtain ⟨m, rfl⟩ : ∃ m, n = m + 1 := ⟨n - 1, by omega⟩
    rw [firstGo, if_neg e2] at eq
    refine stp _ h6 m rfl c6 o6 hL6 f6 z6 eq _ (fun h8 f8 hL8 e8 => ?_) fun s2 h8 c8 o8 W8 hL8 f8 z8 e8 => ?_
    · refine ⟨x, s'.2, _, rfl, hL8, fun _ => ?_, fun e => by simp at e⟩
      rw [e8] at HK
      exact HK h8 f8
    · refine ⟨x, s2.2, _, rfl, hL8, fun e => by simp at e, fun _ => ?_⟩
      rw [w64_eq (i + 1) (by omega) (by omega)]
      exact ⟨m, by omega, _, s2, rfl, rfl, by omega, by omega, c8, o8, W8, f8, z8, e8⟩
  · simp only [decide_eq_false_iff_not] at e
    obtain rfl : n = 0 := by omega
    rw [eq] at HK
    exact HK h6 f6
def hitP (g : List (List Int)) (rs : List Int) (p q : Int) : Int × Bool :=
  if walkB g rs p && (graphB g && inR 0 ((g.length : Int) - 1) q) then firstGo g (fun (_ : Unit) s => (decide (s.2 = q), ())) 0 2001 0 () (rs, p) else (0, false)
theorem rdI_not {S : Nat -> Prop} {h : Heap} {s : Sl} {xs : List Int} (H : RdI S h s xs) {b : Nat} (hb : h.size ≤ b) : RdI (fun k => k ≠ b) h s xs := H.low.mono fun k hk => by omega
theorem k_hit1 {h : Heap} {b : Nat} {q : Int} (V : IsVar h b [VI q]) (x : Sl) (p : Int) (K : Value -> Heap -> Prop) (HK : ∀ h', IsVar h' b [VI q] -> Fr No h h' -> K (VB (decide (p = q))) h') : callV Tryz.prog (.func (.func 107) #[] #[VP b 0]) [.agg #[x.v, VI p]] h K := by
  refine v107 x p b q h K (.cons V (by simp) .nil) fun b2 h2 hb2 f2 hL2 => ?_
  exact HK h2 hL2.tail.head f2.in_nil
theorem k_HitTime {S S' : Nat -> Prop} {h : Heap} {g w : Sl} {xss : List (List Int)} {rs : List Int} (G : RdR S h g xss) (H : RdI S' h w rs) (p q : Int) (K : Value -> Heap -> Prop) (HK : ∀ h', Fr No h h' -> K (.tuple #[VI (hitP xss rs p q).1, VB (hitP xss rs p q).2]) h') : callM Tryz.prog 44 #[.agg #[g.v], .agg #[w.v, VI p], VI q] h K := by
  refine v44 g w p q h K fun b1 b2 b3 h3 hb1 hb2 hb3 f3 hL3 => ?_
  have f3 := f3.in_nil
  refine k_isWalk (G.no f3) (H.no f3) p _ fun h4 f4 => ⟨_, rfl, hL3.of_no f4, fun e => ?_, fun e => ?_⟩
  · have e2 : hitP xss rs p q = (0, false) := by unfold hitP; rw [if_neg (by rw [not_t e]; simp)]
    rw [e2] at HK
    exact HK h4 (f3.no_trans f4)
  have e := not_f e
  have hL4 := hL3.of_no f4
  have f04 := f3.no_trans f4
  refine eop_lit rIs (fun k => h4.size ≤ k) (fun _ h => h) 1 (by omega) [VI q] rfl rfl fun t h5 n5 c5 o5 f5 m5 _ => ⟨t, rfl, hL4.of_no f5, ?_⟩
  have o5 : RdI (fun k => h4.size ≤ k) h5 t [q] := o5.rdF
  have hL5 := hL4.of_no f5
  have f05 := f04.no_trans f5
  refine k_has (G.no f05) o5 _ fun h6 f6 => ⟨_, rfl, hL5.of_no f6, fun e1 => ?_, fun e1 => ?_⟩
  all_goals simp only [List.all_cons, List.all_nil, Bool.and_true] at e1
  · have e2 : hitP xss rs p q = (0, false) := by unfold hitP; rw [if_neg (by rw [e, not_t e1]; simp)]
    rw [e2] at HK
    exact HK h6 (f05.no_trans f6)
  have e1 := not_f e1
  have e2 : hitP xss rs p q = firstGo xss (fun (_ : Unit) s => (decide (s.2 = q), ())) 0 2001 0 () (rs, p) := by unfold hitP; rw [if_pos (by rw [e, e1]; rfl)]
  rw [e2] at HK
  have hL6 := hL5.of_no f6
  have f06 := f05.no_trans f6
  have lb3 := hL6.head.lt
  refine k_firstTime (S := S) (T := No) (s := (rs, p)) (fun (_ : Unit) (s : St) => (decide (s.2 = q), ())) (fun _ h' => IsVar h' b3 [VI q] /\ Fr No h6 h') (G.no f06) (H.no f06) (wok_of e) 0 _ () ⟨hL6.head, Fr.refl _ _⟩ (fun _ h => h.elim) (fun _ _ h => h) (fun _ h1 h2 c f => ⟨c.1.fr f (by omega), c.2.fresh f fun k hk => hk⟩) (fun t x s' h1 K z1 c1 r1 W1 HK => k_hit1 c1.1 x s'.2 K fun h2 v2 f2 => HK h2 ⟨v2, c1.2.trans f2⟩ f2) _ fun h7 f7 => ⟨_, _, _, rfl, hL6.of_no f7, HK h7 (f06.no_trans f7)⟩
theorem k_spec_HitTime {S S' : Nat -> Prop} {h : Heap} {g w : Sl} {xss : List (List Int)} {rs : List Int} (G : RdR S h g xss) (H : RdI S' h w rs) (p q : Int) (K : Value -> Heap -> Prop) (HK : ∀ h', Fr No h h' -> K (.tuple #[VI (hitP xss rs p q).1, VB (hitP xss rs p q).2]) h') : callM Tryz.prog 45 #[.agg #[g.v], .agg #[w.v, VI p], VI q] h K := by
  refine v45 g w p q h K fun b1 b2 h2 hb1 hb2 f2 hL2 => ?_
  have f2 := f2.in_nil
  have l2 : b2 < h2.size := hL2.head.lt
  refine k_spec_waGood (G.no f2) (H.no f2) p _ fun h3 f3 => ⟨_, rfl, hL2.of_no f3, fun e => ?_, fun e => ?_⟩
  · have e2 : hitP xss rs p q = (0, false) := by unfold hitP; rw [if_neg (by rw [not_t e]; simp)]
    rw [e2] at HK
    exact HK h3 (f2.no_trans f3)
  have e := not_f e
  have hL3 := hL2.of_no f3
  have f03 := f2.no_trans f3
  refine k_spec_grPlace (G.no f03) q _ fun h4 f4 => ⟨_, rfl, hL3.of_no f4, fun e1 => ?_, fun e1 => ?_⟩
  · have e2 : hitP xss rs p q = (0, false) := by unfold hitP; rw [if_neg (by rw [e, not_t e1]; simp)]
    rw [e2] at HK
    exact HK h4 (f03.no_trans f4)
  have e1 := not_f e1
  have e2 : hitP xss rs p q = firstGo xss (fun (_ : Unit) s => (decide (s.2 = q), ())) 0 2001 0 () (rs, p) := by unfold hitP; rw [if_pos (by rw [e, e1]; rfl)]
  rw [e2] at HK
  generalize hR : firstGo xss (fun (_ : Unit) (s : St) => (decide (s.2 = q), ())) 0 2001 0 () (rs, p) = R at HK
  have f04 := f03.no_trans f4
  have z4 := f04.size
  refine ⟨fun n i x y h' => ∃ s' : St, y = s'.2 /\ 0 ≤ i /\ i + n = 2001 /\ RdI (fun k => k ≠ b2) h' x s'.1 /\ WOK xss s' /\ Fr No h h' /\ h2.size ≤ h'.size /\ R = firstGo xss (fun (_ : Unit) (s : St) => (decide (s.2 = q), ())) 0 n i () s', ⟨2001, (rs, p), rfl, by omega, by omega, (rdI_not H hb2).no f04, wok_of e, f04, by have := f3.size; have := f4.size; omega, hR.symm⟩, ?_⟩
  rintro n i x y h5 ⟨s', rfl, i0, i1, r5, W5, f5, z5, eq⟩ hL5
  refine ⟨fun e3 => ⟨fun e4 => ?_, fun e4 => ?_⟩, fun e3 => ?_⟩
  · simp only [decide_eq_true_eq] at e3
    obtain ⟨m, rfl⟩ : ∃ m, n = m + 1 := ⟨n - 1, by omega⟩
    rw [firstGo, if_pos i0] at eq
    simp only [e4, if_true] at eq
    rw [eq] at HK
    exact HK h5 f5
  · simp only [decide_eq_true_eq] at e3
    obtain ⟨m, rfl⟩ : ∃ m, n = m + 1 := ⟨n - 1, by omega⟩
    rw [firstGo, if_pos i0] at eq
    simp only [e4] at eq
    refine k_waStep (G.no f5) r5 W5 _ (fun hs h6 f6 => ⟨x, s'.2, false, rfl, hL5.of_no f6, fun _ b3 h8 hb3 f8 hL8 => ?_, fun e => by simp at e⟩) fun s2 hs t h6 o6 f6 => ⟨t, s2.2, true, rfl, hL5.of_no f6, fun e => by simp at e, fun _ b3 h9 hb3 f9 hL9 => ?_⟩
    · rw [hs] at eq
      simp only [Bool.false_eq_true, if_false] at eq
      rw [eq] at HK
      exact HK h8 ((f5.no_trans f6).no_trans f8.in_nil)
    · rw [hs] at eq
      simp only [Bool.false_eq_true, if_false] at eq
      rw [w64_eq (i + 1) (by omega) (by omega)]
      refine ⟨m, by omega, s2, rfl, by omega, by omega, ?_, W5.step hs, (f5.no_trans f6).fresh f9 (fun k hk => ?_), by have := f6.size; have := f9.size; omega, eq⟩
      · refine (RdI.fr (o6.rdI) f9 fun k hk hk2 => ?_).mono fun k hk => ?_
        · simp only [In, List.mem_cons, List.not_mem_nil, or_false] at hk2
          have := hk.1
          omega
        · have := hk.1
          omega
      · simp only [In, List.mem_cons, List.not_mem_nil, or_false] at hk
        omega
  · simp only [decide_eq_false_iff_not] at e3
    obtain rfl : n = 0 := by omega
    rw [eq] at HK
    exact HK h5 f5
theorem k_IndexB {S : Nat -> Prop} {h : Heap} {s : Sl} {bs : List Bool} (H : RdV S h 1 s (bs.map VB)) (v : Bool) (K : Value -> Heap -> Prop) (HK : ∀ r : Int, decide (0 ≤ r) = bs.any (v == ·) -> K (VI r) h) : callM Tryz.prog 142 #[s.v, VB v] h K := by
  have hl := blen H
  refine v142 s v h K ⟨fun n i h' => h' = h /\ 0 ≤ i /\ i + n = (bs.length : Int) /\ bs.any (v == ·) = (bs.drop i.toNat).any (v == ·), ⟨bs.length, rfl, by omega, by omega, by simp⟩, ?_⟩
  rintro n i hh ⟨rfl, i0, i1, i2⟩ hL
  refine ⟨fun e => ?_, fun e => ?_⟩
  · simp only [decide_eq_true_eq] at e
    have hi : i < (bs.length : Int) := by omega
    rw [drop_cons bs i0 hi, List.any_cons] at i2
    refine ⟨H.inb i0 (by simpa using hi), _, bget H i0 hi, fun e => ?_, fun e => ?_⟩
    · rw [e, Bool.true_or] at i2
      exact HK _ (by rw [i2]; simpa using i0)
    · rw [e, Bool.false_or] at i2
      rw [w64_succ i0 (n := s.n) (by omega) (RdV.big H)]
      exact ⟨n - 1, by omega, rfl, by omega, by omega, i2⟩
  · simp only [decide_eq_false_iff_not] at e
    rw [List.drop_of_length_le (by omega)] at i2
    exact HK _ (by rw [i2]; rfl)
theorem k_ContainsB {S : Nat -> Prop} {h : Heap} {s : Sl} {bs : List Bool} (H : RdV S h 1 s (bs.map VB)) (v : Bool) (K : Value -> Heap -> Prop) (HK : K (VB (bs.any (v == ·))) h) : callM Tryz.prog 110 #[s.v, VB v] h K := by
  refine v110 s v h K (k_IndexB H v _ fun r hr => ⟨r, rfl, .nil, ?_⟩)
  rw [hr]; exact HK
def metT (met : List Bool) (s : St) : Bool × List Bool := (!((met.set s.2.toNat true).any (false == ·)), met.set s.2.toNat true)
def coverP (g : List (List Int)) (rs : List Int) (p : Int) : Int × Bool :=
  if walkB g rs p then firstGo g metT 0 2001 0 (List.replicate g.length false) (rs, p) else (0, false)
theorem k_cover1 {a c : Nat} {h : Heap} {b : Nat} {t : Sl} {met : List Bool} (V : IsVar h b [t.v]) (O : Ow h (Iv a c) tB 1 t (met.map VB)) (hb : b < a ∨ c ≤ b) (x : Sl) (s : St) (h0 : 0 ≤ s.2) (h1 : s.2 < (met.length : Int)) (K : Value -> Heap -> Prop)
    (HK : ∀ h', IsVar h' b [t.v] -> Ow h' (Iv a c) tB 1 t ((metT met s).2.map VB) -> Fr (Iv a c) h h' -> K (VB (metT met s).1) h') : callV Tryz.prog (.func (.func 109) #[] #[VP b 0]) [.agg #[x.v, VI s.2]] h K := by
  have hl : t.n = met.length := blen O.rdF
  refine v109 x s.2 b t h K (.cons V (by simp) .nil) ⟨O.inb h0 (by omega), fun b2 h2 hb2 f2 hL2 => ?_⟩
  have f2 := f2.in_nil
  have O2 := O.no f2
  obtain ⟨w1, w2, w3⟩ := O2.store1 h0 (by omega) (VB true)
  have w3' : Fr (Iv a c) h2 _ := w3.mono fun k _ hk => (O2.foot hk).1
  have hL3 := hL2.fr w3 fun p hp hk => by
    have h3 := O.foot hk
    have h4 := h3.1.1
    have h5 := h3.1.2
    have h6 := h3.2
    simp only [List.mem_cons, List.not_mem_nil, or_false] at hp
    rcases hp with rfl | rfl <;> (simp only at h4 h5 h6; omega)
  refine ⟨w1, hL3, fun h3 e3 _ => ?_⟩
  subst e3
  rw [← List.map_set] at w2
  refine k_ContainsB w2.rd false _ ⟨_, rfl, hL3, HK _ hL3.tail.head w2 (f2.of_no.trans w3')⟩
theorem k_CoverTime {S S' : Nat -> Prop} {h : Heap} {g w : Sl} {xss : List (List Int)} {rs : List Int} (G : RdR S h g xss) (H : RdI S' h w rs) (p : Int) (K : Value -> Heap -> Prop) (HK : ∀ h', Fr No h h' -> K (.tuple #[VI (coverP xss rs p).1, VB (coverP xss rs p).2]) h') : callM Tryz.prog 47 #[.agg #[g.v], .agg #[w.v, VI p]] h K := by
  refine v47 g w p h K fun b1 b2 h2 hb1 hb2 f2 hL2 => ?_
  have f2 := f2.in_nil
  refine k_isWalk (G.no f2) (H.no f2) p _ fun h3 f3 => ⟨_, rfl, hL2.of_no f3, fun e => ?_, fun e => ?_⟩
  · have e2 : coverP xss rs p = (0, false) := by unfold coverP; rw [if_neg (by rw [not_t e]; simp)]
    rw [e2] at HK
    exact HK h3 (f2.no_trans f3)
  have e := not_f e
  have e2 : coverP xss rs p = firstGo xss metT 0 2001 0 (List.replicate xss.length false) (rs, p) := by unfold coverP; rw [if_pos e]
  rw [e2] at HK
  have hL3 := hL2.of_no f3
  have f03 := f2.no_trans f3
  have W := wok_of e
  have hgl := graph_len W.graph
  have l2 : b2 < h3.size := hL3.head.lt
  have l1 : b1 < h3.size := hL3.tail.head.lt
  have z03 := f03.size
  refine eop_make rBs (fun k => h3.size ≤ k) (fun _ h => h) .i64 .i64 g.n g.n (Nat.le_refl _) (by rw [G.len]; omega) fun t h4 n4 c4 o4 f4 m4 _ => ⟨t, rfl, hL3.of_no f4, fun b3 h6 hb3 f6 hL6 => ?_⟩
  have f6 := f6.in_nil
  have z4 := f4.size
  have z6 := f6.size
  have o4 : Ow h4 (Iv h3.size h4.size) tB 1 t ((List.replicate xss.length false).map VB) := by
    have e : (List.replicate g.n [VB false]).flatten = (List.replicate xss.length false).map VB := by rw [G.len]; simp [List.flatten_replicate_singleton]
    rw [e] at o4; exact o4.toIv
  have lb3 := hL6.head.lt
  have f06 := (f03.no_trans f4).no_trans f6
  have G6 : RdR (fun k => k < h3.size) h6 g xss := ((G.no f03).low.no f4).no f6
  refine k_firstTime (S := fun k => k < h3.size) (T := Iv h3.size h4.size) (s := (rs, p)) metT (fun met h' => IsVar h' b3 [t.v] /\ Ow h' (Iv h3.size h4.size) tB 1 t (met.map VB) /\ met.length = xss.length) G6 (H.no f06) W 0 _ (List.replicate xss.length false) ⟨hL6.head, o4.no f6, by simp⟩
    (fun k hk => by have := hk.2; omega) (fun k hk hk2 => by have := hk2.1; omega) (fun met h1 h2 c f => ⟨c.1.fr f (by omega), c.2.1.fr f fun k hk hk2 => by have := (c.2.1.foot hk).1.2; omega, c.2.2⟩) (fun met x s' h1 K z1 c1 r1 W1 HK => ?_) _ fun h7 f7 => ⟨t, _, _, rfl, hL6.iv f7 ⟨.inr hb3, .inl l2, .inl l1, trivial⟩, HK h7 (f06.ivFresh f7 z03)⟩
  exact k_cover1 c1.1 c1.2.1 (.inr hb3) x s' W1.lo (by rw [c1.2.2]; exact W1.hi) K fun h2 v2 o2 f2 => HK h2 ⟨v2, o2, by simp [metT, c1.2.2]⟩ f2
theorem any_false (l : List Bool) : l.any (false == ·) = decide (0 < l.count false) := by
  rw [Bool.eq_iff_iff, decide_eq_true_eq, List.count_pos_iff, List.any_eq_true]
  constructor
  · rintro ⟨x, hx, e⟩
    have : x = false := by simpa using e
    rwa [this] at hx
  · intro h
    exact ⟨false, h, rfl⟩
theorem count_set_true (l : List Bool) (i : Nat) (h : i < l.length) : (l.set i true).count false = l.count false - if l[i] = false then 1 else 0 := by
  rw [List.count_set h]
  cases hl : l[i] <;> simp
theorem k_spec_CoverTime {S S' : Nat -> Prop} {h : Heap} {g w : Sl} {xss : List (List Int)} {rs : List Int} (G : RdR S h g xss) (H : RdI S' h w rs) (p : Int) (K : Value -> Heap -> Prop) (HK : ∀ h', Fr No h h' -> K (.tuple #[VI (coverP xss rs p).1, VB (coverP xss rs p).2]) h') : callM Tryz.prog 48 #[.agg #[g.v], .agg #[w.v, VI p]] h K := by
  refine v48 g w p h K fun b1 b2 h2 hb1 hb2 f2 hL2 => ?_
  have f2 := f2.in_nil
  have l2 : b2 < h2.size := hL2.head.lt
  have l1 : b1 < h2.size := hL2.tail.head.lt
  refine k_spec_waGood (G.no f2) (H.no f2) p _ fun h3 f3 => ⟨_, rfl, hL2.of_no f3, fun e => ?_, fun e => ?_⟩
  · have e2 : coverP xss rs p = (0, false) := by unfold coverP; rw [if_neg (by rw [not_t e]; simp)]
    rw [e2] at HK
    exact HK h3 (f2.no_trans f3)
  have e := not_f e
  have e2 : coverP xss rs p = firstGo xss metT 0 2001 0 (List.replicate xss.length false) (rs, p) := by unfold coverP; rw [if_pos e]
  rw [e2] at HK
  generalize hR : firstGo xss metT 0 2001 0 (List.replicate xss.length false) (rs, p) = R at HK
  have hL3 := hL2.of_no f3
  have f03 := f2.no_trans f3
  have W := wok_of e
  have hgl := graph_len W.graph
  have z2 := f2.size
  have z3 := f3.size
  refine eop_make rBs (fun k => h3.size ≤ k) (fun _ h => h) .i64 .i64 g.n g.n (Nat.le_refl _) (by rw [G.len]; omega) fun t h4 n4 c4 o4 f4 m4 _ => ⟨t, rfl, hL3.of_no f4, ?_⟩
  have o4 : Ow h4 (Iv h3.size h4.size) tB 1 t ((List.replicate xss.length false).map VB) := by
    have e : (List.replicate g.n [VB false]).flatten = (List.replicate xss.length false).map VB := by rw [G.len]; simp [List.flatten_replicate_singleton]
    rw [e] at o4; exact o4.toIv
  have z4 := f4.size
  have f04 := f03.no_trans f4
  refine ⟨fun n left i x y h' => ∃ (met : List Bool) (s' : St), y = s'.2 /\ 0 ≤ i /\ i + n = 2001 /\ left = (met.count false : Int) /\ met.length = xss.length /\ RdI (fun k => k < h.size ∨ h4.size ≤ k) h' x s'.1 /\ Ow h' (Iv h3.size h4.size) tB 1 t (met.map VB) /\ WOK xss s' /\ Fr No h h' /\ h4.size ≤ h'.size /\ R = firstGo xss metT 0 n i met s',
    ⟨2001, List.replicate xss.length false, (rs, p), rfl, by omega, by omega, by rw [G.len]; simp, by simp, (H.low.no f04).mono fun k hk => .inl hk, o4, W, f04, Nat.le_refl _, hR.symm⟩, ?_⟩
  rintro n left i x y h5 ⟨met, s', rfl, i0, i1, rfl, hm, r5, o5, W5, f5, z5, eq⟩ hL5
  refine ⟨fun e3 => ?_, fun e3 => ?_⟩
  · simp only [decide_eq_true_eq] at e3
    obtain ⟨m, rfl⟩ : ∃ m, n = m + 1 := ⟨n - 1, by omega⟩
    rw [firstGo, if_pos i0] at eq
    have hlo := W5.lo
    have hhi := W5.hi
    have hpl : s'.2.toNat < met.length := by omega
    have hcnt := count_set_true met s'.2.toNat hpl
    have hle : met.count false ≤ met.length := List.count_le_length
    have hl : t.n = met.length := blen o5.rdF
    refine ⟨fun l' h' => l' = (((met.set s'.2.toNat true).count false : Nat) : Int) /\ Ow h' (Iv h3.size h4.size) tB 1 t ((met.set s'.2.toNat true).map VB) /\ Fr (Iv h3.size h4.size) h5 h', ⟨o5.inb hlo (by omega), _, bget o5.rdF hlo (by omega), fun e4 => ?_, fun e4 => ?_⟩, ?_⟩
    · have e5 := not_t e4
      obtain ⟨w1, w2, w3⟩ := o5.store1 hlo (by omega) (VB true)
      have w3' : Fr (Iv h3.size h4.size) h5 _ := w3.mono fun k _ hk => (o5.foot hk).1
      refine ⟨o5.inb hlo (by omega), w1, hL5.iv w3' ⟨.inl (by omega), .inl (by omega), trivial⟩, fun h6 e6 _ => ?_⟩
      subst e6
      rw [← List.map_set] at w2
      refine ⟨?_, w2, w3'⟩
      rw [if_pos e5] at hcnt
      have : 0 < met.count false := List.count_pos_iff.2 (by rw [← e5]; exact List.getElem_mem _)
      rw [w64_eq _ (by omega) (by omega)]
      omega
    · have e5 := not_f e4
      have e6 : met.set s'.2.toNat true = met := by rw [← e5, List.set_getElem_self]
      show _ = (((met.set s'.2.toNat true).count false : Nat) : Int) /\ Ow h5 (Iv h3.size h4.size) tB 1 t ((met.set s'.2.toNat true).map VB) /\ Fr (Iv h3.size h4.size) h5 h5
      rw [e6]
      exact ⟨rfl, o5, Fr.refl _ _⟩
    · rintro l' h7 ⟨rfl, o7, f7⟩ hL7
      have hT : (metT met s').1 = decide ((met.set s'.2.toNat true).count false = 0) := by
        unfold metT
        rw [any_false]
        by_cases h0 : (met.set s'.2.toNat true).count false = 0
        · simp [h0]
        · rw [decide_eq_true (show 0 < (met.set s'.2.toNat true).count false by omega), decide_eq_false h0]; rfl
      have hT2 : (metT met s').2 = met.set s'.2.toNat true := rfl
      rw [hT, hT2] at eq
      have f07 := f5.ivFresh f7 (by omega)
      have z7 := f7.size
      have r7 := r5.fr f7 fun k hk hk2 => by have := hk2.1; have := hk2.2; omega
      refine ⟨fun e4 => ?_, fun e4 => ?_⟩
      · have e4' : (met.set s'.2.toNat true).count false = 0 := by simpa using e4
        rw [decide_eq_true e4', if_pos rfl] at eq
        rw [eq] at HK
        exact HK h7 f07
      · have e4' : ¬ (met.set s'.2.toNat true).count false = 0 := by simpa using e4
        rw [decide_eq_false e4', if_neg (by simp)] at eq
        refine k_waStep (G.no f07) r7 W5 _ (fun hs h6 f6 => ⟨x, s'.2, false, rfl, hL7.of_no f6, fun _ b3 h8 hb3 f8 hL8 => ?_, fun e => by simp at e⟩) fun s2 hs u h6 o6 f6 => ⟨u, s2.2, true, rfl, hL7.of_no f6, fun e => by simp at e, fun _ b3 h9 hb3 f9 hL9 => ?_⟩
        · rw [hs] at eq
          simp only at eq
          rw [eq] at HK
          exact HK h8 ((f07.no_trans f6).no_trans f8.in_nil)
        · rw [hs] at eq
          simp only at eq
          rw [w64_eq (i + 1) (by omega) (by omega)]
          have z6 := f6.size
          have z9 := f9.size
          have f9 := f9.inIv (lo := h.size) (hi := h2.size) ⟨⟨hb2, l2⟩, trivial⟩
          refine ⟨m, by omega, _, s2, rfl, by omega, by omega, rfl, by simpa using hm, (RdI.iv o6.rdI f9 (.inr (by omega))).mono fun k hk => .inr (by have := hk.1; omega), (o7.no f6).iv f9 (.inr (by omega)), W5.step hs, (f07.no_trans f6).ivFresh f9 (Nat.le_refl _), by omega, eq⟩
  · simp only [decide_eq_false_iff_not] at e3
    obtain rfl : n = 0 := by omega
    rw [eq] at HK
    exact HK h5 f5
theorem k_Equal {S S' : Nat -> Prop} {h : Heap} {a b : Sl} {xs ys : List Int} (H : RdI S h a xs) (H' : RdI S' h b ys) (K : Value -> Heap -> Prop) (HK : K (VB (decide (xs = ys))) h) : callM Tryz.prog 133 #[a.v, b.v] h K := by
  refine v133 a b h K ⟨fun e => ?_, fun e => ?_⟩
  · have e1 := not_t e
    rw [H.len, H'.len] at e1
    have : ¬ xs = ys := fun e2 => by subst e2; simp at e1
    rw [decide_eq_false this] at HK
    exact HK
  · have e1 := not_f e
    rw [H.len, H'.len] at e1
    have hl : xs.length = ys.length := by simp at e1; omega
    refine ⟨fun n i h' => h' = h /\ 0 ≤ i /\ i + n = (xs.length : Int) /\ decide (xs = ys) = decide (xs.drop i.toNat = ys.drop i.toNat), ⟨xs.length, rfl, by omega, by omega, by simp⟩, ?_⟩
    rintro n i hh ⟨rfl, h0, h1, h2⟩ hL
    refine ⟨fun e => ?_, fun e => ?_⟩
    · have hi := H.lt e
      have hi' : i < (ys.length : Int) := by omega
      refine ⟨H.inb h0 hi, _, H.get h0 hi, H'.inb h0 hi', _, H'.get h0 hi', fun e => ?_, fun e => ?_⟩
      · rw [drop_cons xs h0 hi, drop_cons ys h0 hi'] at h2
        have e3 := not_t e
        simp only [decide_eq_false_iff_not] at e3
        rw [h2, decide_eq_false (fun e4 => e3 (List.cons.inj e4).1)] at HK
        exact HK
      · rw [drop_cons xs h0 hi, drop_cons ys h0 hi'] at h2
        have e3 := not_f e
        simp only [decide_eq_true_eq] at e3
        rw [H.succ h0 hi]
        refine ⟨n - 1, by omega, rfl, by omega, by omega, h2.trans ?_⟩
        rw [e3]
        simp
    · have hi := H.ge e
      rw [List.drop_of_length_le (by omega), List.drop_of_length_le (by omega)] at h2
      rw [h2] at HK
      exact HK
theorem k_is {S S' : Nat -> Prop} {h : Heap} {a b : Sl} {xs ys : List Int} (H : RdI S h a xs) (H' : RdI S' h b ys) (p q : Int) : Ret Tryz.prog 88 #[.agg #[a.v, VI p], .agg #[b.v, VI q]] h (VB (decide (p = q /\ xs = ys))) := by
  intro K HK
  refine v88 a p b q h K ⟨fun e b1 b2 h2 hb1 hb2 f2 hL2 => ?_, fun e b1 b2 h2 hb1 hb2 f2 hL2 => ?_⟩
  · simp only [decide_eq_true_eq] at e
    refine k_Equal (H.no f2.in_nil) (H'.no f2.in_nil) _ ⟨_, rfl, hL2, ?_⟩
    have e2 : decide (xs = ys) = decide (p = q /\ xs = ys) := by simp [e]
    rw [e2]
    exact HK _ f2.in_nil
  · simp only [decide_eq_false_iff_not] at e
    rw [decide_eq_false (fun e2 => e e2.1)] at HK
    exact HK _ f2.in_nil
theorem k_waSame {S S' : Nat -> Prop} {h : Heap} {a b : Sl} {xs ys : List Int} (H : RdI S h a xs) (H' : RdI S' h b ys) (p q : Int) : Ret Tryz.prog 132 #[.agg #[a.v, VI p], .agg #[b.v, VI q]] h (VB (decide (p = q /\ xs = ys))) := by
  intro K HK
  refine v132 a p b q h K ⟨fun e b1 b2 h2 hb1 hb2 f2 hL2 => ?_, fun e => ⟨fun e1 b1 b2 h2 hb1 hb2 f2 hL2 => ?_, fun e1 b1 b2 h2 hb1 hb2 f2 hL2 => ?_⟩⟩
  · have e := not_t e
    simp only [decide_eq_false_iff_not] at e
    rw [decide_eq_false (fun e2 => e e2.1)] at HK
    exact HK _ f2.in_nil
  · have e1 := not_t e1
    rw [H.len, H'.len] at e1
    simp only [decide_eq_false_iff_not] at e1
    rw [decide_eq_false (fun e2 => e1 (by rw [e2.2]))] at HK
    exact HK _ f2.in_nil
  · have e := not_f e
    simp only [decide_eq_true_eq] at e
    have e1 := not_f e1
    rw [H.len, H'.len] at e1
    have hl : xs.length = ys.length := by simp at e1; omega
    have f2 := f2.in_nil
    have H2 := H.no f2
    have H2' := H'.no f2
    have HK2 := HK _ f2
    have e2 : decide (p = q /\ xs = ys) = decide (xs = ys) := by simp [e]
    rw [e2] at HK2
    refine ⟨fun n i h' => h' = h2 /\ 0 ≤ i /\ i + n = (xs.length : Int) /\ decide (xs = ys) = decide (xs.drop i.toNat = ys.drop i.toNat), ⟨xs.length, rfl, by omega, by omega, by simp⟩, ?_⟩
    rintro n i hh ⟨rfl, h0, h1, h3⟩ hL
    refine ⟨fun e => ?_, fun e => ?_⟩
    · have hi := H2.lt e
      have hi' : i < (ys.length : Int) := by omega
      refine ⟨H2.inb h0 hi, _, H2.get h0 hi, H2'.inb h0 hi', _, H2'.get h0 hi', fun e => ?_, fun e => ?_⟩
      · rw [drop_cons xs h0 hi, drop_cons ys h0 hi'] at h3
        have e3 := not_t e
        simp only [decide_eq_false_iff_not] at e3
        rw [h3, decide_eq_false (fun e4 => e3 (List.cons.inj e4).1)] at HK2
        exact HK2
      · rw [drop_cons xs h0 hi, drop_cons ys h0 hi'] at h3
        have e3 := not_f e
        simp only [decide_eq_true_eq] at e3
        rw [H2.succ h0 hi]
        refine ⟨n - 1, by omega, rfl, by omega, by omega, h3.trans ?_⟩
        rw [e3]
        simp
    · have hi := H2.ge e
      rw [List.drop_of_length_le (by omega), List.drop_of_length_le (by omega)] at h3
      rw [h3] at HK2
      exact HK2
def sameT (rs : List Int) (p : Int) (_ : Unit) (s : St) : Bool × Unit := (decide (p = s.2 /\ rs = s.1), ())
def recP (g : List (List Int)) (rs : List Int) (p : Int) : Bool × Bool :=
  if walkB g rs p then ((firstGo g (sameT rs p) 1 2001 0 () (rs, p)).2, true) else (false, false)
theorem first_pos (g : List (List Int)) (test : Unit -> St -> Bool × Unit) : ∀ (f : Nat) (n : Int) (s : St), 0 ≤ n -> (firstGo g test 1 f n () s).2 = decide (0 < (firstGo g test 1 f n () s).1)
  | 0, n, s, _ => by simp [firstGo]
  | f + 1, n, s, h => by
    rw [firstGo]
    split
    · split
      · have : 0 < n := by omega
        simp [this]
      · split
        · simp
        · exact first_pos g test f (n + 1) _ (by omega)
    · split
      · simp
      · exact first_pos g test f (n + 1) _ (by omega)
theorem k_IsRecurrent {S S' : Nat -> Prop} {h : Heap} {g w : Sl} {xss : List (List Int)} {rs : List Int} (G : RdR S h g xss) (H : RdI S' h w rs) (p : Int) (K : Value -> Heap -> Prop) (HK : ∀ h', Fr No h h' -> K (.tuple #[VB (recP xss rs p).1, VB (recP xss rs p).2]) h') : callM Tryz.prog 32 #[.agg #[g.v], .agg #[w.v, VI p]] h K := by
  refine v32 g w p h K fun b1 b2 h2 hb1 hb2 f2 hL2 => ?_
  have f2 := f2.in_nil
  refine k_isWalk (G.no f2) (H.no f2) p _ fun h3 f3 => ⟨_, rfl, hL2.of_no f3, fun e => ?_, fun e => ?_⟩
  · have e2 : recP xss rs p = (false, false) := by unfold recP; rw [if_neg (by rw [not_t e]; simp)]
    rw [e2] at HK
    exact HK h3 (f2.no_trans f3)
  have e := not_f e
  have e2 : recP xss rs p = ((firstGo xss (sameT rs p) 1 2001 0 () (rs, p)).2, true) := by unfold recP; rw [if_pos e]
  rw [e2] at HK
  have hL3 := hL2.of_no f3
  have f03 := f2.no_trans f3
  have W := wok_of e
  refine k_firstTime (S := S) (T := No) (s := (rs, p)) (sameT rs p) (fun _ h' => RdI (fun k => k < h3.size) h' w rs) (G.no f03) (H.no f03) W 1 _ () (H.no f03).low (fun _ h => h.elim) (fun _ _ h => h) (fun _ h1 h2 c f => c.fr f fun k hk hk2 => by omega) (fun t x s' h1 K z1 c1 r1 W1 HK => ?_) _ fun h7 f7 => ⟨_, _, rfl, hL3.of_no f7, HK h7 (f03.no_trans f7)⟩
  exact k_is c1 r1 p s'.2 K fun h2 f2 => HK h2 (c1.no f2) f2
theorem k_waAgain {S S' : Nat -> Prop} {h : Heap} {g w : Sl} {xss : List (List Int)} {rs : List Int} (G : RdR S h g xss) (H : RdI S' h w rs) (p : Int) (W : WOK xss (rs, p)) (K : Value -> Heap -> Prop) (HK : ∀ h', Fr No h h' -> K (VI (firstGo xss (sameT rs p) 1 2001 0 () (rs, p)).1) h') : callM Tryz.prog 89 #[.agg #[g.v], .agg #[w.v, VI p], VI 2000] h K := by
  refine v89 g w p 2000 h K fun b1 b2 b3 h4 hb1 hb2 hb3 f4 hL4 => ?_
  have f4 := f4.in_nil
  have l3 : b3 < h4.size := hL4.head.lt
  have z4 := f4.size
  have hR0 : firstGo xss (sameT rs p) 1 2001 0 () (rs, p) = match stepP xss (rs, p) with
      | none => (0, false)
      | some s' => firstGo xss (sameT rs p) 1 2000 1 () s' := by rw [firstGo, if_neg (by omega)]; rfl
  generalize hR : firstGo xss (sameT rs p) 1 2001 0 () (rs, p) = R at HK
  rw [hR] at hR0
  refine ⟨fun n i x y h' => ∃ s' : St, y = s'.2 /\ 1 ≤ i /\ i + n = 2001 /\ RdI (fun k => k ≠ b3) h' x s'.1 /\ WOK xss s' /\ Fr No h h' /\ h4.size ≤ h'.size /\ R = (match stepP xss s' with
      | none => (0, false)
      | some s2 => firstGo xss (sameT rs p) 1 n i () s2), ⟨2000, (rs, p), rfl, by omega, by omega, (rdI_not H hb3).no f4, W, f4, Nat.le_refl _, hR0⟩, ?_⟩
  rintro n i x y h5 ⟨s', rfl, i0, i1, r5, W5, f5, z5, eq⟩ hL5
  refine ⟨fun e3 => ?_, fun e3 => ?_⟩
  · simp only [decide_eq_true_eq] at e3
    obtain ⟨m, rfl⟩ : ∃ m, n = m + 1 := ⟨n - 1, by omega⟩
    refine k_waStep (G.no f5) r5 W5 _ (fun hs h6 f6 => ⟨x, s'.2, false, rfl, hL5.of_no f6, fun _ b4 h8 hb4 f8 hL8 => ?_, fun e => by simp at e⟩) fun s2 hs t h6 o6 f6 => ⟨t, s2.2, true, rfl, hL5.of_no f6, fun e => by simp at e, fun _ b4 h9 hb4 f9 hL9 => ?_⟩
    · rw [hs] at eq
      simp only at eq
      rw [eq] at HK
      exact HK h8 ((f5.no_trans f6).no_trans f8.in_nil)
    · rw [hs] at eq
      simp only at eq
      rw [firstGo, if_pos i0] at eq
      have z6 := f6.size
      have z9 := f9.size
      have hb3' : ∀ k, In [b3] k -> h.size ≤ k := fun k hk => by simp only [In, List.mem_cons, List.not_mem_nil, or_false] at hk; omega
      have f09 := (f5.no_trans f6).fresh f9 hb3'
      have r9 : RdI (fun k => k ≠ b3) h9 t s2.1 := (RdI.fr (o6.rdI) f9 fun k hk hk2 => by
        simp only [In, List.mem_cons, List.not_mem_nil, or_false] at hk2
        have := hk.1
        omega).mono fun k hk => by have := hk.1; omega
      refine k_waSame r9 (H.no f09) s2.2 p _ fun h10 f10 => ⟨_, rfl, hL9.of_no f10, fun e => ?_, fun e => ?_⟩
      · have e1 : (sameT rs p () s2).1 = true := by
          simp only [decide_eq_true_eq] at e
          simp [sameT, e.1, e.2]
        rw [if_pos e1] at eq
        rw [eq] at HK
        exact HK h10 (f09.no_trans f10)
      · have e1 : ¬ (sameT rs p () s2).1 = true := by
          simp only [decide_eq_false_iff_not] at e
          simp only [sameT, decide_eq_true_eq]
          exact fun h => e ⟨h.1.symm, h.2.symm⟩
        rw [if_neg e1] at eq
        rw [w64_eq (i + 1) (by omega) (by omega)]
        exact ⟨m, by omega, s2, rfl, by omega, by omega, r9.no f10, W5.step hs, f09.no_trans f10, by have := f10.size; omega, eq⟩
  · simp only [decide_eq_false_iff_not] at e3
    obtain rfl : n = 0 := by omega
    have : R = (0, false) := by
      rw [eq]
      split
      · rfl
      · rw [firstGo]
    rw [this] at HK
    exact HK h5 f5
theorem k_spec_IsRecurrent {S S' : Nat -> Prop} {h : Heap} {g w : Sl} {xss : List (List Int)} {rs : List Int} (G : RdR S h g xss) (H : RdI S' h w rs) (p : Int) (K : Value -> Heap -> Prop) (HK : ∀ h', Fr No h h' -> K (.tuple #[VB (recP xss rs p).1, VB (recP xss rs p).2]) h') : callM Tryz.prog 33 #[.agg #[g.v], .agg #[w.v, VI p]] h K := by
  refine v33 g w p h K fun b1 b2 h2 hb1 hb2 f2 hL2 => ?_
  have f2 := f2.in_nil
  refine k_spec_waGood (G.no f2) (H.no f2) p _ fun h3 f3 => ⟨_, rfl, hL2.of_no f3, fun e => ?_, fun e => ?_⟩
  · have e2 : recP xss rs p = (false, false) := by unfold recP; rw [if_neg (by rw [not_t e]; simp)]
    rw [e2] at HK
    exact HK h3 (f2.no_trans f3)
  have e := not_f e
  have e2 : recP xss rs p = ((firstGo xss (sameT rs p) 1 2001 0 () (rs, p)).2, true) := by unfold recP; rw [if_pos e]
  rw [e2, first_pos _ _ _ _ _ (by omega)] at HK
  have f03 := f2.no_trans f3
  exact k_waAgain (G.no f03) (H.no f03) p (wok_of e) _ fun h4 f4 => ⟨_, rfl, (hL2.of_no f3).of_no f4, HK h4 (f03.no_trans f4)⟩
def runT {τ : Type} (g : List (List Int)) (upd : τ -> St -> St -> τ) : Nat -> τ -> St -> Option (τ × St)
  | 0, t, s => some (t, s)
  | n + 1, t, s => match stepP g s with
    | none => none
    | some s' => runT g upd n (upd t s s') s'
theorem runT_snoc {τ : Type} {g : List (List Int)} {upd : τ -> St -> St -> τ} {s'' : St} : ∀ (n : Nat) (t : τ) (s : St) (t' : τ) (s' : St), runT g upd n t s = some (t', s') -> stepP g s' = some s'' -> runT g upd (n + 1) t s = some (upd t' s' s'', s'')
  | 0, t, s, t', s', h, hs => by
    simp only [runT, Option.some.injEq, Prod.mk.injEq] at h
    obtain ⟨rfl, rfl⟩ := h
    rw [runT, hs]
    rfl
  | n + 1, t, s, t', s', h, hs => by
    rw [runT] at h
    rw [runT]
    split at h
    · cases h
    · rename_i s2 h2
      exact runT_snoc n _ _ _ _ h hs
theorem k_run {τ : Type} (upd : τ -> St -> St -> τ) (C : Nat -> τ -> Heap -> Prop) (T0 : Nat -> Prop) {F S : Nat -> Prop} {b : Nat} {h : Heap} {g w : Sl} {xss : List (List Int)} {s0 : St} (G : RdR S h g xss) (V : IsVar h b [w.v, VI s0.2]) (H : OwI h F w s0.1) (hS : ∀ k, S k -> ¬ F k /\ ¬ T0 k) (hFb : F b) (hbw : ¬ w.own b) (W : WOK xss s0) (n : Int) (hn0 : 0 ≤ n) (hn1 : n ≤ 1000000) (wt : Value) (t0 : τ)
    (hF : ∀ k, F k -> k < h.size) (hT0 : ∀ k, T0 k -> ¬ F k /\ k < h.size) (hC0 : ∀ N, h.size ≤ N -> C N t0 h) (hC : ∀ N t h1 h2 (U : Nat -> Prop), C N t h1 -> Fr U h1 h2 -> (∀ k, U k -> ¬ T0 k /\ k < N) -> C N t h2)
    (hw : ∀ N t s s' h1 (K : Value -> Heap -> Prop), h.size ≤ N -> N ≤ h1.size -> C N t h1 -> IsVar h1 b [w.v, VI s'.2] -> OwI h1 F w s'.1 -> WOK xss s -> stepP xss s = some s' -> (∃ m : Nat, (m : Int) < n /\ runT xss upd m t0 s0 = some (t, s)) -> (∀ h2 v, C N (upd t s s') h2 -> Fr (fun k => T0 k ∨ N ≤ k) h1 h2 -> K v h2) -> callV Tryz.prog wt [VI s.2] h1 K)
    (K : Value -> Heap -> Prop)
    (HN : runT xss upd n.toNat t0 s0 = none -> ∀ N t' h' p, h.size ≤ N -> C N t' h' -> IsVar h' b [w.v, VI p] -> Fr (fun k => F k ∨ T0 k) h h' -> K (VB false) h')
    (HS : ∀ t' s', runT xss upd n.toNat t0 s0 = some (t', s') -> ∀ N h', h.size ≤ N -> C N t' h' -> OwI h' F w s'.1 -> WOK xss s' -> IsVar h' b [w.v, VI s'.2] -> Fr (fun k => F k ∨ T0 k) h h' -> K (VB true) h') :
    callM Tryz.prog 92 #[.agg #[g.v], VP b 0, VI n, wt] h K := by
  have hbl := V.lt
  refine v92 g b w s0.2 n wt h K (.cons V (by simp) .nil) fun b2 h1 hb2 f1 hL1 => ?_
  have f1 := f1.in_nil
  have l2 : b2 < h1.size := hL1.head.lt
  have z1 := f1.size
  have dis : ∀ k, F k -> ¬ T0 k := fun k hk hk2 => (hT0 k hk2).1 hk
  refine ⟨fun m i x p h' => ∃ (t : τ) (s' : St), x = w /\ p = s'.2 /\ 0 ≤ i /\ i + m = n /\ C h1.size t h' /\ OwI h' F w s'.1 /\ WOK xss s' /\ Fr (fun k => F k ∨ T0 k) h h' /\ h1.size ≤ h'.size /\ runT xss upd i.toNat t0 s0 = some (t, s') /\ runT xss upd n.toNat t0 s0 = runT xss upd m t s', ⟨n.toNat, t0, s0, rfl, rfl, by omega, by omega, hC _ _ _ _ _ (hC0 _ z1) f1 (fun k hk => hk.elim), Ow.no H f1, W, f1.of_no, Nat.le_refl _, rfl, rfl⟩, ?_⟩
  rintro m i x p h2 ⟨t, s', rfl, rfl, i0, i1, c2, o2, W2, f2, z2, hm, eq⟩ hL2
  refine ⟨fun e => ?_, fun e => ?_⟩
  · simp only [decide_eq_true_eq] at e
    obtain ⟨m, rfl⟩ : ∃ q, m = q + 1 := ⟨m - 1, by omega⟩
    rw [runT] at eq
    have G2 : RdR S h2 g xss := G.fr f2 fun k hk hk2 => by
      rcases hk2 with hk2 | hk2
      · exact (hS k hk).1 hk2
      · exact (hS k hk).2 hk2
    refine k_stepF G2 hL2.tail.head o2 (fun k hk => (hS k hk).1) hFb hbw W2 _ (fun hs h3 f3 => ?_) fun s3 hs h3 o3 v3 f3 => ?_
    · rw [hs] at eq
      have hL3 := hL2.of_no f3
      exact ⟨x, s'.2, _, rfl, hL3, fun _ => HN eq _ _ h3 _ z1 (hC _ _ _ _ _ c2 f3 fun k hk => hk.elim) hL3.tail.head (f2.trans f3.of_no), fun e => by simp at e⟩
    · rw [hs] at eq
      have hL3 : Vars h3 [(b2, [g.v]), (b, [x.v, VI s3.2])] := .cons (hL2.head.fr f3 fun hk => by have := hF _ hk; omega) (fun p hp => by simp only [List.mem_cons, List.not_mem_nil, or_false] at hp; subst hp; simp only; omega) (.cons v3 (by simp) .nil)
      have c3 := hC _ _ _ _ _ c2 f3 fun k hk => ⟨dis k hk, by have := hF k hk; omega⟩
      have z3 := f3.size
      refine ⟨x, s3.2, _, rfl, hL3, fun e => by simp at e, fun _ => ?_⟩
      refine hw h1.size t s' s3 h3 _ z1 (by omega) c3 v3 o3 W2 hs ⟨i.toNat, by omega, hm⟩ fun h4 v c4 f4 => ?_
      have hL4 : Vars h4 [(b2, [g.v]), (b, [x.v, VI s3.2])] := hL3.fr f4 fun p hp hk => by
        simp only [List.mem_cons, List.not_mem_nil, or_false] at hp
        rcases hp with rfl | rfl <;> simp only at hk
        · rcases hk with hk | hk
          · have := (hT0 _ hk).2; omega
          · omega
        · rcases hk with hk | hk
          · exact (hT0 _ hk).1 hFb
          · have := hF _ hFb; omega
      rw [w64_eq (i + 1) (by omega) (by omega)]
      refine ⟨hL4, m, by omega, _, s3, rfl, rfl, by omega, by omega, c4, Ow.fr o3 f4 fun k hk hk2 => ?_, W2.step hs, ?_, by have := f4.size; omega, by rw [toNat_succ i0]; exact runT_snoc _ _ _ _ _ hm hs, eq⟩
      · have h5 := (o3.foot hk).1
        rcases hk2 with hk2 | hk2
        · exact (hT0 _ hk2).1 h5
        · have := hF _ h5; omega
      · refine ⟨by have := f2.size; have := f4.size; omega, fun k hk ht => ?_⟩
        rw [f4.same k (by have := f2.size; omega) fun h => by
          rcases h with h | h
          · exact ht (.inr h)
          · omega]
        rw [f3.same k (by have := f2.size; omega) fun h => ht (.inl h)]
        exact f2.same k hk ht
  · simp only [decide_eq_false_iff_not] at e
    obtain rfl : m = 0 := by omega
    rw [runT] at eq
    exact HS t s' eq h1.size h2 z1 c2 o2 W2 hL2.tail.head f2
theorem k_isRun {S S' : Nat -> Prop} {h : Heap} {g s : Sl} {xss : List (List Int)} {rs : List Int} (G : RdR S h g xss) (H : RdI S' h s rs) (p n most : Int) : Ret Tryz.prog 90 #[.agg #[g.v], .agg #[s.v, VI p], VI n, VI most] h (VB (walkB xss rs p && inR 0 most n)) := by
  intro K HK
  refine v90 g s p n most h K fun b1 b2 h2 hb1 hb2 f2 hL2 => ?_
  have f2 := f2.in_nil
  refine k_isWalk (G.no f2) (H.no f2) p _ fun h3 f3 => ⟨_, rfl, hL2.of_no f3, fun e => ?_, fun e => ?_⟩
  · rw [e, Bool.true_and] at HK
    exact k_impl_in _ _ _ _ _ ⟨_, rfl, hL2.of_no f3, HK _ (f2.no_trans f3)⟩
  · rw [e, Bool.false_and] at HK
    exact HK _ (f2.no_trans f3)
def runOfP (g : List (List Int)) (rs : List Int) (p n : Int) : St × Bool :=
  if walkB g rs p && inR 0 2000 n then match runT g (fun (_ : Unit) _ _ => ()) n.toNat () (rs, p) with
    | none => (([], 0), false)
    | some (_, s) => (s, true)
  else (([], 0), false)
theorem k_RunOf {S S' : Nat -> Prop} {h : Heap} {g w : Sl} {xss : List (List Int)} {rs : List Int} (G : RdR S h g xss) (H : RdI S' h w rs) (p n : Int) (K : Value -> Heap -> Prop) (HK : ∀ t h', OwI h' (Iv h.size h'.size) t (runOfP xss rs p n).1.1 -> Fr No h h' -> K (.tuple #[.agg #[t.v, VI (runOfP xss rs p n).1.2], VB (runOfP xss rs p n).2]) h') : callM Tryz.prog 34 #[.agg #[g.v], .agg #[w.v, VI p], VI n] h K := by
  refine v34 g w p n h K fun b1 b2 b3 h3 hb1 hb2 hb3 f3 hL3 => ?_
  have f3 := f3.in_nil
  have l3 : b3 < h3.size := hL3.head.lt
  have l2 : b2 < h3.size := hL3.tail.head.lt
  have l1 : b1 < h3.size := hL3.tail.tail.head.lt
  have z3 := f3.size
  refine k_isRun (G.no f3) (H.no f3) p n 2000 _ fun h4 f4 => ⟨_, rfl, hL3.of_no f4, fun e h5 f5 hL5 => ?_, fun e => ?_⟩
  · have e2 : runOfP xss rs p n = (([], 0), false) := by unfold runOfP; rw [if_neg (by rw [not_t e]; simp)]
    have f5 := f5.inIv (lo := h.size) (hi := h3.size) ⟨⟨hb3, l3⟩, trivial⟩
    have := HK nilSl h5 (by rw [e2]; exact Ow.nil _ _ _ _) ((f3.no_trans f4).ivFresh f5 (Nat.le_refl _))
    rw [e2] at this
    exact this
  have e := not_f e
  have e2 : runOfP xss rs p n = match runT xss (fun (_ : Unit) _ _ => ()) n.toNat () (rs, p) with
    | none => (([], 0), false)
    | some (_, s) => (s, true) := by unfold runOfP; rw [if_pos e]
  rw [Bool.and_eq_true, inR_iff] at e
  have W := wok_of e.1
  have hgl := graph_len W.graph
  have hL4 := hL3.of_no f4
  have z4 := f4.size
  have f04 := f3.no_trans f4
  refine k_copiedW (H.no f04) p (by have := W.len; simp only at this; omega) _ fun u h6 o6 f6 => ⟨u, p, rfl, hL4.of_no f6, fun b4 h8 hb4 f8 hL8 => ?_⟩
  have f8 := f8.in_nil
  have z6 := f6.size
  have z8 := f8.size
  have l4 : b4 < h8.size := hL8.head.lt
  have f48 := f6.no_trans f8
  have G8 : RdR (Iv 0 h4.size) h8 g xss := (G.no f04).toIv.no f48
  have o8 : OwI h8 (Iv h4.size h8.size) u rs := (Ow.no o6 f8).mono fun k _ hk => ⟨hk.1, by have := hk.2; omega⟩
  have hub : ¬ u.own b4 := fun hk => by have := (o6.foot hk).2; omega
  have fT : ∀ {x y : Heap}, Fr (fun k => Iv h4.size h8.size k ∨ False) x y -> Fr (Iv h4.size h8.size) x y := fun f => f.mono fun k _ hk => by rcases hk with hk | hk; exact hk; exact hk.elim
  refine k_run (s0 := (rs, p)) (fun (_ : Unit) _ _ => ()) (fun _ _ _ => True) (fun _ => False) G8 hL8.head o8 (fun k hk => ⟨fun hk2 => by have := hk.2; have := hk2.1; omega, fun h => h⟩) ⟨by omega, l4⟩ hub W n (by omega) (by omega) _ () (fun k hk => hk.2) (fun k hk => hk.elim) (fun _ _ => trivial) (fun _ _ _ _ _ _ _ _ => trivial) (fun N t s s' h1 K hN hN2 _ V O W hs _ HK => ?_) _ (fun hr N t h9 q hN _ v9 f9 => ?_) fun t' s' hr N h9 hN _ o9 W9 v9 f9 => ?_
  · refine v93 s.2 h1 K ?_
    exact HK h1 _ trivial (Fr.refl _ _)
  · have f9 := fT f9
    have hL9 : Vars h9 [(b4, [u.v, VI q]), (b3, [nilSl.v, VI 0]), (b2, [w.v, VI p]), (b1, [g.v])] := .cons v9 hL8.ne (hL8.tail.iv f9 ⟨.inl (by omega), .inl (by omega), .inl (by omega), trivial⟩)
    refine ⟨u, q, _, rfl, hL9, fun _ h10 f10 hL10 => ?_, fun e => by simp at e⟩
    have f10 := f10.inIv (lo := h.size) (hi := h3.size) ⟨⟨hb3, l3⟩, trivial⟩
    rw [hr] at e2
    have := HK nilSl h10 (by rw [e2]; exact Ow.nil _ _ _ _) (((f04.no_trans f48).ivFresh f9 (by omega)).ivFresh f10 (Nat.le_refl _))
    rw [e2] at this
    exact this
  · have f9 := fT f9
    have hL9 : Vars h9 [(b4, [u.v, VI s'.2]), (b3, [nilSl.v, VI 0]), (b2, [w.v, VI p]), (b1, [g.v])] := .cons v9 hL8.ne (hL8.tail.iv f9 ⟨.inl (by omega), .inl (by omega), .inl (by omega), trivial⟩)
    refine ⟨u, s'.2, _, rfl, hL9, fun e => by simp at e, fun _ h10 f10 hL10 => ?_⟩
    have f10 := f10.inIv (lo := h.size) (hi := h3.size) ⟨⟨hb3, l3⟩, trivial⟩
    rw [hr] at e2
    have z9 := f9.size
    have z10 := f10.size
    have := HK u h10 (by rw [e2]; exact (Ow.iv o9 f10 (.inr (by omega))).mono fun k _ hk => ⟨by have := hk.1; omega, by have := hk.2; omega⟩) (((f04.no_trans f48).ivFresh f9 (by omega)).ivFresh f10 (Nat.le_refl _))
    rw [e2] at this
    exact this
structure Rn where
  s : St
  ps : List Int
  vs : List Int
  us : List (List Int)
def bump (l : List Int) (i : Nat) : List Int := l.set i (l.getD i 0 + 1)
def goP (g : List (List Int)) : Nat -> Rn -> Option Rn
  | 0, r => some r
  | n + 1, r => match stepP g r.s with
    | none => none
    | some s' => goP g n ⟨s', r.ps ++ [s'.2], bump r.vs s'.2.toNat, r.us.set r.s.2.toNat (bump (r.us.getD r.s.2.toNat []) (s'.1.getD r.s.2.toNat 0).toNat)⟩
def zerosR (g : List (List Int)) : List (List Int) := g.map fun l => List.replicate l.length 0
def go0 (g : List (List Int)) (s : St) : Rn := ⟨s, [s.2], List.replicate g.length 0, zerosR g⟩
structure RnOK (g : List (List Int)) (m : Nat) (r : Rn) : Prop where
  w : WOK g r.s
  ps : r.ps.length = m + 1
  vs : r.vs.length = g.length
  us : r.us.length = g.length
  row : ∀ i (h : i < r.us.length) (h' : i < g.length), r.us[i].length = g[i].length
  vb : ∀ x, x ∈ r.vs -> 0 ≤ x /\ x ≤ m
  ub : ∀ l, l ∈ r.us -> ∀ x, x ∈ l -> 0 ≤ x /\ x ≤ m
theorem bump_length (l : List Int) (i : Nat) : (bump l i).length = l.length := by simp [bump]
theorem bump_mem {l : List Int} {i m : Nat} (h : ∀ x, x ∈ l -> 0 ≤ x /\ x ≤ (m : Int)) : ∀ x, x ∈ bump l i -> 0 ≤ x /\ x ≤ ((m + 1 : Nat) : Int) := by
  intro x hx
  unfold bump at hx
  rcases List.mem_or_eq_of_mem_set hx with hx | rfl
  · have := h x hx; omega
  · by_cases hi : i < l.length
    · rw [getD_getI hi]
      have := h _ (List.getElem_mem hi)
      omega
    · rw [show l.getD i 0 = 0 by simp [List.getD, List.getElem?_eq_none (by omega : l.length ≤ i)]]
      omega
theorem RnOK.step {g : List (List Int)} {m : Nat} {r : Rn} (R : RnOK g m r) {s' : St} (hs : stepP g r.s = some s') : RnOK g (m + 1) ⟨s', r.ps ++ [s'.2], bump r.vs s'.2.toNat, r.us.set r.s.2.toNat (bump (r.us.getD r.s.2.toNat []) (s'.1.getD r.s.2.toNat 0).toNat)⟩ := by
  have hp : r.s.2.toNat < r.us.length := by rw [R.us]; have := R.w.hi; have := R.w.lo; omega
  refine ⟨R.w.step hs, by simp [R.ps], by simp [bump_length, R.vs], by simp [R.us], fun i a b => ?_, bump_mem R.vb, fun l hl => ?_⟩
  · simp only [List.length_set] at a
    simp only [List.getElem_set]
    split
    · rename_i e
      subst e
      rw [bump_length, getD_get hp]
      exact R.row _ a b
    · exact R.row i a b
  · rcases List.mem_or_eq_of_mem_set hl with hl | rfl
    · exact fun x hx => by have := R.ub l hl x hx; omega
    · rw [getD_get hp]
      exact bump_mem (R.ub _ (List.getElem_mem hp))
theorem go0_ok {g : List (List Int)} {s : St} (W : WOK g s) : RnOK g 0 (go0 g s) := by
  refine ⟨W, rfl, by simp [go0], by simp [go0, zerosR], fun i a b => by simp [go0, zerosR], fun x hx => ?_, fun l hl x hx => ?_⟩
  · simp only [go0, List.mem_replicate] at hx
    omega
  · simp only [go0, zerosR, List.mem_map] at hl
    obtain ⟨l', _, rfl⟩ := hl
    simp only [List.mem_replicate] at hx
    omega
theorem k_waGo {S S' : Nat -> Prop} {h : Heap} {g w : Sl} {xss : List (List Int)} {rs : List Int} (G : RdR S h g xss) (H : RdI S' h w rs) (p n : Int) (W : WOK xss (rs, p)) (hn0 : 0 ≤ n) (hn1 : n ≤ 2000) (K : Value -> Heap -> Prop)
    (HN : goP xss n.toNat (go0 xss (rs, p)) = none -> ∀ h', Fr No h h' -> K (.tuple #[.agg #[nilSl.v, VI 0, nilSl.v, nilSl.v, nilSl.v], VB false]) h')
    (HS : ∀ r, goP xss n.toNat (go0 xss (rs, p)) = some r -> RnOK xss n.toNat r -> ∀ e ps vs us h', RdI (fun _ => True) h' e r.s.1 -> RdI (fun k => h.size ≤ k) h' ps r.ps -> RdI (fun k => h.size ≤ k) h' vs r.vs -> RdR (fun k => h.size ≤ k) h' us r.us -> Fr No h h' -> K (.tuple #[.agg #[e.v, VI r.s.2, ps.v, vs.v, us.v], VB true]) h') :
    callM Tryz.prog 106 #[.agg #[g.v], .agg #[w.v, VI p], VI n] h K := by
  refine v106 g w p n h K fun b1 b2 b3 h3 hb1 hb2 hb3 f3 hL3 => ?_
  have f3 := f3.in_nil
  have l3 : b3 < h3.size := hL3.head.lt
  have l2 : b2 < h3.size := hL3.tail.head.lt
  have l1 : b1 < h3.size := hL3.tail.tail.head.lt
  have z3 := f3.size
  have hgl := graph_len W.graph
  have hgt := graph_tot W.graph
  have lit : ∀ {h1 : Heap} {K : Value -> Heap -> Prop}, (∀ t h2, OwI h2 (Iv h1.size h2.size) t [p] -> Fr No h1 h2 -> K t.v h2) -> eop Tryz.prog (Instr.buildSlice tIs 1 #[(0, VI p)]) h1 K := fun HK => eop_lit rIs (fun k => _ ≤ k) (fun _ h => h) 1 (by omega) [VI p] rfl rfl fun t h2 n2 c2 o2 f2 m2 _ => HK t h2 (Ow.toIv o2) f2
  have mk : ∀ {h1 : Heap} {K : Value -> Heap -> Prop}, (∀ t h2, OwI h2 (Iv h1.size h2.size) t (List.replicate xss.length 0) -> Fr No h1 h2 -> K t.v h2) -> eop Tryz.prog (Instr.makeSlice tIs (VI (g.n : Int)) (VI (g.n : Int))) h1 K := fun HK => eop_make rIs (fun k => _ ≤ k) (fun _ h => h) .i64 .i64 g.n g.n (Nat.le_refl _) (by rw [G.len]; omega) fun t h2 n2 c2 o2 f2 m2 _ => HK t h2 (Ow.toIv (by
    have e : (List.replicate g.n [VI 0]).flatten = (List.replicate xss.length (0 : Int)).map VI := by rw [G.len]; simp [List.flatten_replicate_singleton]
    rw [e] at o2; exact o2)) f2
  refine ⟨fun b x1 x2 x3 x4 x5 h' => x1 = w /\ x2 = p /\ x5 = nilSl /\ ∃ i1 j1 i2 j2, OwI h' (Iv i1 j1) x3 [p] /\ OwI h' (Iv i2 j2) x4 (List.replicate xss.length 0) /\ (j1 ≤ i2 ∨ j2 ≤ i1) /\ (b < i1 ∨ j1 ≤ b) /\ (b < i2 ∨ j2 ≤ b) /\ h3.size ≤ i1 /\ h3.size ≤ i2 /\ h3.size ≤ b /\ j1 ≤ h'.size /\ j2 ≤ h'.size /\ Fr No h3 h', ⟨?_, ?_, ?_⟩, ?_⟩
  · refine lit fun t h4 o4 f4 => ⟨t, rfl, hL3.of_no f4, ?_⟩
    have z4 := f4.size
    have hL4 := hL3.of_no f4
    refine ⟨mk fun u h5 o5 f5 => ⟨u, rfl, hL4.of_no f5, fun b5 h6 hb5 f6 hL6 h7 f7 hL7 => ?_⟩, fun b6 h8 hb6 f8 hL8 => mk fun u h9 o9 f9 => ⟨u, rfl, hL8.of_no f9, fun h10 f10 hL10 => ?_⟩⟩
    · have f6 := f6.in_nil
      have z5 := f5.size
      have z6 := f6.size
      have lb := hL6.head.lt
      have f7 := f7.inIv (lo := h5.size) (hi := h6.size) ⟨⟨hb5, lb⟩, trivial⟩
      have z7 := f7.size
      exact ⟨rfl, rfl, rfl, h3.size, h4.size, h4.size, h5.size, ((Ow.no o4 f5).no f6).iv f7 (by omega), (Ow.no o5 f6).iv f7 (by omega), by omega, by omega, by omega, by omega, by omega, by omega, by omega, by omega, ((f4.no_trans f5).no_trans f6).ivFresh f7 (by omega)⟩
    · have f8 := f8.in_nil
      have z8 := f8.size
      have z9 := f9.size
      have lb := hL8.head.lt
      have f10 := f10.inIv (lo := h4.size) (hi := h8.size) ⟨⟨hb6, lb⟩, trivial⟩
      have z10 := f10.size
      exact ⟨rfl, rfl, rfl, h3.size, h4.size, h8.size, h9.size, ((Ow.no o4 f8).no f9).iv f10 (by omega), Ow.iv o9 f10 (by omega), by omega, by omega, by omega, by omega, by omega, by omega, by omega, by omega, ((f4.no_trans f8).no_trans f9).ivFresh f10 (by omega)⟩
  · refine mk fun u h4 o4 f4 => ⟨u, rfl, hL3.of_no f4, ?_⟩
    have z4 := f4.size
    have hL4 := hL3.of_no f4
    refine ⟨lit fun t h5 o5 f5 => ⟨t, rfl, hL4.of_no f5, fun b5 h6 hb5 f6 hL6 h7 f7 hL7 => ?_⟩, fun b6 h8 hb6 f8 hL8 => lit fun t h9 o9 f9 => ⟨t, rfl, hL8.of_no f9, fun h10 f10 hL10 => ?_⟩⟩
    · have f6 := f6.in_nil
      have z5 := f5.size
      have z6 := f6.size
      have lb := hL6.head.lt
      have f7 := f7.inIv (lo := h5.size) (hi := h6.size) ⟨⟨hb5, lb⟩, trivial⟩
      have z7 := f7.size
      exact ⟨rfl, rfl, rfl, h4.size, h5.size, h3.size, h4.size, (Ow.no o5 f6).iv f7 (by omega), ((Ow.no o4 f5).no f6).iv f7 (by omega), by omega, by omega, by omega, by omega, by omega, by omega, by omega, by omega, ((f4.no_trans f5).no_trans f6).ivFresh f7 (by omega)⟩
    · have f8 := f8.in_nil
      have z8 := f8.size
      have z9 := f9.size
      have lb := hL8.head.lt
      have f10 := f10.inIv (lo := h4.size) (hi := h8.size) ⟨⟨hb6, lb⟩, trivial⟩
      have z10 := f10.size
      exact ⟨rfl, rfl, rfl, h8.size, h9.size, h3.size, h4.size, Ow.iv o9 f10 (by omega), ((Ow.no o4 f8).no f9).iv f10 (by omega), by omega, by omega, by omega, by omega, by omega, by omega, by omega, by omega, ((f4.no_trans f8).no_trans f9).ivFresh f10 (by omega)⟩
  · intro b9 h4 hb9 f4 hL4
    have f4 := f4.in_nil
    have z4 := f4.size
    have lb := hL4.head.lt
    refine ⟨lit fun t h5 o5 f5 => ⟨t, rfl, hL4.of_no f5, mk fun u h6 o6 f6 => ⟨u, rfl, (hL4.of_no f5).of_no f6, fun h7 f7 hL7 => ?_⟩⟩, mk fun u h5 o5 f5 => ⟨u, rfl, hL4.of_no f5, lit fun t h6 o6 f6 => ⟨t, rfl, (hL4.of_no f5).of_no f6, fun h7 f7 hL7 => ?_⟩⟩⟩
    · have z5 := f5.size
      have z6 := f6.size
      have f7 := f7.inIv (lo := h3.size) (hi := h4.size) ⟨⟨hb9, lb⟩, trivial⟩
      have z7 := f7.size
      exact ⟨rfl, rfl, rfl, h4.size, h5.size, h5.size, h6.size, (Ow.no o5 f6).iv f7 (by omega), Ow.iv o6 f7 (by omega), by omega, by omega, by omega, by omega, by omega, by omega, by omega, by omega, ((f4.no_trans f5).no_trans f6).ivFresh f7 (by omega)⟩
    · have z5 := f5.size
      have z6 := f6.size
      have f7 := f7.inIv (lo := h3.size) (hi := h4.size) ⟨⟨hb9, lb⟩, trivial⟩
      have z7 := f7.size
      exact ⟨rfl, rfl, rfl, h5.size, h6.size, h4.size, h5.size, Ow.iv o6 f7 (by omega), (Ow.no o5 f6).iv f7 (by omega), by omega, by omega, by omega, by omega, by omega, by omega, by omega, by omega, ((f4.no_trans f5).no_trans f6).ivFresh f7 (by omega)⟩
  rintro b4 x1 x2 ps0 vs0 x5 h25 ⟨rfl, rfl, rfl, i1, j1, i2, j2, o1, o2, d12, d1, d2, e1, e2, e3, e4, e5, f25⟩ hL25
  have f025 := f3.no_trans f25
  have z25 := f25.size
  have lb4 : b4 < h25.size := hL25.head.lt
  refine ⟨fun m i x6 x7 x8 x9 x10 h' => x6 = x1 /\ x7 = x2 /\ x8 = ps0 /\ x9 = vs0 /\ 0 ≤ i /\ i + m = (xss.length : Int) /\ OwX h' (fun k => h25.size ≤ k) x10 (zerosR (xss.take i.toNat)) /\ Fr (Iv b4 (b4 + 1)) h25 h' /\ h25.size ≤ h'.size, ⟨xss.length, rfl, rfl, rfl, rfl, by omega, by omega, by simpa [zerosR] using OwR.nil _ _ _ _, Fr.refl _ _, Nat.le_refl _⟩, ?_⟩
  rintro m i x6 x7 x8 x9 x10 h26 ⟨rfl, rfl, rfl, rfl, i0, im, o10, f26, z26⟩ hL26
  have f026 : Fr No h h26 := f025.ivFresh f26 (by omega)
  refine ⟨fun e => ?_, fun e => ?_⟩
  · have hi := G.lt e
    obtain ⟨si, c1, c2⟩ := (G.no f026).get i0 hi
    have hsi := (graph_mem W.graph (List.getElem_mem (show i.toNat < xss.length by omega))).1
    refine ⟨(G.no f026).inb i0 hi, si, c1, ?_⟩
    refine eop_make rIs (fun k => h26.size ≤ k) (fun _ h => h) .i64 .i64 si.n si.n (Nat.le_refl _) (by have := c2.len; omega) fun t h27 n27 c27 o27 f27 m27 _ => ⟨t, rfl, hL26.of_no f27, ?_⟩
    have o27 : OwI h27 (fun k => h26.size ≤ k) t (List.replicate (xss[i.toNat]'(by omega)).length 0) := by
      have e : (List.replicate si.n [VI 0]).flatten = (List.replicate (xss[i.toNat]'(by omega)).length (0 : Int)).map VI := by rw [c2.len]; simp [List.flatten_replicate_singleton]
      rw [e] at o27; exact o27
    refine eop_lit rIss (fun k => h27.size ≤ k) (fun _ h => h) 1 (by omega) [t.v] rfl rfl fun u h28 n28 c28 o28 f28 m28 _ => ⟨u, rfl, (hL26.of_no f27).of_no f28, ?_⟩
    have z27 := f27.size
    have z28 := f28.size
    refine OwR.snoc rIss ((o10.toIv.no f27).no f28) (F' := fun k => h25.size ≤ k) (fun k _ hk => hk.1) (fun k hk => by omega) ((Ow.no o27 f28).mono fun k _ hk => Nat.le_trans z26 hk) (fun k hk hk2 => by have := (o27.foot hk).1; have := hk2.2; omega) o28.rd (by simp [zerosR]; omega) fun y h29 o29 f29 => ⟨y, rfl, ((hL26.of_no f27).of_no f28).iv f29 ⟨.inl lb4, .inl (by omega), .inl (by omega), .inl (by omega), trivial⟩, fun h30 f30 hL30 => ?_⟩
    have z29 := f29.size
    have f30 := f30.inIv (lo := b4) (hi := b4 + 1) ⟨⟨Nat.le_refl _, Nat.lt_succ_self _⟩, trivial⟩
    have z30 := f30.size
    rw [G.succ i0 hi]
    refine ⟨m - 1, by omega, rfl, rfl, rfl, rfl, by omega, by omega, ?_, ?_, by omega⟩
    · rw [take_snoc xss i0 hi]
      have : zerosR (xss.take i.toNat ++ [xss[i.toNat]'(by omega)]) = zerosR (xss.take i.toNat) ++ [List.replicate (xss[i.toNat]'(by omega)).length 0] := by simp only [zerosR, List.map_append, List.map_cons, List.map_nil]
      rw [this]
      exact (o29.toIv.iv f30 (.inr (by omega))).mono fun k _ hk => hk.1
    · exact (f26.fresh2 (f27.no_trans f28).of_no (fun k (hk : Iv h25.size h26.size k) => hk.1)).fresh2 f29 (fun k hk => hk.1) |>.trans f30
  have hi := G.ge e
  rw [List.take_of_length_le (by omega)] at o10
  -- the rounds
  generalize hR : goP xss n.toNat (go0 xss (rs, x7)) = R at HN HS
  have o1' := Ow.iv o1 f26 (by omega)
  have o2' := Ow.iv o2 f26 (by omega)
  refine ⟨fun q n2 x11 x12 x13 x14 x15 h' => ∃ (r : Rn) (m : Nat) (E : Nat -> Prop), RnOK xss m r /\ n2 = q /\ m + q = n.toNat /\ x12 = r.s.2 /\ x14 = x9 /\ x15 = x10 /\ RdI E h' x11 r.s.1 /\ (∀ k, E k -> (k < h.size ∨ h26.size ≤ k) /\ k < h'.size /\ ¬ x13.own k) /\ OwI h' (fun k => h3.size ≤ k) x13 r.ps /\ (∀ k, x13.own k -> Iv i1 j1 k ∨ h26.size ≤ k) /\ OwI h' (Iv i2 j2) x9 r.vs /\ OwX h' (Iv h25.size h26.size) x10 r.us /\ Fr No h h' /\ h26.size ≤ h'.size /\ R = goP xss q r,
    ⟨n.toNat, go0 xss (rs, x7), 0, fun k => k < h.size, go0_ok W, by omega, by omega, rfl, rfl, rfl, H.low.no f026, fun k hk => ⟨.inl hk, by have := f026.size; omega, fun hk2 => by have := (o1'.foot hk2).1.1; omega⟩, o1'.mono fun k _ hk => by have := hk.1; omega, fun k hk => .inl (o1'.foot hk).1, o2', o10.toIv, f026, Nat.le_refl _, hR.symm⟩, ?_⟩
  rintro q n2 x11 x12 x13 x14 x15 h31 ⟨r, m', E, ok, rfl, hm, rfl, rfl, rfl, rE, hE, oP, hP, oV, oU, f31, z31, eq⟩ hL31
  refine ⟨fun e => ?_, fun e => ?_⟩
  · simp only [decide_eq_true_eq] at e
    obtain ⟨q, rfl⟩ : ∃ q', q = q' + 1 := ⟨q - 1, by omega⟩
    rw [goP] at eq
    refine k_waStep (G.no f31) rE ok.w _ (fun hs h32 f32 => ⟨x11, r.s.2, false, rfl, hL31.of_no f32, fun _ b10 h35 hb10 f35 hL35 => ?_, fun e => by simp at e⟩) fun s' hs t h32 o32 f32 => ⟨t, s'.2, true, rfl, hL31.of_no f32, fun e => by simp at e, fun _ => ?_⟩
    · rw [hs] at eq
      have f35 := f35.inIv (lo := h.size) (hi := h3.size) ⟨⟨hb3, l3⟩, trivial⟩
      exact HN eq h35 ((f31.no_trans f32).ivFresh f35 (Nat.le_refl _))
    · rw [hs] at eq
      simp only at eq
      have z32 := f32.size
      have hp : r.s.2.toNat < r.us.length := by rw [ok.us]; have := ok.w.hi; have := ok.w.lo; omega
      have hlo := ok.w.lo
      have W' := ok.w.step hs
      have hlo' := W'.lo
      have hhi' := W'.hi
      have hgl' := ok.us
      have oP2 := Ow.no oP f32
      have oV2 := Ow.no oV f32
      have oU2 := oU.no f32
      have f032 := f31.no_trans f32
      refine ⟨oU2.rd.inb hlo (by omega), fun b10 h34 hb10 f34 hL34 => ?_⟩
      have f34 := f34.in_nil
      have z34 := f34.size
      have oP4 := Ow.no oP2 f34
      have oV4 := Ow.no oV2 f34
      have oU4 := oU2.no f34
      have oT4 := Ow.no o32 f34
      obtain ⟨si, d1', d2', d3'⟩ := oU4.inner hlo (by omega)
      have hrow : (r.us[r.s.2.toNat]'hp).length = (xss[r.s.2.toNat]'(by omega)).length := ok.row _ hp (by omega)
      have hsl : si.n = (r.us[r.s.2.toNat]'hp).length := RdI.len d2'.rdF
      have hTl : r.s.2.toNat < s'.1.length := by rw [W'.len]; omega
      have hrot := W'.rot _ hTl (by omega)
      have hne : (xss[r.s.2.toNat]'(by omega)).length ≠ 0 := fun h0 => by rw [stepP_none ok.w (by omega) h0] at hs; cases hs
      have hr0 : 0 ≤ s'.1[r.s.2.toNat]'hTl := hrot.1
      have hr1 : s'.1[r.s.2.toNat]'hTl < ((r.us[r.s.2.toNat]'hp).length : Int) := by omega
      have RT : RdI (Iv h31.size h32.size) h34 t s'.1 := oT4.rdI
      have RU : RdI (Iv h25.size h26.size) h34 si (r.us[r.s.2.toNat]'hp) := d2'.rdI
      have hub := ok.ub _ (List.getElem_mem hp) _ (List.getElem_mem (show (s'.1[r.s.2.toNat]'hTl).toNat < (r.us[r.s.2.toNat]'hp).length by omega))
      have hwu : w64 ((r.us[r.s.2.toNat]'hp)[(s'.1[r.s.2.toNat]'hTl).toNat]'(by omega) + 1) = (r.us[r.s.2.toNat]'hp)[(s'.1[r.s.2.toNat]'hTl).toNat]'(by omega) + 1 := w64_eq _ (by omega) (by omega)
      refine ⟨si, d1', RT.inb hlo (by omega), _, RT.get hlo (by omega), RU.inb hr0 hr1, _, RU.get hr0 hr1, RU.inb hr0 hr1, ?_⟩
      rw [hwu]
      obtain ⟨w1, w2, w3⟩ := d2'.store1 hr0 (by omega) (VI ((r.us[r.s.2.toNat]'hp)[(s'.1[r.s.2.toNat]'hTl).toNat]'(by omega) + 1))
      have w3' : Fr (Iv h25.size h26.size) h34 _ := w3.mono fun k _ hk => (d2'.foot hk).1
      have hL36 := hL34.iv w3' ⟨.inr (by omega), .inl lb4, .inl (by omega), .inl (by omega), .inl (by omega), trivial⟩
      refine ⟨w1, hL36, fun h36 e36 _ => ?_⟩
      subst e36
      rw [← List.map_set] at w2
      have oU6 := d3' _ _ w3 w2
      have oV6 := Ow.iv oV4 w3' (by omega)
      have hvl := ok.vs
      have hV : s'.2.toNat < r.vs.length := by omega
      have RV : RdI (Iv i2 j2) _ x14 r.vs := oV6.rdI
      have hvb := ok.vb _ (List.getElem_mem hV)
      have hwv : w64 ((r.vs[s'.2.toNat]'hV) + 1) = (r.vs[s'.2.toNat]'hV) + 1 := w64_eq _ (by omega) (by omega)
      refine ⟨RV.inb hlo' (by omega), _, RV.get hlo' (by omega), RV.inb hlo' (by omega), ?_⟩
      rw [hwv]
      have hvn : x14.n = r.vs.length := RdI.len RV
      obtain ⟨y1, y2, y3⟩ := oV6.store1 hlo' (by omega) (VI ((r.vs[s'.2.toNat]'hV) + 1))
      have y3' : Fr (Iv i2 j2) _ _ := y3.mono fun k _ hk => (oV6.foot hk).1
      have hL37 := hL36.iv y3' ⟨.inr (by omega), (by have h1 := d2; exact h1.elim .inl .inr), .inl (by omega), .inl (by omega), .inl (by omega), trivial⟩
      refine ⟨y1, hL37, fun h37 e37 _ => ?_⟩
      subst e37
      rw [← List.map_set] at y2
      have z36 := w3'.size
      have z37 := y3'.size
      have offU : ∀ k, x13.own k -> ¬ Iv h25.size h26.size k := fun k hk hk2 => by
        have h1 := hk2.1
        have h2 := hk2.2
        rcases hP k hk with h3 | h3
        · have := h3.2; omega
        · omega
      have offV : ∀ k, x13.own k -> ¬ Iv i2 j2 k := fun k hk hk2 => by
        have h1 := hk2.1
        have h2 := hk2.2
        rcases hP k hk with h3 | h3
        · have := h3.1; have := h3.2; omega
        · omega
      have oP7 := (Ow.fr oP4 w3' offU).fr y3' offV
      refine eop_lit rIs (fun k => _ ≤ k) (fun _ h => h) 1 (by omega) [VI s'.2] rfl rfl fun v h38 n38 c38 o38 f38 m38 _ => ⟨v, rfl, hL37.of_no f38, ?_⟩
      have z38 := f38.size
      have o38 : RdI v.own h38 v [s'.2] := o38.rd
      have hpn : x13.n = r.ps.length := RdI.len oP7.rdF
      have hvn1 : v.n = 1 := o38.len
      refine eop_append rIs (oP7.no f38) (fun k hk => by omega) o38 (plainVI _) (by have := ok.ps; omega) fun y h39 n39 o39 f39 d39 => ?_
      have z39 := f39.size
      have hL39 := (hL37.of_no f38).fr f39 fun p hp hk => by
        have h1 := (oP.foot hk).2
        have h2 := (oP.foot hk).1
        simp only [List.mem_cons, List.not_mem_nil, or_false] at hp
        rcases hp with rfl | rfl | rfl | rfl | rfl <;> simp only at h1 h2 hk
        · omega
        · rcases hP _ hk with h3 | h3
          · have := h3.1; have := h3.2; omega
          · omega
        · omega
        · omega
        · omega
      refine ⟨y, rfl, hL39, fun h41 f41 hL41 => ?_⟩
      have f41 := f41.inIv (lo := b4) (hi := b4 + 1) ⟨⟨Nat.le_refl _, Nat.lt_succ_self _⟩, ⟨Nat.le_refl _, Nat.lt_succ_self _⟩, trivial⟩
      have z41 := f41.size
      have hb4 : ∀ k, x13.own k -> ¬ k = b4 := fun k hk e => by
        subst e
        rcases hP _ hk with h3 | h3
        · have := h3.1; have := h3.2; omega
        · omega
      rw [w64_eq _ (by omega) (by omega)]
      rw [← List.map_append] at o39
      have eV : r.vs.set s'.2.toNat ((r.vs[s'.2.toNat]'hV) + 1) = bump r.vs s'.2.toNat := by unfold bump; rw [getD_getI hV]
      have eU : (r.us[r.s.2.toNat]'hp).set (s'.1[r.s.2.toNat]'hTl).toNat ((r.us[r.s.2.toNat]'hp)[(s'.1[r.s.2.toNat]'hTl).toNat]'(by omega) + 1) = bump (r.us.getD r.s.2.toNat []) (s'.1.getD r.s.2.toNat 0).toNat := by unfold bump; rw [getD_get hp, getD_getI hTl, getD_getI (by omega)]
      rw [eV] at y2
      rw [eU] at oU6
      have offE : ∀ k, x13.own k -> ¬ Iv h31.size h32.size k := fun k hk hk2 => by have := (oP.foot hk).2; have := hk2.1; omega
      refine ⟨q, by omega, _, m' + 1, Iv h31.size h32.size, ok.step hs, by omega, by omega, rfl, rfl, rfl, ?_, fun k hk => ⟨.inr (by have := hk.1; omega), by have := hk.2; omega, fun hk2 => ?_⟩, ?_, fun k hk => ?_, ?_, ?_, ?_, by omega, eq⟩
      · exact (((((oT4.iv w3' (by omega)).iv y3' (by omega)).no f38).fr f39 fun k hk hk2 => offE k hk2 (oT4.foot hk).1).iv f41 (by omega)).rdI
      · rcases d39 k hk2 with h1 | h1
        · exact offE k h1 hk
        · have := hk.2; omega
      · exact Ow.fr o39 f41 fun k hk hk2 => by
          have h1 := hk2.1
          have h2 := hk2.2
          rcases d39 k hk with h3 | h3
          · exact hb4 k h3 (by omega)
          · omega
      · rcases d39 k hk with h1 | h1
        · exact hP k h1
        · exact .inr (by omega)
      · exact ((Ow.no y2 f38).fr f39 fun k hk hk2 => offV k hk2 (y2.foot hk).1).iv f41 (by omega)
      · exact (((oU6.iv y3' (by omega)).no f38).fr f39 fun k _ hk hk2 => offU k hk2 hk).iv f41 (by omega)
      · exact ((((((f032.no_trans f34).ivFresh w3' (by omega)).ivFresh y3' (by omega)).no_trans f38).fresh f39 fun k hk => by have := (oP.foot hk).1; omega).ivFresh f41 (by omega))
  · simp only [decide_eq_false_iff_not] at e
    obtain rfl : q = 0 := by omega
    rw [goP] at eq
    intro h42 f42 hL42
    have f42 := f42.inIv (lo := h.size) (hi := h3.size) ⟨⟨hb3, l3⟩, trivial⟩
    have em : m' = n.toNat := by omega
    subst em
    refine HS r eq ok x11 x13 x14 x15 h42 ?_ ?_ ?_ ?_ (f31.ivFresh f42 (Nat.le_refl _))
    · exact (RdI.fr rE f42 fun k hk hk2 => by have := (hE k hk).1; have := hk2.1; have := hk2.2; omega).mono fun _ _ => trivial
    · exact (RdI.fr oP.rd f42 fun k hk hk2 => by
        have h1 := hk2.1
        have h2 := hk2.2
        rcases hP k hk with h3 | h3
        · have := h3.1; omega
        · omega).mono fun k hk => by have := (oP.foot hk).1; omega
    · exact (RdI.iv oV.rdI f42 (by omega)).mono fun k hk => by have := hk.1; omega
    · exact (RdR.iv oU.rdI f42 (by omega)).mono fun k hk => by have := hk.1; omega
def nextR (r : Rn) (s' : St) : Rn := ⟨s', r.ps ++ [s'.2], bump r.vs s'.2.toNat, r.us.set r.s.2.toNat (bump (r.us.getD r.s.2.toNat []) (s'.1.getD r.s.2.toNat 0).toNat)⟩
theorem go_run {τ : Type} (g : List (List Int)) (f : Rn -> τ) (upd : τ -> St -> St -> τ) (hf : ∀ r s', f (nextR r s') = upd (f r) r.s s') : ∀ (n : Nat) (r : Rn), runT g upd n (f r) r.s = (goP g n r).map fun r => (f r, r.s)
  | 0, r => by simp [runT, goP]
  | n + 1, r => by
    rw [runT, goP]
    cases stepP g r.s with
    | none => rfl
    | some s' =>
      show runT g upd n (upd (f r) r.s s') s' = (goP g n (nextR r s')).map _
      rw [← go_run g f upd hf n (nextR r s'), hf]
      rfl
def passU (t : List Int) (_ s' : St) : List Int := t ++ [s'.2]
def passP (g : List (List Int)) (rs : List Int) (p n : Int) : List Int × Bool :=
  if walkB g rs p && inR 0 200 n then match runT g passU n.toNat [p] (rs, p) with
    | none => ([], false)
    | some (t, _) => (t, true)
  else ([], false)
def visU (t : List Int) (_ s' : St) : List Int := bump t s'.2.toNat
def visP (g : List (List Int)) (rs : List Int) (p n : Int) : List Int × Bool :=
  if walkB g rs p && inR 0 2000 n then match runT g visU n.toNat (List.replicate g.length 0) (rs, p) with
    | none => ([], false)
    | some (t, _) => (t, true)
  else ([], false)
def useU (t : List (List Int)) (s s' : St) : List (List Int) := t.set s.2.toNat (bump (t.getD s.2.toNat []) (s'.1.getD s.2.toNat 0).toNat)
def useP (g : List (List Int)) (rs : List Int) (p n : Int) : List (List Int) × Bool :=
  if walkB g rs p && inR 0 2000 n then match runT g useU n.toNat (zerosR g) (rs, p) with
    | none => ([], false)
    | some (t, _) => (t, true)
  else ([], false)
theorem eop_putI {L : List (Nat × List Value)} {F : Nat -> Prop} {h : Heap} {o : Sl} {xs : List Int} {x : Int} (O : OwI h F o xs) (hF : ∀ k, h.size ≤ k -> F k) (hL : Vars h L) (hoff : ∀ p, p ∈ L -> ¬ F p.1) (hb : xs.length ≤ 1000000) (R : Sl -> Heap -> Prop) (HR : ∀ t h', OwI h' F t (xs ++ [x]) -> Fr F h h' -> Vars h' L -> R t h') : eop Tryz.prog (Instr.buildSlice tIs 1 #[(0, VI x)]) h fun rv h1 => ∃ t : Sl, rv = t.v /\ Vars h1 L /\ eop Tryz.prog (appS tIs tIs tIs o.v t.v) h1 fun rv2 h2 => ∃ t2 : Sl, rv2 = t2.v /\ Vars h2 L /\ R t2 h2 := by
  refine eop_lit rIs (fun k => h.size ≤ k) (fun _ h => h) 1 (by omega) [VI x] rfl rfl fun t h1 n1 c1 o1 f1 m1 _ => ⟨t, rfl, hL.of_no f1, ?_⟩
  have z1 := f1.size
  have O1 : OwI h1 F o xs := Ow.no O f1
  have on := O1.rd.len
  have tn := o1.rd.len
  simp only [List.length_map, Nat.mul_one, List.length_cons, List.length_nil] at on tn
  refine eop_append rIs O1 (fun k hk => hF k (by omega)) o1.rd (plainVI [x]) (by omega) fun s' h2 n2 o2 f2 d2 => ?_
  have g2 : Fr F h1 h2 := f2.mono fun k _ hk => (O1.foot hk).1
  have V2 : Vars h2 L := (hL.of_no f1).fr g2 hoff
  exact ⟨s', rfl, V2, HR s' h2 (by rw [OwI, List.map_append]; exact o2) (f1.of_no.trans g2) V2⟩
theorem k_IndexI {S : Nat -> Prop} {h : Heap} {s : Sl} {xs : List Int} (H : RdI S h s xs) (v : Int) (K : Value -> Heap -> Prop) (HN : v ∉ xs -> K (VI (-1)) h) (HS : ∀ i : Nat, i < xs.length -> xs.getD i 0 = v -> (∀ j, j < i -> xs.getD j 0 ≠ v) -> K (VI i) h) : callM Tryz.prog 115 #[s.v, VI v] h K := by
  refine v115 s v h K ⟨fun n i h' => h' = h /\ 0 ≤ i /\ i + n = (xs.length : Int) /\ ∀ j : Nat, (j : Int) < i -> xs.getD j 0 ≠ v, ⟨xs.length, rfl, by omega, by omega, fun j hj => by omega⟩, ?_⟩
  rintro n i _ ⟨rfl, i0, i1, i2⟩ hL
  refine ⟨fun e => ?_, fun e => ?_⟩
  · have hi := H.lt e
    refine ⟨H.inb i0 hi, _, H.get i0 hi, fun e => ?_, fun e => ?_⟩
    · simp only [decide_eq_true_eq] at e
      have := HS i.toNat (by omega) (by rw [getD_getI (by omega)]; exact e.symm) fun j hj => i2 j (by omega)
      rwa [show ((i.toNat : Nat) : Int) = i by omega] at this
    · simp only [decide_eq_false_iff_not] at e
      rw [H.succ i0 hi]
      refine ⟨n - 1, by omega, rfl, by omega, by omega, fun j hj => ?_⟩
      by_cases hj2 : (j : Int) < i
      · exact i2 j hj2
      · have : j = i.toNat := by omega
        subst this
        rw [getD_getI (by omega)]
        exact fun h => e h.symm
  · have hi := H.ge e
    refine HN fun hm => ?_
    obtain ⟨j, hj, e2⟩ := List.getElem_of_mem hm
    exact i2 j (by omega) (by rw [getD_getI hj]; exact e2)
theorem k_ContainsI {S : Nat -> Prop} {h : Heap} {s : Sl} {xs : List Int} (H : RdI S h s xs) (v : Int) (K : Value -> Heap -> Prop) (HK : K (VB (decide (v ∈ xs))) h) : callM Tryz.prog 139 #[s.v, VI v] h K := by
  refine v139 s v h K (k_IndexI H v _ (fun hn => ⟨_, rfl, .nil, ?_⟩) fun i hi e _ => ⟨_, rfl, .nil, ?_⟩)
  · rw [decide_eq_false hn] at HK
    exact HK
  · rw [decide_eq_true (by rw [← e, getD_getI hi]; exact List.getElem_mem _)] at HK
    rw [decide_eq_true (by omega)]
    exact HK
theorem php : ∀ (N : Nat) (f : Nat -> Nat), (∀ i, i ≤ N -> f i < N) -> ∃ i j, i < j /\ j ≤ N /\ f i = f j
  | 0, f, h => by have := h 0 (Nat.le_refl _); omega
  | N + 1, f, h => by
    by_cases hx : ∃ i, i ≤ N /\ f i = f (N + 1)
    · obtain ⟨i, h1, h2⟩ := hx
      exact ⟨i, N + 1, by omega, Nat.le_refl _, h2⟩
    · have hx : ∀ i, i ≤ N -> f i ≠ f (N + 1) := fun i h1 h2 => hx ⟨i, h1, h2⟩
      obtain ⟨i, j, h1, h2, h3⟩ := php N (fun i => if f i = N then f (N + 1) else f i) fun i hi => by
        have a := h i (by omega)
        have b := h (N + 1) (by omega)
        have c := hx i hi
        (try simp only)
        split <;> omega
      refine ⟨i, j, h1, by omega, ?_⟩
      have a := hx i (by omega)
      have b := hx j h2
      (try simp only at h3)
      split at h3 <;> split at h3 <;> omega
def nx (g : List (List Int)) (rs : List Int) (p : Int) : Int := if p < 0 then -1 else if (g.getD p.toNat []).length = 0 then -1 else (g.getD p.toNat []).getD (rs.getD p.toNat 0).toNat 0
def itx (g : List (List Int)) (rs : List Int) (p : Int) : Nat -> Int
  | 0 => p
  | k + 1 => nx g rs (itx g rs p k)
section
variable {g : List (List Int)} {rs : List Int} {a : Int}
theorem nx_some (W : WOK g (rs, a)) {p : Int} (h0 : 0 ≤ p) (h1 : p < (g.length : Int)) (hne : (g[p.toNat]'(by omega)).length ≠ 0) : ∃ (hr : p.toNat < rs.length) (hm : (rs[p.toNat]).toNat < (g[p.toNat]'(by omega)).length), 0 ≤ rs[p.toNat] /\ nx g rs p = (g[p.toNat]'(by omega))[(rs[p.toNat]).toNat] := by
  have hl : rs.length = g.length := W.len
  have hr : p.toNat < rs.length := by omega
  have h := W.rot p.toNat hr (by omega)
  have h2 : 0 ≤ rs[p.toNat] := h.1
  have h3 : rs[p.toNat] ≤ max (((g[p.toNat]'(by omega)).length : Int) - 1) 0 := h.2
  refine ⟨hr, by omega, h2, ?_⟩
  unfold nx
  rw [if_neg (by omega), getD_get (by omega), if_neg hne, getD_getI hr, getD_getI (by omega)]
theorem nx_none {p : Int} (h0 : 0 ≤ p) (h1 : p < (g.length : Int)) (hne : (g[p.toNat]'(by omega)).length = 0) : nx g rs p = -1 := by
  unfold nx
  rw [if_neg (by omega), getD_get (by omega), if_pos hne]
theorem nx_neg {p : Int} (h : p < 0) : nx g rs p = -1 := by unfold nx; rw [if_pos h]
theorem nx_lt (W : WOK g (rs, a)) {p : Int} (h1 : p < (g.length : Int)) : -1 ≤ nx g rs p /\ nx g rs p < (g.length : Int) := by
  by_cases h0 : p < 0
  · rw [nx_neg h0]; omega
  by_cases hne : (g[p.toNat]'(by omega)).length = 0
  · rw [nx_none (by omega) h1 hne]; omega
  · obtain ⟨hr, hm, h2, e⟩ := nx_some W (by omega) h1 hne
    rw [e]
    have := (graph_mem W.graph (List.getElem_mem (show p.toNat < g.length by omega))).2 _ (List.getElem_mem hm)
    omega
theorem itx_lt (W : WOK g (rs, a)) {p : Int} (h0 : 0 ≤ p) (h1 : p < (g.length : Int)) : ∀ k, -1 ≤ itx g rs p k /\ itx g rs p k < (g.length : Int)
  | 0 => by simp only [itx]; omega
  | k + 1 => by simp only [itx]; exact nx_lt W (itx_lt W h0 h1 k).2
theorem itx_negs {p : Int} {k : Nat} (h : itx g rs p k < 0) : ∀ m, itx g rs p (k + m) < 0
  | 0 => h
  | m + 1 => by
    rw [← Nat.add_assoc, itx, nx_neg (itx_negs h m)]
    omega
theorem itx_neg_mono {p : Int} {k m : Nat} (h : itx g rs p k < 0) (hm : k ≤ m) : itx g rs p m < 0 := by
  have := itx_negs h (m - k)
  rwa [show k + (m - k) = m by omega] at this
theorem itx_shift {p : Int} {i j : Nat} (h : itx g rs p i = itx g rs p j) : ∀ m, itx g rs p (i + m) = itx g rs p (j + m)
  | 0 => h
  | m + 1 => by rw [← Nat.add_assoc, ← Nat.add_assoc, itx, itx, itx_shift h m]
theorem itx_per {p : Int} {i d : Nat} (h : itx g rs p i = itx g rs p (i + d)) (r : Nat) : ∀ c, itx g rs p (i + r + d * c) = itx g rs p (i + r)
  | 0 => rfl
  | c + 1 => by
    have := itx_shift h (r + d * c)
    rw [show i + r + d * (c + 1) = i + d + (r + d * c) by rw [Nat.mul_succ]; omega, ← this, ← Nat.add_assoc]
    exact itx_per h r c
theorem itx_mod {p : Int} {i d : Nat} (h : itx g rs p i = itx g rs p (i + d)) (r : Nat) : itx g rs p (i + r) = itx g rs p (i + r % d) := by
  have := itx_per h (r % d) (r / d)
  rw [Nat.add_assoc, Nat.mod_add_div] at this
  exact this
theorem cyc_mem {p : Int} {i d n : Nat} (h : itx g rs p i = itx g rs p (i + d)) (hd : 1 ≤ d) (hi : i ≤ n) (x : Int) : x ∈ (List.range d).map (fun r => itx g rs p (i + r)) ↔ ∃ k, n ≤ k /\ itx g rs p k = x := by
  simp only [List.mem_map, List.mem_range]
  constructor
  · rintro ⟨r, hr, rfl⟩
    refine ⟨i + r + d * n, ?_, itx_per h r n⟩
    have : 1 * n ≤ d * n := Nat.mul_le_mul_right _ hd
    omega
  · rintro ⟨k, hk, rfl⟩
    refine ⟨(k - i) % d, Nat.mod_lt _ hd, ?_⟩
    rw [← itx_mod h]
    congr 1
    omega
end
noncomputable def uniB (g : List (List Int)) (rs : List Int) (a : Int) : Bool := @decide (∀ p : Nat, p < g.length -> 0 ≤ itx g rs p g.length /\ ∃ k, g.length ≤ k /\ itx g rs p k = a) (Classical.propDecidable _)
theorem uniB_t {g : List (List Int)} {rs : List Int} {a : Int} (h : ∀ p : Nat, p < g.length -> 0 ≤ itx g rs p g.length /\ ∃ k, g.length ≤ k /\ itx g rs p k = a) : uniB g rs a = true := by unfold uniB; exact @decide_eq_true _ (Classical.propDecidable _) h
theorem uniB_f {g : List (List Int)} {rs : List Int} {a : Int} (h : ¬ ∀ p : Nat, p < g.length -> 0 ≤ itx g rs p g.length /\ ∃ k, g.length ≤ k /\ itx g rs p k = a) : uniB g rs a = false := by unfold uniB; exact @decide_eq_false _ (Classical.propDecidable _) h
theorem k_next {S S' : Nat -> Prop} {h : Heap} {g w : Sl} {xss : List (List Int)} {rs : List Int} {a : Int} (G : RdR S h g xss) (H : RdI S' h w rs) (W : WOK xss (rs, a)) {p : Int} (h0 : 0 ≤ p) (h1 : p < (xss.length : Int)) : Ret Tryz.prog 143 #[.agg #[g.v], w.v, VI p] h (VI (nx xss rs p)) := by
  intro K HK
  refine v143 g w p h K ⟨G.inb h0 h1, fun b1 h2 hb1 f2 hL2 => ?_⟩
  have f2 := f2.in_nil
  have G2 := G.no f2
  have H2 := H.no f2
  obtain ⟨si, c1, r1⟩ := G2.get h0 h1
  refine ⟨si, c1, fun e => ?_, fun e => ?_⟩
  · simp only [decide_eq_true_eq] at e
    rw [nx_none h0 h1 (by have := r1.len; omega)] at HK
    exact HK h2 f2
  · simp only [decide_eq_false_iff_not] at e
    obtain ⟨hr, hm, e2, e3⟩ := nx_some W h0 h1 (by have := r1.len; omega)
    rw [e3] at HK
    exact ⟨G2.inb h0 h1, si, c1, H2.inb h0 (by omega), _, H2.get h0 (by omega), r1.inb e2 (by omega), _, r1.get e2 (by omega), HK h2 f2⟩
theorem k_cycleFrom {S S' : Nat -> Prop} {h : Heap} {g w : Sl} {xss : List (List Int)} {rs : List Int} {a : Int} (G : RdR S h g xss) (H : RdI S' h w rs) (W : WOK xss (rs, a)) {p : Int} (h0 : 0 ≤ p) (h1 : p < (xss.length : Int)) (K : Value -> Heap -> Prop)
    (HN : itx xss rs p xss.length < 0 -> ∀ h', Fr No h h' -> K (.tuple #[nilSl.v, VB false]) h')
    (HS : 0 ≤ itx xss rs p xss.length -> ∀ t xs h', (∀ x, x ∈ xs ↔ ∃ k, xss.length ≤ k /\ itx xss rs p k = x) -> RdI (fun _ => True) h' t xs -> Fr No h h' -> K (.tuple #[t.v, VB true]) h') : callM Tryz.prog 138 #[.agg #[g.v], w.v, VI p] h K := by
  refine v138 g w p h K fun b1 h2 hb1 f2 hL2 => ?_
  have f2 := f2.in_nil
  have l1 : b1 < h2.size := hL2.head.lt
  have z2 := f2.size
  have hgl := graph_len W.graph
  refine eop_lit rIs (fun k => h2.size ≤ k) (fun _ h => h) 0 (by omega) [] rfl rfl fun t0 h3 n3 c3 o3 f3 m3 _ => ⟨t0, rfl, hL2.of_no f3, ?_⟩
  have z3 := f3.size
  refine ⟨fun n p' x h' => ∃ m, m ≤ xss.length /\ n = xss.length - m /\ p' = itx xss rs p m /\ (∀ k, k ≤ m -> 0 ≤ itx xss rs p k) /\ OwI h' (fun k => h2.size ≤ k) x ((List.range m).map fun r => itx xss rs p r) /\ (∀ i j, i < j -> j < m -> itx xss rs p i ≠ itx xss rs p j) /\ Fr No h h' /\ h2.size ≤ h'.size, ⟨xss.length, 0, by omega, rfl, rfl, fun k hk => by obtain rfl : k = 0 := (by omega); exact h0, by show Ow _ _ _ _ _ _; simpa using o3, fun i j _ h => by omega, f2.no_trans f3, z3⟩, ?_⟩
  rintro n p' x h4 ⟨m, hm, rfl, rfl, hnn, o4, hd, f4, z4⟩ hL4
  have r4 : RdI (fun k => h2.size ≤ k) h4 x _ := o4.rdF
  refine k_ContainsI r4 _ _ ⟨_, rfl, hL4, fun e => ?_, fun e => ?_⟩
  · have e := not_t e
    simp only [decide_eq_false_iff_not, List.mem_map, List.mem_range] at e
    have hd2 : ∀ i j, i < j -> j < m + 1 -> itx xss rs p i ≠ itx xss rs p j := fun i j a b h => by
      by_cases hj : j < m
      · exact hd i j a hj h
      · obtain rfl : j = m := by omega
        exact e ⟨i, a, h⟩
    have hm2 : m + 1 ≤ xss.length := by
      by_cases hx : m + 1 ≤ xss.length
      · exact hx
      · exfalso
        obtain ⟨i, j, e1, e2, e3⟩ := php xss.length (fun k => (itx xss rs p k).toNat) fun k hk => by
          have := hnn k (by omega)
          have := (itx_lt W h0 h1 k).2
          (try simp only)
          omega
        have a1 := hnn i (by omega)
        have a2 := hnn j (by omega)
        (try simp only at e3)
        exact hd2 i j e1 (by omega) (by omega)
    refine eop_lit rIs (fun k => h4.size ≤ k) (fun _ h => h) 1 (by omega) [VI (itx xss rs p m)] rfl rfl fun u h5 n5 c5 o5 f5 m5 _ => ⟨u, rfl, hL4.of_no f5, ?_⟩
    have z5 := f5.size
    have r5 : RdI u.own h5 u [itx xss rs p m] := o5.rd
    have hxn : x.n = m := by have := r4.len; simpa using this
    refine eop_append rIs (Ow.no o4 f5) (fun k hk => by omega) r5 (plainVI _) (by have := r5.len; simp at this; omega) fun y h6 n6 o6 f6 d6 => ?_
    have hL6 := (hL4.of_no f5).fr f6 (fun p hp hk => by
      simp only [List.mem_cons, List.not_mem_nil, or_false] at hp
      subst hp
      have := (o4.foot hk).1
      simp only at this
      omega)
    have z6 := f6.size
    have f06 : Fr No h h6 := (f4.no_trans f5).fresh f6 fun k hk => by have := (o4.foot hk).1; omega
    refine ⟨y, rfl, hL6, k_next (G.no f06) (H.no f06) W (hnn m (Nat.le_refl _)) (itx_lt W h0 h1 _).2 _ fun h7 f7 => ⟨_, rfl, hL6.of_no f7, fun e2 => ?_, fun e2 => ?_⟩⟩
    · simp only [decide_eq_true_eq] at e2
      exact HN (itx_neg_mono (k := m + 1) (by rw [itx]; exact e2) hm2) h7 (f06.no_trans f7)
    · simp only [decide_eq_false_iff_not] at e2
      have z7 := f7.size
      rw [← List.map_append] at o6
      refine ⟨xss.length - (m + 1), by omega, m + 1, hm2, rfl, by rw [itx], fun k hk => ?_, ?_, hd2, f06.no_trans f7, by omega⟩
      · by_cases hk2 : k ≤ m
        · exact hnn k hk2
        · obtain rfl : k = m + 1 := by omega
          rw [itx]; omega
      · rw [List.range_succ, List.map_append, List.map_cons, List.map_nil]
        exact Ow.no o6 f7
  · have e := not_f e
    simp only [decide_eq_true_eq] at e
    refine k_IndexI r4 _ _ (fun hn => absurd e hn) fun i hi ei hj => ⟨_, rfl, hL4, pop_cut_l rIs .i64 (by omega) (by have := r4.len; omega) ⟨_, rfl, ?_⟩⟩
    have hi2 : i < m := by simpa using hi
    rw [getD_getI hi] at ei
    simp only [List.getElem_map, List.getElem_range] at ei
    have hper : itx xss rs p i = itx xss rs p (i + (m - i)) := by rw [show i + (m - i) = m by omega]; exact ei
    have hall : ∀ k, 0 ≤ itx xss rs p k := fun k => by
      by_cases hk : k ≤ m
      · exact hnn k hk
      · have := itx_mod hper (k - i)
        rw [show i + (k - i) = k by omega] at this
        rw [this]
        have := Nat.mod_lt (k - i) (show 0 < m - i by omega)
        exact hnn _ (by omega)
    have hx : ((((List.range m).map fun r => itx xss rs p r).drop i).take (x.n - i)) = (List.range (m - i)).map fun r => itx xss rs p (i + r) := by
      have hxn : x.n = m := by have := r4.len; simpa using this
      apply List.ext_getElem
      · simp; omega
      · intro j a b
        simp
    have hc := RdI.cut r4 (l := i) (m := x.n) (by have := r4.len; omega) (by have := r4.len; omega)
    rw [hx] at hc
    exact HS (hall _) _ _ h4 (cyc_mem hper (by omega) (by omega)) (hc.mono fun _ _ => trivial) f4
theorem k_isUnicycle {S S' : Nat -> Prop} {h : Heap} {g w : Sl} {xss : List (List Int)} {rs : List Int} {a : Int} (G : RdR S h g xss) (H : RdI S' h w rs) (W : WOK xss (rs, a)) : Ret Tryz.prog 98 #[.agg #[g.v], .agg #[w.v, VI a]] h (VB (uniB xss rs a)) := by
  intro K HK
  refine v98 g w a h K fun b1 b2 h2 hb1 hb2 f2 hL2 => ?_
  have f2 := f2.in_nil
  refine ⟨fun n i h' => 0 ≤ i /\ i + n = (xss.length : Int) /\ (∀ p : Nat, (p : Int) < i -> 0 ≤ itx xss rs p xss.length /\ ∃ k, xss.length ≤ k /\ itx xss rs p k = a) /\ Fr No h h', ⟨xss.length, by omega, by omega, fun p hp => by omega, f2⟩, ?_⟩
  rintro n i h3 ⟨i0, i1, i2, f3⟩ hL3
  refine ⟨fun e => ?_, fun e => ?_⟩
  · have hi := (G.no f3).lt e
    have ei : ((i.toNat : Nat) : Int) = i := by omega
    refine k_cycleFrom (G.no f3) (H.no f3) W i0 hi _ (fun hn h4 f4 => ⟨nilSl, false, rfl, hL3.of_no f4, fun _ => ?_, fun e => by simp at e⟩) fun hn t xs h4 hx r4 f4 => ⟨t, true, rfl, hL3.of_no f4, fun e => by simp at e, fun _ => k_ContainsI r4 _ _ ⟨_, rfl, hL3.of_no f4, fun e => ?_, fun e => ?_⟩⟩
    · rw [uniB_f fun h => by have := (h i.toNat (by omega)).1; rw [ei] at this; omega] at HK
      exact HK h4 (f3.no_trans f4)
    · have e := not_t e
      simp only [decide_eq_false_iff_not] at e
      rw [uniB_f fun h => by have := (h i.toNat (by omega)).2; rw [ei] at this; exact e ((hx a).2 this)] at HK
      exact HK h4 (f3.no_trans f4)
    · have e := not_f e
      simp only [decide_eq_true_eq] at e
      rw [G.succ i0 hi]
      refine ⟨n - 1, by omega, by omega, by omega, fun p hp => ?_, f3.no_trans f4⟩
      by_cases hp2 : (p : Int) < i
      · exact i2 p hp2
      · have : (p : Int) = i := by omega
        rw [this]
        exact ⟨hn, (hx a).1 e⟩
  · have hi := (G.no f3).ge e
    rw [uniB_t fun p hp => i2 p (by omega)] at HK
    exact HK h3 f3
def itf (f : Int -> Int) (p : Int) : Nat -> Int
  | 0 => p
  | k + 1 => f (itf f p k)
def orb (f : Int -> Int) (p : Int) (m : Nat) : List Int := (List.range m).map (itf f p)
def ret (f : Int -> Int) (p : Int) : Nat -> Nat -> Option Nat
  | 0, _ => none
  | r + 1, m => if itf f p m = p then some m else ret f p r (m + 1)
def lstI (xs : List Int) : Nat -> Nat
  | 0 => 0
  | i + 1 => if xs.getD i 0 < xs.getD (lstI xs i) 0 then i else lstI xs i
def turnL (xs : List Int) : List Int := xs.drop (lstI xs xs.length) ++ xs.take (lstI xs xs.length)
def cyP (f : Int -> Int) (n : Nat) (p : Int) : List Int := match ret f p (n + 1) 1 with
  | some k => turnL (orb f p k)
  | none => []
def sx (g S : List (List Int)) (p : Int) : Int := if p < 0 then -1 else if (S.getD p.toNat []).length = 0 then -1 else (g.getD p.toNat []).getD ((S.getD p.toNat []).getD 0 0).toNat 0
structure SOK (g S : List (List Int)) : Prop where
  graph : graphB g = true
  len : S.length = g.length
  short : ∀ i (h : i < S.length), S[i].length ≤ 12
  ent : ∀ i (h : i < S.length) (h' : i < g.length), ∀ x, x ∈ S[i] -> 0 ≤ x /\ x < (g[i].length : Int)
def stackB (g : List (List Int)) (sink : Int) (S : List (List Int)) : Bool := (graphB g && inR 0 ((g.length : Int) - 1) sink) && (decide (S.length = g.length) && (decide ((S.getD sink.toNat []).length = 0) && (g.zip S).all fun q => !decide (12 < (q.2.length : Int)) && q.2.all (inR 0 ((q.1.length : Int) - 1))))
section
variable {g S : List (List Int)}
theorem sx_none {p : Int} (hne : (S.getD p.toNat []).length = 0) : sx g S p = -1 := by
  unfold sx
  split
  · rfl
  · rfl
theorem sx_neg {p : Int} (h : p < 0) : sx g S p = -1 := by unfold sx; rw [if_pos h]
theorem its_neg {p : Int} {k : Nat} (h : itf (sx g S) p k < 0) : ∀ m, itf (sx g S) p (k + m) < 0
  | 0 => h
  | m + 1 => by
    rw [← Nat.add_assoc, itf, sx_neg (its_neg h m)]
    omega
end
def popP (S : List (List Int)) (c : List Int) : List (List Int) := (List.range S.length).map fun (i : Nat) => if (i : Int) ∈ c then (S.getD i []).drop 1 else S.getD i []
theorem popP_length (S : List (List Int)) (c : List Int) : (popP S c).length = S.length := by simp [popP]
theorem popP_get (S : List (List Int)) (c : List Int) (i : Nat) (h : i < (popP S c).length) (h' : i < S.length) : (popP S c)[i] = if (i : Int) ∈ c then (S[i]).drop 1 else S[i] := by
  simp only [popP, List.getElem_map, List.getElem_range]
  rw [getD_get h']
theorem SOK.pop {g S : List (List Int)} (W : SOK g S) (c : List Int) : SOK g (popP S c) := by
  refine ⟨W.graph, by rw [popP_length]; exact W.len, fun i h => ?_, fun i h h' x hx => ?_⟩
  · have h2 : i < S.length := by rw [popP_length] at h; exact h
    have := W.short i h2
    rw [popP_get S c i h h2]
    split
    · simp; omega
    · exact this
  · have h2 : i < S.length := by rw [popP_length] at h; exact h
    rw [popP_get S c i h h2] at hx
    split at hx
    · exact W.ent i h2 h' x (List.mem_of_mem_drop hx)
    · exact W.ent i h2 h' x hx
theorem SOK.tot {g S : List (List Int)} (W : SOK g S) : S.length + totR S ≤ 104 := by
  have h1 := graph_len W.graph
  have h2 := W.len
  have := tot_short (n := 12) (xss := S) (m := 8) (by omega) fun l hl => by
    obtain ⟨i, hi, rfl⟩ := List.getElem_of_mem hl
    exact W.short i hi
  omega
def cycL (g S : List (List Int)) : Nat -> List (List Int)
  | 0 => []
  | p + 1 => cycL g S p ++ (if cyP (sx g S) g.length p ≠ [] /\ (cyP (sx g S) g.length p).getD 0 0 = (p : Int) then [cyP (sx g S) g.length p] else [])
def cycsP (g S : List (List Int)) : List (List Int) := cycL g S g.length
def topL (sink : Int) (S : List (List Int)) : Nat -> Option (List Int)
  | 0 => some []
  | i + 1 => match topL sink S i with
    | none => none
    | some l => if (i : Int) = sink then some (l ++ [0]) else if (S.getD i []).length = 0 then none else some (l ++ [(S.getD i []).getD 0 0])
def topsP (sink : Int) (S : List (List Int)) : List Int × Bool := match topL sink S S.length with
  | none => ([], false)
  | some l => (l, true)
def endP (g : List (List Int)) (sink : Int) (cs : List Int) : Nat -> Nat -> List (List Int) -> List (List Int) × Int × Bool
  | 0, _, _ => ([], 0, false)
  | f + 1, n, S =>
    if (cycsP g S).length = 0 then (if (topsP sink S).2 then (S, (n : Int), true) else ([], 0, false))
    else endP g sink cs f (n + 1) (popP S ((cycsP g S).getD (if n < cs.length then (cs.getD n 0).tmod (cycsP g S).length else 0).toNat []))
def poppedP (g : List (List Int)) (sink : Int) (S : List (List Int)) (cs : List Int) : List (List Int) × Int × Bool :=
  if stackB g sink S && (decide (cs.length ≤ 100) && !cs.any fun c => decide (c < 0)) then endP g sink cs 201 0 S else ([], 0, false)
def countP (g : List (List Int)) (sink : Int) (S : List (List Int)) : Int × Bool := ((poppedP g sink S []).2.1, (poppedP g sink S []).2.2)
theorem pop_and {P : Program} {t : TypeId} {K : Value -> Prop} (k : IntKind) (a b : Int) (H : K (.int k (bits .and k a b))) : pop P (binA .and t (.int k a) (.int k b)) K :=
  .mk' (fun w => by simp [binA, eqGuard, binOp, intBits_and, bind, Sem.bind, pure, Sem.run]) H
theorem pop_shr {P : Program} {t : TypeId} {K : Value -> Prop} (k : IntKind) (a b : Int) (hb : 0 ≤ b) (H : K (.int k (a.fdiv (2 ^ (min b.toNat k.bits))))) : pop P (binA .shr t (.int k a) (.int k b)) K :=
  .mk' (fun w => by simp [binA, eqGuard, binOp, Op.shift, show ¬ b < 0 by omega, bind, Sem.bind, pure, Sem.run]) H
theorem rop_conv {P : Program} {src dst : TypeId} {k k' : IntKind} (hs : P.underlying src = some (.int k)) (hd : P.underlying dst = some (.int k')) {h : Heap} {K : Value -> Prop} (n : Int) (H : K (.int k' (k'.wrap n))) : rop P (convert src dst (.int k n)) h K := by
  have hk : P.intKind dst = k' := by simp [Program.intKind, hd]
  refine ⟨_, fun w hw => run_convert_int w src dst k n (by simp [hs]) (by rw [hk]; exact hd), ?_⟩
  rw [hk]
  exact H
theorem cut_zero {s : Sl} (h : s.n ≤ s.c) : s.cut 1 0 s.n s.c = s := by
  obtain ⟨a, n, c⟩ := s
  unfold Sl.cut
  cases a with
  | none => simp
  | some a => simp [at_add0]
theorem eop_copy {P : Program} {t t2 e ty : TypeId} {bs : Nat} {z : List Value} (T : rowC P t = some (e, 1, bs, z)) {h : Heap} {F S : Nat -> Prop} {s x : Sl} {vs us : List Value} (H : Ow h F e 1 s vs) (X : RdV S h 1 x us) (hp : us.all plainV = true) (l m : Nat) (hl : l ≤ s.n) (hm : m = min x.n (s.n - l))
    {K : Value -> Heap -> Prop} (HK : ∀ h', Ow h' F e 1 s (vs.take l ++ us.take m ++ vs.drop (l + m)) -> Fr s.own h h' -> K (VI m) h') : eop P (Builtin.copy_ #[t, t2] ty #[(s.cut 1 l s.n s.c).v, x.v]) h K := by
  obtain ⟨hu, i, zv, hi, hsz, rfl, hz, hzc, hzl, _, hbs, hb64, hsz8⟩ := rowC_spec T
  refine ⟨fun w hw => ?_⟩
  subst hw
  have hs1 : (P.info? e).map (·.size) = some 1 := by rw [hi]; simp [hsz]
  have hvl := H.len
  have hul := X.len
  by_cases h0 : m = 0
  · subst h0
    have hr := run_copy_none (P := P) w t t2 ty e (s.cut 1 l s.n s.c).a x.a (s.cut 1 l s.n s.c).n (s.cut 1 l s.n s.c).c x.n x.c hu hs1 (by simp only [Sl.cut]; exact hm.symm)
    refine ⟨_, w, hr, Same.refl w, HK w.heap ?_ (Fr.refl _ _)⟩
    simpa using H
  · rcases H.out with ⟨rfl, rfl⟩ | ⟨g, o, cur, ha, hF, hg, h1, h2, h3, h4⟩
    · simp [nilSl] at hm; omega
    · obtain ⟨a, hxa, _, _⟩ := X.cell 0 (by omega)
      have hcl : s.c ≠ l := by omega
      have hda : (s.cut 1 l s.n s.c).a = some ⟨g, o + l, none⟩ := by simp [Sl.cut, hcl, ha, add_mk]
      have hr := run_copy_row (P := P) w t t2 ty e g (o + l) (s.n - l) (s.c - l) a x.n x.c cur e (us.take m) hu hs1 hg (by rw [List.length_take, hm]; simp only [Nat.min_def]; split <;> split <;> omega) (fun j v hj => by
        obtain ⟨hjl, rfl⟩ := List.getElem?_eq_some_iff.1 hj
        have hjl2 : j < us.length := by simp at hjl; omega
        obtain ⟨a', ha', _, hc⟩ := X.cell j hjl2
        rw [hxa] at ha'
        obtain rfl : a = a' := by simpa using ha'
        simp only [List.getElem_take]
        exact hc) (by simp; omega) (fun u hu => by
        have := List.all_eq_true.1 hp u (List.mem_of_mem_take hu)
        cases u <;> simp [plainV] at this <;> rfl)
      have hml : (us.take m).length = m := by simp; omega
      rw [hml] at hr
      have hv : (s.cut 1 l s.n s.c).v = .slice (some ⟨g, o + l, none⟩) (s.n - l) (s.c - l) := by simp only [Sl.v, hda]; rfl
      have hxv : x.v = .slice (some a) x.n x.c := by simp only [Sl.v, hxa]
      rw [← hv, ← hxv] at hr
      refine ⟨_, _, hr, ⟨rfl, rfl, rfl⟩, HK _ ⟨?_, .inr ⟨g, o, _, ha, hF, setRow_heap w g cur _ e _ hg, h1, h2, ?_, ?_⟩⟩ ⟨by simp [World.setRow], fun k _ hk => setRow_other w g k _ (fun e => hk (by simp [Sl.own, ha, e]))⟩⟩
      · simp; omega
      · simp; omega
      · have hol : (cur.toList.take (o + l)).length = o + l := by simp; omega
        simp only [Nat.mul_one] at h4 hvl ⊢
        have e1 : (cur.toList.take (o + l) ++ us.take m ++ cur.toList.drop (o + l + m)).drop o = vs.take l ++ us.take m ++ cur.toList.drop (o + l + m) := by
          rw [List.append_assoc, List.drop_append_of_le_length (by omega), List.drop_take, show o + l - o = l by omega, ← h4, List.take_take, Nat.min_eq_left hl, List.append_assoc]
        (try simp only [List.toList_toArray])
        rw [e1, List.take_append, List.take_of_length_le (by simp; omega)]
        congr 1
        have e2 : (vs.take l ++ us.take m).length = l + m := by simp; omega
        rw [e2, ← h4, List.drop_take, List.drop_drop, Nat.add_assoc]
theorem eop_copy0 {P : Program} {t t2 e ty : TypeId} {bs : Nat} {z : List Value} (T : rowC P t = some (e, 1, bs, z)) {h : Heap} {F S : Nat -> Prop} {s x : Sl} {vs us : List Value} (H : Ow h F e 1 s vs) (X : RdV S h 1 x us) (hp : us.all plainV = true) (m : Nat) (hm : m = min x.n s.n)
    {K : Value -> Heap -> Prop} (HK : ∀ h', Ow h' F e 1 s (us.take m ++ vs.drop m) -> Fr s.own h h' -> K (VI m) h') : eop P (Builtin.copy_ #[t, t2] ty #[s.v, x.v]) h K := by
  have := eop_copy (t2 := t2) (ty := ty) T H X hp 0 m (by omega) (by simpa using hm) (K := K) fun h' o f => HK h' (by simpa using o) f
  rw [cut_zero H.cap.1] at this
  exact this
theorem mul_small (a n : Int) (ha : a = 1) (h0 : 0 ≤ n) (h1 : n ≤ 8) : bits .and .u64 a 4294967295 = 1 /\ bits .and .u64 n 4294967295 = n /\ bits .and .u64 0 4294967295 = 0 := by
  subst ha
  refine ⟨by decide, ?_, by decide⟩
  have : n = 0 ∨ n = 1 ∨ n = 2 ∨ n = 3 ∨ n = 4 ∨ n = 5 ∨ n = 6 ∨ n = 7 ∨ n = 8 := by omega
  rcases this with rfl | rfl | rfl | rfl | rfl | rfl | rfl | rfl | rfl <;> decide
theorem u64_small {n : Int} (h0 : 0 ≤ n) (h1 : n < 18446744073709551616) : IntKind.u64.wrap n = n := by
  simp only [IntKind.wrap, IntKind.bits, IntKind.signed]
  simp
  omega
theorem fdiv_small {n : Int} (h0 : 0 ≤ n) (h1 : n < 4294967296) : n.fdiv (2 ^ (min (32 : Int).toNat IntKind.u64.bits)) = 0 := by
  have e : (2 : Int) ^ (min (32 : Int).toNat IntKind.u64.bits) = 4294967296 := by decide
  rw [e, Int.fdiv_eq_ediv_of_nonneg _ (by omega)]
  omega
theorem k_Mul64 (n : Int) (h0 : 0 ≤ n) (h1 : n ≤ 8) (h : Heap) (K : Value -> Heap -> Prop) (HK : K (.tuple #[.int .u64 0, .int .u64 n]) h) : callM Tryz.prog 165 #[.int .u64 1, .int .u64 n] h K := by
  obtain ⟨m1, m2, m3⟩ := mul_small 1 n rfl h0 h1
  refine v165 1 n h K (pop_and _ _ _ ⟨1, by rw [m1], pop_shr _ _ _ (by omega) ⟨0, by rw [fdiv_small (by omega) (by omega)], pop_and _ _ _ ⟨n, by rw [m2], pop_shr _ _ _ (by omega) ⟨0, by rw [fdiv_small (by omega) (by omega)], ?_⟩⟩⟩⟩)
  have u0 : IntKind.u64.wrap 0 = 0 := u64_small (by omega) (by omega)
  have un : IntKind.u64.wrap n = n := u64_small h0 (by omega)
  simp only [Int.one_mul, Int.zero_mul, Int.mul_zero, Int.zero_add, Int.add_zero, u0, un]
  refine pop_shr _ _ _ (by omega) ⟨0, by rw [fdiv_small (by omega) (by omega)], ?_⟩
  simp only [Int.one_mul, Int.zero_mul, Int.mul_zero, Int.zero_add, Int.add_zero, u0, un]
  refine pop_and _ _ _ ⟨0, by rw [m3], pop_shr _ _ _ (by omega) ⟨0, by rw [fdiv_small (by omega) (by omega)], ?_⟩⟩
  simp only [Int.one_mul, Int.zero_mul, Int.mul_zero, Int.zero_add, Int.add_zero, u0, un]
  refine pop_shr _ _ _ (by omega) ⟨0, by rw [fdiv_small (by omega) (by omega)], ?_⟩
  simp only [Int.one_mul, Int.zero_mul, Int.mul_zero, Int.zero_add, Int.add_zero, u0, un]
  exact HK
theorem k_Mul (n : Int) (h0 : 0 ≤ n) (h1 : n ≤ 8) (h : Heap) (K : Value -> Heap -> Prop) (HK : K (.tuple #[.int .u64 0, .int .u64 n]) h) : callM Tryz.prog 158 #[.int .u64 1, .int .u64 n] h K :=
  v158 1 n h K (k_Mul64 n h0 h1 h _ ⟨_, _, rfl, .nil, HK⟩)
theorem k_Repeat {S : Nat -> Prop} {h : Heap} {x : Sl} (v : Int) (X : RdI S h x [v]) (n : Nat) (h1 : 1 ≤ n) (h8 : n ≤ 8) (K : Value -> Heap -> Prop) (HK : ∀ t h', OwI h' (Iv h.size h'.size) t (List.replicate n v) -> Fr No h h' -> K t.v h') : callM Tryz.prog 153 #[x.v, VI n] h K := by
  have hx1 : x.n = 1 := by have := X.len; simpa using this
  refine v153 x n h K ⟨fun h' => h' = h, ⟨fun e => by simp only [decide_eq_true_eq] at e; omega, fun _ => rfl⟩, ?_⟩
  rintro _ rfl _
  refine rop_conv (k := .i64) (k' := .u64) (show Tryz.prog.underlying 3 = some (.int .i64) from by kernel_rfl) (show Tryz.prog.underlying 154 = some (.int .u64) from by kernel_rfl) _ ⟨1, by rw [hx1]; rfl, rop_conv (k := .i64) (k' := .u64) (show Tryz.prog.underlying 3 = some (.int .i64) from by kernel_rfl) (show Tryz.prog.underlying 154 = some (.int .u64) from by kernel_rfl) _ ⟨n, by rw [u64_small (by omega) (by omega)], ?_⟩⟩
  refine k_Mul n (by omega) (by omega) _ _ ⟨_, _, rfl, .nil, ⟨fun h' => h' = _, ⟨fun e => by simp at e, fun _ => ⟨fun e => by simp only [decide_eq_true_eq] at e; omega, fun _ => rfl⟩⟩, ?_⟩⟩
  rintro _ rfl _
  refine rop_conv (k := .u64) (k' := .i64) (show Tryz.prog.underlying 154 = some (.int .u64) from by kernel_rfl) (show Tryz.prog.underlying 3 = some (.int .i64) from by kernel_rfl) _ ⟨n, by rw [show IntKind.i64.wrap (n : Int) = n from w64_eq n (by omega) (by omega)], ?_⟩
  refine eop_make rIs (fun k => _ ≤ k) (fun _ h => h) .i64 .i64 n n (Nat.le_refl _) (by omega) fun t h1' n1 c1 o1 f1 m1 _ => ⟨t, rfl, .nil, ?_⟩
  have e1 : (List.replicate n [VI 0]).flatten = (List.replicate n (0 : Int)).map VI := by simp [List.flatten_replicate_singleton]
  rw [e1] at o1
  have r1 := RdI.no X f1
  have z1 := f1.size
  refine eop_copy0 (P := Tryz.prog) rIs o1 r1 (plainVI _) 1 (by omega) fun h2 o2 f2 => ⟨1, rfl, .nil, ?_⟩
  have e2 : ([v].map VI).take 1 ++ ((List.replicate n (0 : Int)).map VI).drop 1 = (List.replicate 1 v ++ List.replicate (n - 1) 0).map VI := by simp
  rw [e2] at o2
  refine ⟨fun q m h' => ∃ m' : Nat, m = m' /\ 1 ≤ m' /\ m' ≤ n /\ q = n - m' /\ OwI h' (fun k => _ ≤ k) t (List.replicate m' v ++ List.replicate (n - m') 0) /\ Fr t.own h1' h', ⟨n - 1, 1, rfl, Nat.le_refl _, h1, rfl, o2, f2⟩, ?_⟩
  rintro q m h3 ⟨m, rfl, q1, q2, rfl, o3, f3⟩ hL
  refine ⟨fun e => ?_, fun e => ?_⟩
  · simp only [decide_eq_true_eq] at e
    have htn : t.n = n := n1
    refine pop_cut_l rIs .i64 (by omega) (by omega) ⟨_, rfl, pop_cut_h rIs .i64 (by omega) (by omega) ⟨_, rfl, ?_⟩⟩
    simp only [Int.toNat_natCast]
    have r3 : RdI t.own h3 t _ := o3.rd
    have rb := RdI.cut r3 (l := 0) (m := m) (by omega) (by simp; try omega)
    rw [List.drop_zero, Nat.sub_zero, List.take_left' (by simp)] at rb
    refine eop_copy (P := Tryz.prog) rIs o3 rb (plainVI _) m (min m (n - m)) (by omega) (by simp [Sl.cut, htn]) fun h4 o4 f4 => ⟨_, rfl, .nil, ?_⟩
    have e4 : ((List.replicate m v ++ List.replicate (n - m) 0).map VI).take m ++ ((List.replicate m v).map VI).take (min m (n - m)) ++ ((List.replicate m v ++ List.replicate (n - m) 0).map VI).drop (m + min m (n - m)) = (List.replicate (m + min m (n - m)) v ++ List.replicate (n - (m + min m (n - m))) 0).map VI := by
      rw [← List.map_take, ← List.map_take, ← List.map_drop, ← List.map_append, ← List.map_append]
      congr 1
      rw [List.take_left' (by simp), List.take_replicate, List.drop_append, List.drop_of_length_le (by simp), List.nil_append, List.length_replicate, List.drop_replicate, List.replicate_append_replicate]
      congr 2
      · omega
      · omega
    rw [e4] at o4
    rw [w64_eq _ (by omega) (by omega)]
    exact ⟨n - (m + min m (n - m)), by omega, m + min m (n - m), by omega, by omega, by omega, rfl, o4, f3.trans f4⟩
  · simp only [decide_eq_false_iff_not] at e
    have htn : t.n = n := n1
    obtain rfl : m = n := by omega
    rw [Nat.sub_self, List.replicate_zero, List.append_nil] at o3
    exact HK t h3 (Ow.toIv o3) (f1.fresh f3 m1)
def bfsIn (x : Int) : List Int -> List Int × List Int -> List Int × List Int
  | [], s => s
  | q :: qs, s => bfsIn x qs (if s.1.getD q.toNat 0 < 0 then (s.1.set q.toNat (s.1.getD x.toNat 0 + 1), s.2 ++ [q]) else s)
def bfsP (g : List (List Int)) : Nat -> List Int -> List Int -> List Int
  | 0, far, _ => far
  | _ + 1, far, [] => far
  | f + 1, far, x :: rest => bfsP g f (bfsIn x (g.getD x.toNat []) (far, [])).1 (rest ++ (bfsIn x (g.getD x.toNat []) (far, [])).2)
def farP (g : List (List Int)) (p : Int) : List Int := bfsP g g.length ((List.replicate g.length (-1)).set p.toNat 0) [p]
def negs (l : List Int) : Nat := (l.filter fun x => decide (x < 0)).length
theorem negs_set {l : List Int} {i : Nat} {v : Int} (h : i < l.length) (h1 : l[i] < 0) (h2 : 0 ≤ v) : negs (l.set i v) + 1 = negs l := by
  induction l generalizing i with
  | nil => simp at h
  | cons x xs ih =>
    cases i with
    | zero =>
      simp only [List.getElem_cons_zero] at h1
      simp only [negs, List.set_cons_zero, List.filter_cons, show ¬ v < 0 by omega, h1, decide_true, decide_false, if_true, Bool.false_eq_true, if_false, List.length_cons]
    | succ i =>
      have := ih (by simpa using h) (by simpa using h1)
      simp only [negs, List.set_cons_succ, List.filter_cons] at this ⊢
      split <;> (try simp only [List.length_cons]) <;> simp_all <;> omega
structure BOK (n : Nat) (far : List Int) : Prop where
  len : far.length = n
  lo : ∀ v, v ∈ far -> -1 ≤ v
  hi : ∀ v, v ∈ far -> v + negs far ≤ n
theorem BOK.step {n : Nat} {far : List Int} (B : BOK n far) {x q : Int} (hx : x.toNat < n) (hq : q.toNat < n) (hn : far.getD q.toNat 0 < 0) : BOK n (far.set q.toNat (far.getD x.toNat 0 + 1)) /\ negs (far.set q.toNat (far.getD x.toNat 0 + 1)) + 1 = negs far := by
  have hl := B.len
  rw [getD_getI (by omega)] at hn
  rw [getD_getI (show x.toNat < far.length by omega)]
  have h1 := B.lo _ (List.getElem_mem (show x.toNat < far.length by omega))
  have h2 := B.hi _ (List.getElem_mem (show x.toNat < far.length by omega))
  have h3 := negs_set (show q.toNat < far.length by omega) hn (v := far[x.toNat]'(by omega) + 1) (by omega)
  refine ⟨⟨by simp [hl], fun v hv => ?_, fun v hv => ?_⟩, h3⟩
  · rcases List.mem_or_eq_of_mem_set hv with hv | rfl
    · exact B.lo v hv
    · omega
  · rcases List.mem_or_eq_of_mem_set hv with hv | rfl
    · have := B.hi v hv; omega
    · omega
theorem bok0 {n p : Nat} (hp : p < n) : BOK n ((List.replicate n (-1)).set p 0) /\ negs ((List.replicate n (-1)).set p 0) + 1 = n := by
  have h1 : negs (List.replicate n (-1)) = n := by
    unfold negs
    rw [List.filter_replicate_of_pos (by decide)]
    simp
  have h2 := negs_set (l := List.replicate n (-1)) (i := p) (v := 0) (by simpa using hp) (by simp) (by omega)
  refine ⟨⟨by simp, fun v hv => ?_, fun v hv => ?_⟩, by omega⟩
  · rcases List.mem_or_eq_of_mem_set hv with hv | rfl
    · simp only [List.mem_replicate] at hv; omega
    · omega
  · rcases List.mem_or_eq_of_mem_set hv with hv | rfl
    · simp only [List.mem_replicate] at hv; omega
    · omega
theorem gq_mem {g : List (List Int)} (hg : graphB g = true) {x : Nat} (hx : x < g.length) {i : Nat} (hi : i < (g[x]).length) : 0 ≤ (g[x])[i] /\ (g[x])[i] < (g.length : Int) := (graph_mem hg (List.getElem_mem hx)).2 _ (List.getElem_mem hi)
theorem k_grFar {S : Nat -> Prop} {h : Heap} {g : Sl} {xss : List (List Int)} (G : RdR S h g xss) (hg : graphB xss = true) {p : Int} (h0 : 0 ≤ p) (h1 : p < (xss.length : Int)) (K : Value -> Heap -> Prop) (HK : ∀ t h', OwI h' (Iv h.size h'.size) t (farP xss p) -> (farP xss p).length = xss.length -> Fr No h h' -> K t.v h') : callM Tryz.prog 149 #[.agg #[g.v], VI p] h K := by
  refine v149 g p h K fun b1 h2 hb1 f2 hL2 => ?_
  generalize hR : farP xss p = R at HK
  have f2 := f2.in_nil
  have l1 : b1 < h2.size := hL2.head.lt
  have z2 := f2.size
  have hgl := graph_len hg
  refine eop_make rIs (fun k => h2.size ≤ k) (fun _ h => h) .i64 .i64 g.n g.n (Nat.le_refl _) (by rw [G.len]; omega) fun t h3 n3 c3 o3 f3 m3 _ => ⟨t, rfl, hL2.of_no f3, ?_⟩
  have o3 : OwI h3 (Iv h2.size h3.size) t (List.replicate xss.length 0) := by
    have e : (List.replicate g.n [VI 0]).flatten = (List.replicate xss.length (0 : Int)).map VI := by rw [G.len]; simp [List.flatten_replicate_singleton]
    rw [e] at o3; exact Ow.toIv o3
  have z3 := f3.size
  have f03 := f2.no_trans f3
  have htn : t.n = xss.length := by rw [n3, G.len]
  have hL3 := hL2.of_no f3
  refine ⟨fun n i h' => 0 ≤ i /\ i + n = (xss.length : Int) /\ OwI h' (Iv h2.size h3.size) t (List.replicate i.toNat (-1) ++ List.replicate n 0) /\ Fr (Iv h2.size h3.size) h3 h', ⟨xss.length, by omega, by omega, by simpa using o3, Fr.refl _ _⟩, ?_⟩
  rintro n i h4 ⟨i0, i1, o4, f4⟩ hL4
  refine ⟨fun e => ?_, fun e => ?_⟩
  · simp only [decide_eq_true_eq] at e
    obtain ⟨w1, w2, w3⟩ := o4.store1 i0 (by omega) (VI (-1))
    have w3' : Fr (Iv h2.size h3.size) h4 _ := w3.mono fun _ _ hk => (o4.foot hk).1
    have hL5 := hL4.iv w3' ⟨.inl l1, trivial⟩
    refine ⟨o4.inb i0 (by omega), w1, hL5, fun h5 e5 _ => ?_⟩
    subst e5
    rw [w64_eq _ (by omega) (by omega)]
    refine ⟨n - 1, by omega, by omega, by omega, ?_, f4.trans w3'⟩
    rw [← List.map_set] at w2
    have e6 : (List.replicate i.toNat (-1 : Int) ++ List.replicate n 0).set i.toNat (-1) = List.replicate (i + 1).toNat (-1) ++ List.replicate (n - 1) 0 := by
      rw [List.set_append_right _ _ (by simp), List.length_replicate, Nat.sub_self, toNat_succ i0, List.replicate_succ', List.append_assoc]
      obtain ⟨m, rfl⟩ : ∃ m, n = m + 1 := ⟨n - 1, by omega⟩
      simp [List.replicate_succ]
    rw [e6] at w2
    exact w2
  simp only [decide_eq_false_iff_not] at e
  obtain rfl : n = 0 := by omega
  have ei : i.toNat = xss.length := by omega
  rw [ei, List.replicate_zero, List.append_nil] at o4
  obtain ⟨w1, w2, w3⟩ := o4.store1 h0 (by omega) (VI 0)
  have w3' : Fr (Iv h2.size h3.size) h4 _ := w3.mono fun _ _ hk => (o4.foot hk).1
  have hL5 := hL4.iv w3' ⟨.inl l1, trivial⟩
  refine ⟨o4.inb h0 (by omega), w1, hL5, fun h5 e5 _ => ?_⟩
  subst e5
  rw [← List.map_set] at w2
  have f05 : Fr No h _ := (f03.ivFresh f4 (by omega)).ivFresh w3' (by omega)
  have z4 := f4.size
  have z5 := w3'.size
  refine eop_lit rIs (fun k => _ ≤ k) (fun _ h => h) 1 (by omega) [VI p] rfl rfl fun u h6 n6 c6 o6 f6 m6 _ => ⟨u, rfl, hL5.of_no f6, ?_⟩
  have z6 := f6.size
  have f06 := f05.no_trans f6
  have w6 := Ow.no w2 f6
  obtain ⟨B0, N0⟩ := bok0 (n := xss.length) (p := p.toNat) (by omega)
  refine ⟨fun n x k h' => ∃ (far dn pend : List Int), 0 ≤ k /\ k = dn.length /\ n = pend.length + negs far /\ dn.length + n = xss.length /\ BOK xss.length far /\ (∀ y, y ∈ pend -> 0 ≤ y /\ y < (xss.length : Int)) /\ OwI h' (Iv h2.size h3.size) t far /\ OwI h' (fun k => h3.size ≤ k) x (dn ++ pend) /\ Fr No h h' /\ h3.size ≤ h'.size /\ R = bfsP xss n far pend,
    ⟨xss.length, (List.replicate xss.length (-1)).set p.toNat 0, [], [p], by omega, rfl, by simp only [List.length_cons, List.length_nil]; omega, by simp, B0, fun y hy => by simp at hy; omega, w6, by show Ow _ _ _ _ _ _; simpa using o6.mono (F' := fun k => h3.size ≤ k) fun k _ hk => by omega, f06, by omega, hR.symm⟩, ?_⟩
  rintro n x k h7 ⟨far, dn, pend, k0, rfl, rfl, hdn, B, hp, o7, q7, f7, z7, eq⟩ hL7
  have rq : RdI (fun k => h3.size ≤ k) h7 x (dn ++ pend) := q7.rdF
  refine ⟨fun e => ?_, fun e => ?_⟩
  · have hk := rq.lt e
    rw [List.length_append] at hk
    obtain ⟨y, rest, rfl⟩ : ∃ y rest, pend = y :: rest := by
      cases pend with
      | nil => simp at hk
      | cons y rest => exact ⟨y, rest, rfl⟩
    have hy := hp y List.mem_cons_self
    have hyl : y.toNat < xss.length := by omega
    have hdl : (dn.length : Int) < ((dn ++ y :: rest).length : Int) := by simp only [List.length_append, List.length_cons]; omega
    have eg : ∀ hh, (dn ++ y :: rest)[(dn.length : Int).toNat]'hh = y := by intro hh; simp
    have c0 := rq.get k0 hdl
    rw [eg] at c0
    obtain ⟨gi, c1, r1⟩ := G.get hy.1 hy.2
    have hfuel : (y :: rest).length + negs far = (rest.length + negs far) + 1 := by simp only [List.length_cons]; omega
    rw [hfuel, bfsP, getD_get hyl] at eq
    refine ⟨rq.inb k0 hdl, _, c0, (G.no f7).inb hy.1 hy.2, gi, hcell_fr c1 f7 (fun h => h), ?_⟩
    generalize hF : bfsIn y (xss[y.toNat]'hyl) (far, []) = Fin at eq
    refine ⟨fun m x' j h' => ∃ (far' new : List Int), 0 ≤ j /\ j + m = ((xss[y.toNat]'hyl).length : Int) /\ BOK xss.length far' /\ new.length + negs far' = negs far /\ (∀ y, y ∈ new -> 0 ≤ y /\ y < (xss.length : Int)) /\ OwI h' (Iv h2.size h3.size) t far' /\ OwI h' (fun k => h3.size ≤ k) x' (dn ++ y :: rest ++ new) /\ Fr No h h' /\ h3.size ≤ h'.size /\ Fin = bfsIn y ((xss[y.toNat]'hyl).drop j.toNat) (far', new),
      ⟨(xss[y.toNat]'hyl).length, far, [], by omega, by omega, B, by simp, fun y hy => by simp at hy, o7, by simpa using q7, f7, z7, by simpa using hF.symm⟩, ?_⟩
    rintro m x' j h8 ⟨far', new, j0, j1, B', hnw, hnm, o8, q8, f8, z8, eF⟩ hL8
    have r1' : RdI S h8 gi (xss[y.toNat]'hyl) := RdI.no r1 f8
    have rq8 : RdI (fun k => h3.size ≤ k) h8 x' (dn ++ y :: rest ++ new) := q8.rdF
    have ro8 : RdI (Iv h2.size h3.size) h8 t far' := o8.rdI
    have hfl := B'.len
    refine ⟨fun e2 => ?_, fun e2 => ?_⟩
    · have hj := r1'.lt e2
      rw [drop_cons _ j0 hj, bfsIn] at eF
      have hq := gq_mem hg hyl (show j.toNat < (xss[y.toNat]'hyl).length by omega)
      refine ⟨r1'.inb j0 hj, _, r1'.get j0 hj, ro8.inb hq.1 (by omega), _, ro8.get hq.1 (by omega), fun e3 => ?_, fun e3 => ?_⟩
      · simp only [decide_eq_true_eq] at e3
        have e3' : far'.getD ((xss[y.toNat]'hyl)[j.toNat]'(by omega)).toNat 0 < 0 := by rw [getD_getI (by omega)]; exact e3
        obtain ⟨B2, N2⟩ := B'.step (x := y) (by omega) (by omega) e3'
        simp only [e3', if_true] at eF
        have hyv := B'.hi _ (List.getElem_mem (show y.toNat < far'.length by omega))
        have hyv2 := B'.lo _ (List.getElem_mem (show y.toNat < far'.length by omega))
        have hdl8 : (dn.length : Int) < ((dn ++ y :: rest ++ new).length : Int) := by simp only [List.length_append, List.length_cons]; omega
        have eg8 : ∀ hh, (dn ++ y :: rest ++ new)[(dn.length : Int).toNat]'hh = y := by intro hh; simp
        have c8 := rq8.get k0 hdl8
        rw [eg8] at c8
        obtain ⟨w1, w2, w3⟩ := o8.store1 hq.1 (by have := ro8.len; omega) (VI (far'[y.toNat]'(by omega) + 1))
        have w3' : Fr (Iv h2.size h3.size) h8 _ := w3.mono fun _ _ hk => (o8.foot hk).1
        have hL9 := hL8.iv w3' ⟨.inl l1, trivial⟩
        refine ⟨rq8.inb k0 hdl8, _, c8, ro8.inb hy.1 (by omega), _, ro8.get hy.1 (by omega), ro8.inb hq.1 (by omega), ?_⟩
        rw [w64_eq _ (by omega) (by omega)]
        refine ⟨w1, hL9, fun h9 e9 _ => ?_⟩
        subst e9
        rw [← List.map_set] at w2
        have z9 := w3'.size
        have q9 := Ow.fr q8 w3' fun k hk hk2 => by have h1 := (q8.foot hk).1; have := hk2.2; (try simp only at h1); omega
        refine eop_lit rIs (fun k => _ ≤ k) (fun _ h => h) 1 (by omega) [VI ((xss[y.toNat]'hyl)[j.toNat]'(by omega))] rfl rfl fun v h10 n10 c10 o10 f10 m10 _ => ⟨v, rfl, hL9.of_no f10, ?_⟩
        have z10 := f10.size
        have r10 : RdI v.own h10 v [(xss[y.toNat]'hyl)[j.toNat]'(by omega)] := o10.rd
        have hxl := rq8.len
        simp only [List.length_append, List.length_cons] at hxl hdn hk
        refine eop_append rIs (Ow.no q9 f10) (fun k hk => by omega) r10 (plainVI _) (by have := r10.len; simp at this; omega) fun w h11 n11 o11 f11 d11 => ⟨w, rfl, (hL9.of_no f10).fr f11 (fun p hp hk => by
          simp only [List.mem_cons, List.not_mem_nil, or_false] at hp
          subst hp
          have := (q8.foot hk).1
          simp only at this
          omega), ?_⟩
        have z11 := f11.size
        rw [← List.map_append] at o11
        rw [r1'.succ j0 hj]
        refine ⟨m - 1, by omega, far'.set ((xss[y.toNat]'hyl)[j.toNat]'(by omega)).toNat (far'.getD y.toNat 0 + 1), new ++ [(xss[y.toNat]'hyl)[j.toNat]'(by omega)], by omega, by omega, B2, by simp only [List.length_append, List.length_cons, List.length_nil]; omega, fun z hz => ?_, ?_, ?_, ?_, by omega, eF⟩
        · rcases List.mem_append.1 hz with hz | hz
          · exact hnm z hz
          · simp only [List.mem_cons, List.not_mem_nil, or_false] at hz
            rw [hz]; exact hq
        · rw [getD_getI (show y.toNat < far'.length by omega)]
          exact (Ow.no w2 f10).fr f11 fun k hk hk2 => by have h1 := (q8.foot hk2).1; have := (o8.foot hk).1.2; (try simp only at h1); omega
        · rw [← List.append_assoc]
          exact o11
        · exact (((f8.ivFresh w3' (by omega)).no_trans f10).fresh f11 fun k hk => by have h1 := (q8.foot hk).1; (try simp only at h1); omega)
      · simp only [decide_eq_false_iff_not] at e3
        have e3' : ¬ far'.getD ((xss[y.toNat]'hyl)[j.toNat]'(by omega)).toNat 0 < 0 := by rw [getD_getI (by omega)]; exact e3
        simp only [e3', if_false] at eF
        rw [r1'.succ j0 hj]
        exact ⟨m - 1, by omega, far', new, by omega, by omega, B', hnw, hnm, o8, q8, f8, z8, eF⟩
    · have hj := r1'.ge e2
      rw [List.drop_of_length_le (by omega), bfsIn] at eF
      subst eF
      simp only [List.length_cons] at hdn
      rw [w64_eq _ (by omega) (by omega)]
      refine ⟨rest.length + negs far, by simp only [List.length_cons]; omega, far', dn ++ [y], rest ++ new, by omega, by simp, by simp only [List.length_append]; omega, by simp only [List.length_append, List.length_cons, List.length_nil]; omega, B', fun z hz => ?_, o8, by simpa using q8, f8, z8, ?_⟩
      · rcases List.mem_append.1 hz with hz | hz
        · exact hp z (List.mem_cons_of_mem _ hz)
        · exact hnm z hz
      · exact eq
  · have hk := rq.ge e
    rw [List.length_append] at hk
    obtain rfl : pend = [] := List.eq_nil_of_length_eq_zero (by omega)
    have e9 : R = far := by
      rw [eq]
      simp only [List.length_nil, Nat.zero_add]
      cases negs far <;> rfl
    subst e9
    exact HK t h7 (Ow.ivs o7 (by omega) (by omega)) B.len f7
theorem k_lengths {S : Nat -> Prop} {h : Heap} {g : Sl} {xss : List (List Int)} (G : RdR S h g xss) (hg : graphB xss = true) {p : Int} (h0 : 0 ≤ p) (h1 : p < (xss.length : Int)) (K : Value -> Heap -> Prop) (HK : ∀ t h', OwI h' (Iv h.size h'.size) t (farP xss p) -> (farP xss p).length = xss.length -> Fr No h h' -> K t.v h') : callM Tryz.prog 148 #[.agg #[g.v], VI p] h K := by
  refine v148 g p h K fun b1 h1' hb1 f1 hL1 => ?_
  generalize hR : farP xss p = R at HK
  have f1 := f1.in_nil
  have l1 : b1 < h1'.size := hL1.head.lt
  have z1 := f1.size
  have hgl := graph_len hg
  refine eop_lit rIs (fun k => h1'.size ≤ k) (fun _ h => h) 1 (by omega) [VI (-1)] rfl rfl fun m1 h2 n2 c2 o2 f2 _ _ => ⟨m1, rfl, hL1.of_no f2, ?_⟩
  have r2 : RdI (fun k => h1'.size ≤ k) h2 m1 [-1] := o2.rdF
  have z2 := f2.size
  have hL2 := hL1.of_no f2
  rw [G.len]
  refine k_Repeat (-1) r2 xss.length (by omega) (by omega) _ fun t h3 o3 f3 => ⟨t, rfl, hL2.of_no f3, ?_⟩
  have z3 := f3.size
  have f03 := (f1.no_trans f2).no_trans f3
  have hL3 := hL2.of_no f3
  have htn : t.n = xss.length := by have := RdI.len (Ow.rdF o3 : RdI _ h3 t _); simpa using this
  obtain ⟨w1, w2, w3⟩ := o3.store1 h0 (by omega) (VI 0)
  have w3' : Fr (Iv h2.size h3.size) h3 _ := w3.mono fun _ _ hk => (o3.foot hk).1
  have hL5 := hL3.iv w3' ⟨.inl (by omega), trivial⟩
  refine ⟨o3.inb h0 (by omega), w1, hL5, fun h5 e5 _ => ?_⟩
  subst e5
  rw [← List.map_set] at w2
  have f05 : Fr No h _ := f03.ivFresh w3' (by omega)
  have z5 := w3'.size
  refine eop_lit rIs (fun k => _ ≤ k) (fun _ h => h) 1 (by omega) [VI p] rfl rfl fun u h6 n6 c6 o6 f6 m6 _ => ⟨u, rfl, hL5.of_no f6, ?_⟩
  have z6 := f6.size
  have f06 := f05.no_trans f6
  have w6 := Ow.no w2 f6
  obtain ⟨B0, N0⟩ := bok0 (n := xss.length) (p := p.toNat) (by omega)
  refine ⟨fun n x h' => ∃ (far pend : List Int), n = pend.length + negs far /\ n ≤ xss.length /\ BOK xss.length far /\ (∀ y, y ∈ pend -> 0 ≤ y /\ y < (xss.length : Int)) /\ OwI h' (Iv h2.size h3.size) t far /\ OwI h' (fun k => h3.size ≤ k) x pend /\ Fr No h h' /\ h3.size ≤ h'.size /\ R = bfsP xss n far pend,
    ⟨xss.length, (List.replicate xss.length (-1)).set p.toNat 0, [p], by simp only [List.length_cons, List.length_nil]; omega, Nat.le_refl _, B0, fun y hy => by simp at hy; omega, w6, by show Ow _ _ _ _ _ _; simpa using o6.mono (F' := fun k => h3.size ≤ k) fun k _ hk => by omega, f06, by omega, hR.symm⟩, ?_⟩
  rintro n x h7 ⟨far, pend, rfl, hdn, B, hp, o7, q7, f7, z7, eq⟩ hL7
  have rq : RdI (fun k => h3.size ≤ k) h7 x pend := q7.rdF
  have hxl := rq.len
  refine ⟨fun e => ?_, fun e => ?_⟩
  · simp only [decide_eq_true_eq] at e
    obtain ⟨y, rest, rfl⟩ : ∃ y rest, pend = y :: rest := by
      cases pend with
      | nil => simp at hxl; omega
      | cons y rest => exact ⟨y, rest, rfl⟩
    have hy := hp y List.mem_cons_self
    have hyl : y.toNat < xss.length := by omega
    have hdl : (0 : Int) < ((y :: rest).length : Int) := by simp only [List.length_cons]; omega
    have eg : ∀ hh, (y :: rest)[(0 : Int).toNat]'hh = y := by intro hh; simp
    have c0 := rq.get (Int.le_refl 0) hdl
    rw [eg] at c0
    obtain ⟨gi, c1, r1⟩ := G.get hy.1 hy.2
    have hfuel : (y :: rest).length + negs far = (rest.length + negs far) + 1 := by simp only [List.length_cons]; omega
    rw [hfuel, bfsP, getD_get hyl] at eq
    refine ⟨rq.inb (Int.le_refl 0) hdl, _, c0, (G.no f7).inb hy.1 hy.2, gi, hcell_fr c1 f7 (fun h => h), ?_⟩
    generalize hF : bfsIn y (xss[y.toNat]'hyl) (far, []) = Fin at eq
    refine ⟨fun m x' j h' => ∃ (far' new : List Int), 0 ≤ j /\ j + m = ((xss[y.toNat]'hyl).length : Int) /\ BOK xss.length far' /\ new.length + negs far' = negs far /\ (∀ y, y ∈ new -> 0 ≤ y /\ y < (xss.length : Int)) /\ OwI h' (Iv h2.size h3.size) t far' /\ OwI h' (fun k => h3.size ≤ k) x' (y :: rest ++ new) /\ Fr No h h' /\ h3.size ≤ h'.size /\ Fin = bfsIn y ((xss[y.toNat]'hyl).drop j.toNat) (far', new),
      ⟨(xss[y.toNat]'hyl).length, far, [], by omega, by omega, B, by simp, fun y hy => by simp at hy, o7, by simpa using q7, f7, z7, by simpa using hF.symm⟩, ?_⟩
    rintro m x' j h8 ⟨far', new, j0, j1, B', hnw, hnm, o8, q8, f8, z8, eF⟩ hL8
    have r1' : RdI S h8 gi (xss[y.toNat]'hyl) := RdI.no r1 f8
    have rq8 : RdI (fun k => h3.size ≤ k) h8 x' (y :: rest ++ new) := q8.rdF
    have ro8 : RdI (Iv h2.size h3.size) h8 t far' := o8.rdI
    have hfl := B'.len
    have hxl8 := rq8.len
    simp only [List.length_append, List.length_cons] at hxl8 hdn
    refine ⟨fun e2 => ?_, fun e2 => ?_⟩
    · have hj := r1'.lt e2
      rw [drop_cons _ j0 hj, bfsIn] at eF
      have hq := gq_mem hg hyl (show j.toNat < (xss[y.toNat]'hyl).length by omega)
      refine ⟨r1'.inb j0 hj, _, r1'.get j0 hj, ro8.inb hq.1 (by omega), _, ro8.get hq.1 (by omega), fun e3 => ?_, fun e3 => ?_⟩
      · simp only [decide_eq_true_eq] at e3
        have e3' : far'.getD ((xss[y.toNat]'hyl)[j.toNat]'(by omega)).toNat 0 < 0 := by rw [getD_getI (by omega)]; exact e3
        obtain ⟨B2, N2⟩ := B'.step (x := y) (by omega) (by omega) e3'
        simp only [e3', if_true] at eF
        have hyv := B'.hi _ (List.getElem_mem (show y.toNat < far'.length by omega))
        have hyv2 := B'.lo _ (List.getElem_mem (show y.toNat < far'.length by omega))
        have hdl8 : (0 : Int) < ((y :: rest ++ new).length : Int) := by simp only [List.length_append, List.length_cons]; omega
        have eg8 : ∀ hh, (y :: rest ++ new)[(0 : Int).toNat]'hh = y := by intro hh; simp
        have c8 := rq8.get (Int.le_refl 0) hdl8
        rw [eg8] at c8
        obtain ⟨w1, w2, w3⟩ := o8.store1 hq.1 (by have := ro8.len; omega) (VI (far'[y.toNat]'(by omega) + 1))
        have w3' : Fr (Iv h2.size h3.size) h8 _ := w3.mono fun _ _ hk => (o8.foot hk).1
        have hL9 := hL8.iv w3' ⟨.inl (by omega), trivial⟩
        refine ⟨rq8.inb (Int.le_refl 0) hdl8, _, c8, ro8.inb hy.1 (by omega), _, ro8.get hy.1 (by omega), ro8.inb hq.1 (by omega), ?_⟩
        rw [w64_eq _ (by omega) (by omega)]
        refine ⟨w1, hL9, fun h9 e9 _ => ?_⟩
        subst e9
        rw [← List.map_set] at w2
        have z9 := w3'.size
        have q9 := Ow.fr q8 w3' fun k hk hk2 => by have h1 := (q8.foot hk).1; have := hk2.2; (try simp only at h1); omega
        refine eop_lit rIs (fun k => _ ≤ k) (fun _ h => h) 1 (by omega) [VI ((xss[y.toNat]'hyl)[j.toNat]'(by omega))] rfl rfl fun v h10 n10 c10 o10 f10 m10 _ => ⟨v, rfl, hL9.of_no f10, ?_⟩
        have z10 := f10.size
        have r10 : RdI v.own h10 v [(xss[y.toNat]'hyl)[j.toNat]'(by omega)] := o10.rd
        refine eop_append rIs (Ow.no q9 f10) (fun k hk => by omega) r10 (plainVI _) (by have := r10.len; simp at this; omega) fun w h11 n11 o11 f11 d11 => ⟨w, rfl, (hL9.of_no f10).fr f11 (fun p hp hk => by
          simp only [List.mem_cons, List.not_mem_nil, or_false] at hp
          subst hp
          have := (q8.foot hk).1
          simp only at this
          omega), ?_⟩
        have z11 := f11.size
        rw [← List.map_append] at o11
        rw [r1'.succ j0 hj]
        refine ⟨m - 1, by omega, far'.set ((xss[y.toNat]'hyl)[j.toNat]'(by omega)).toNat (far'.getD y.toNat 0 + 1), new ++ [(xss[y.toNat]'hyl)[j.toNat]'(by omega)], by omega, by omega, B2, by simp only [List.length_append, List.length_cons, List.length_nil]; omega, fun z hz => ?_, ?_, ?_, ?_, by omega, eF⟩
        · rcases List.mem_append.1 hz with hz | hz
          · exact hnm z hz
          · simp only [List.mem_cons, List.not_mem_nil, or_false] at hz
            rw [hz]; exact hq
        · rw [getD_getI (show y.toNat < far'.length by omega)]
          exact (Ow.no w2 f10).fr f11 fun k hk hk2 => by have h1 := (q8.foot hk2).1; have := (o8.foot hk).1.2; (try simp only at h1); omega
        · rw [← List.append_assoc]
          exact o11
        · exact (((f8.ivFresh w3' (by omega)).no_trans f10).fresh f11 fun k hk => by have h1 := (q8.foot hk).1; (try simp only at h1); omega)
      · simp only [decide_eq_false_iff_not] at e3
        have e3' : ¬ far'.getD ((xss[y.toNat]'hyl)[j.toNat]'(by omega)).toNat 0 < 0 := by rw [getD_getI (by omega)]; exact e3
        simp only [e3', if_false] at eF
        rw [r1'.succ j0 hj]
        exact ⟨m - 1, by omega, far', new, by omega, by omega, B', hnw, hnm, o8, q8, f8, z8, eF⟩
    · have hj := r1'.ge e2
      rw [List.drop_of_length_le (by omega), bfsIn] at eF
      subst eF
      refine pop_cut_l rIs .i64 (by omega) (by omega) ⟨_, rfl, ?_⟩
      have qc := q8.cut (l := 1) (m := x'.n) (by omega) (Nat.le_refl _)
      have ec : (((y :: rest ++ new).map VI).drop (1 * 1)).take ((x'.n - 1) * 1) = (rest ++ new).map VI := by
        rw [List.take_of_length_le (by simp; omega)]
        rfl
      rw [ec] at qc
      refine ⟨rest.length + negs far, by simp only [List.length_cons]; omega, far', rest ++ new, by simp only [List.length_append]; omega, by omega, B', fun z hz => ?_, o8, qc, f8, z8, ?_⟩
      · rcases List.mem_append.1 hz with hz | hz
        · exact hp z (List.mem_cons_of_mem _ hz)
        · exact hnm z hz
      · exact eq
  · simp only [decide_eq_false_iff_not] at e
    obtain rfl : pend = [] := List.eq_nil_of_length_eq_zero (by omega)
    have e9 : R = far := by
      rw [eq]
      simp only [List.length_nil, Nat.zero_add]
      cases negs far <;> rfl
    subst e9
    exact HK t h7 (Ow.ivs o7 (by omega) (by omega)) B.len f7
theorem range_all {n : Nat} {f : Nat -> Bool} : (List.range n).all f = true ↔ ∀ i, i < n -> f i = true := by simp [List.all_eq_true]
abbrev Lo := List Int × List Int
def mvP (g : List (List Int)) (l : Lo) (p : Int) : Lo := match stepP g (l.1, p) with
  | none => l
  | some s => (s.1, (l.2.set p.toNat (l.2.getD p.toNat 0 - 1)).set s.2.toNat ((l.2.set p.toNat (l.2.getD p.toNat 0 - 1)).getD s.2.toNat 0 + 1))
structure LOK (g : List (List Int)) (m : Nat) (l : Lo) : Prop where
  w : WOK g (l.1, 0)
  len : l.2.length = g.length
  cb : ∀ c, c ∈ l.2 -> -(20 + (m : Int)) ≤ c /\ c ≤ 20 + (m : Int)
theorem WOK.to {g : List (List Int)} {rs : List Int} {a p : Int} (W : WOK g (rs, a)) (h0 : 0 ≤ p) (h1 : p < (g.length : Int)) : WOK g (rs, p) := ⟨W.graph, W.len, h0, h1, W.rot⟩
theorem mem_set2 {l : List Int} {i : Nat} {v x : Int} (h : x ∈ l.set i v) : x ∈ l ∨ x = v := List.mem_or_eq_of_mem_set h
theorem LOK.mv {g : List (List Int)} {m : Nat} {l : Lo} (L : LOK g m l) {p : Int} (h0 : 0 ≤ p) (h1 : p < (g.length : Int)) : LOK g (m + 1) (mvP g l p) := by
  have hl := L.len
  unfold mvP
  split
  · exact ⟨L.w, L.len, fun c hc => by have := L.cb c hc; omega⟩
  · rename_i s hs
    have W := (L.w.to h0 h1).step hs
    have hlo := W.lo
    have hhi := W.hi
    refine ⟨⟨W.graph, W.len, by simp, by simp only; omega, W.rot⟩, by simp [hl], fun c hc => ?_⟩
    have hp : p.toNat < l.2.length := by omega
    have c0 := L.cb _ (List.getElem_mem hp)
    rw [getD_getI hp] at hc
    have key : ∀ x, x ∈ l.2.set p.toNat (l.2[p.toNat] - 1) -> -(20 + (m : Int)) - 1 ≤ x /\ x ≤ 20 + (m : Int) := fun x hx => by
      rcases mem_set2 hx with h | rfl
      · have := L.cb x h; omega
      · omega
    rcases mem_set2 hc with h | rfl
    · have := key c h; omega
    · rw [getD_getI (by simp; omega)]
      have := key _ (List.getElem_mem (show s.2.toNat < (l.2.set p.toNat (l.2[p.toNat] - 1)).length by simp; omega))
      omega
theorem mvP_len {g : List (List Int)} {m : Nat} {l : Lo} (L : LOK g m l) {p : Int} (h0 : 0 ≤ p) (h1 : p < (g.length : Int)) : (mvP g l p).1.length = g.length /\ (mvP g l p).2.length = g.length := ⟨(L.mv h0 h1).w.len, (L.mv h0 h1).len⟩
def Cyc (g S : List (List Int)) (c : List Int) : Prop := ∃ (p : Int) (k : Nat), 1 ≤ k /\ 0 ≤ p /\ p < (g.length : Int) /\ itf (sx g S) p k = p /\ ∀ x, x ∈ c ↔ ∃ j, j < k /\ itf (sx g S) p j = x
def Red (g : List (List Int)) : Nat -> List (List Int) -> List (List Int) -> Prop
  | 0, S, E => S = E
  | n + 1, S, E => ∃ c, Cyc g S c /\ Red g n (popP S c) E
theorem popP_congr {S : List (List Int)} {c d : List Int} (h : ∀ x, x ∈ c ↔ x ∈ d) : popP S c = popP S d := by
  unfold popP
  refine List.map_congr_left fun i _ => ?_
  by_cases hc : (i : Int) ∈ c
  · rw [if_pos hc, if_pos ((h _).1 hc)]
  · rw [if_neg hc, if_neg fun hd => hc ((h _).2 hd)]
theorem popP_getD (S : List (List Int)) (c : List Int) (i : Nat) : (popP S c).getD i [] = if (i : Int) ∈ c then (S.getD i []).drop 1 else S.getD i [] := by
  by_cases hi : i < S.length
  · have h1 : i < (popP S c).length := by rw [popP_length]; exact hi
    rw [List.getD_eq_getElem?_getD, List.getElem?_eq_getElem h1, Option.getD_some, popP_get S c i h1 hi, List.getD_eq_getElem?_getD, List.getElem?_eq_getElem hi, Option.getD_some]
  · have h1 : ¬ i < (popP S c).length := by rw [popP_length]; exact hi
    have e1 : (popP S c).getD i [] = [] := by rw [List.getD_eq_getElem?_getD, List.getElem?_eq_none (by omega)]; rfl
    have e2 : S.getD i [] = [] := by rw [List.getD_eq_getElem?_getD, List.getElem?_eq_none (by omega)]; rfl
    rw [e1, e2]
    split <;> rfl
theorem popP_comm (S : List (List Int)) (c d : List Int) : popP (popP S c) d = popP (popP S d) c := by
  apply List.ext_getElem (by simp only [popP_length])
  intro i h1 h2
  have h0 : i < S.length := by rw [popP_length, popP_length] at h1; exact h1
  have a1 : i < (popP S c).length := by rw [popP_length]; exact h0
  have a2 : i < (popP S d).length := by rw [popP_length]; exact h0
  rw [popP_get _ d i h1 a1, popP_get _ c i h2 a2, popP_get _ c i a1 h0, popP_get _ d i a2 h0]
  split <;> split <;> rfl
theorem itf_add (f : Int -> Int) (p : Int) (i : Nat) : ∀ m, itf f p (i + m) = itf f (itf f p i) m
  | 0 => rfl
  | m + 1 => by rw [← Nat.add_assoc, itf, itf, itf_add f p i m]
theorem itf_mod {f : Int -> Int} {p : Int} {k : Nat} (h : itf f p k = p) (hk : 1 ≤ k) : ∀ m, ∃ j, j < k /\ itf f p j = itf f p m
  | 0 => ⟨0, by omega, rfl⟩
  | m + 1 => by
    obtain ⟨j, h1, h2⟩ := itf_mod h hk m
    by_cases e : j + 1 = k
    · exact ⟨0, by omega, by
        show p = f (itf f p m)
        rw [← h2]
        show p = itf f p (j + 1)
        rw [e, h]⟩
    · exact ⟨j + 1, by omega, by rw [itf, itf, h2]⟩
theorem Cyc.cl {g S : List (List Int)} {c : List Int} (h : Cyc g S c) {x : Int} (hx : x ∈ c) : ∀ m, itf (sx g S) x m ∈ c := by
  obtain ⟨p, k, hk, h0, h1, e, hm⟩ := h
  intro m
  obtain ⟨j, h2, h3⟩ := (hm x).1 hx
  obtain ⟨j', h4, h5⟩ := itf_mod e hk (j + m)
  rw [itf_add, h3] at h5
  exact (hm _).2 ⟨j', h4, h5⟩
theorem Cyc.to {g S : List (List Int)} {c : List Int} (h : Cyc g S c) {x y : Int} (hx : x ∈ c) (hy : y ∈ c) : ∃ m, itf (sx g S) x m = y := by
  obtain ⟨p, k, hk, h0, h1, e, hm⟩ := h
  obtain ⟨i, h2, h3⟩ := (hm x).1 hx
  obtain ⟨j, h4, h5⟩ := (hm y).1 hy
  refine ⟨k - i + j, ?_⟩
  rw [← h3, ← itf_add, show i + (k - i + j) = k + j by omega, itf_add, e, h5]
theorem Cyc.same {g S : List (List Int)} {c d : List Int} (h : Cyc g S c) (h' : Cyc g S d) {x : Int} (hc : x ∈ c) (hd : x ∈ d) : ∀ y, y ∈ c ↔ y ∈ d := by
  intro y
  constructor
  · intro hy
    obtain ⟨m, e⟩ := h.to hc hy
    rw [← e]; exact h'.cl hd m
  · intro hy
    obtain ⟨m, e⟩ := h'.to hd hy
    rw [← e]; exact h.cl hc m
theorem Cyc.ne {g S : List (List Int)} {c : List Int} (h : Cyc g S c) : ∃ p, p ∈ c := by
  obtain ⟨p, k, hk, h0, h1, e, hm⟩ := h
  exact ⟨p, (hm p).2 ⟨0, by omega, rfl⟩⟩
theorem Cyc.pos {g S : List (List Int)} {c : List Int} (h : Cyc g S c) {x : Int} (hx : x ∈ c) : 0 ≤ x := by
  obtain ⟨p, k, hk, h0, h1, e, hm⟩ := h
  obtain ⟨j, h2, h3⟩ := (hm x).1 hx
  refine Int.not_lt.1 fun hn => ?_
  have := its_neg (g := g) (S := S) (p := p) (k := j) (by rw [h3]; exact hn) (k - j)
  rw [show j + (k - j) = k by omega, e] at this
  omega
theorem Cyc.top {g S : List (List Int)} {c : List Int} (h : Cyc g S c) {x : Int} (hx : x ∈ c) : (S.getD x.toNat []).length ≠ 0 := by
  intro e
  have h1 := h.pos (h.cl hx 1)
  have h2 : sx g S x = -1 := sx_none e
  rw [show itf (sx g S) x 1 = sx g S x from rfl, h2] at h1
  omega
theorem sx_pop {g S : List (List Int)} {c : List Int} {x : Int} (h : x ∉ c) : sx g (popP S c) x = sx g S x := by
  unfold sx
  split
  · rfl
  · rename_i h0
    have e : ((x.toNat : Nat) : Int) = x := by omega
    rw [popP_getD, e, if_neg h]
theorem Cyc.keep {g S : List (List Int)} {c d : List Int} (h : Cyc g S d) (hd : ∀ x, x ∈ c -> x ∉ d) : Cyc g (popP S c) d := by
  have hh := h
  obtain ⟨p, k, hk, h0, h1, e, hm⟩ := h
  have hp : p ∈ d := (hm p).2 ⟨0, by omega, rfl⟩
  have key : ∀ j, itf (sx g (popP S c)) p j = itf (sx g S) p j := by
    intro j
    induction j with
    | zero => rfl
    | succ j ih =>
      rw [itf, itf, ih]
      exact sx_pop fun hc => hd _ hc (hh.cl hp j)
  exact ⟨p, k, hk, h0, h1, by rw [key]; exact e, fun x => by rw [hm x]; simp only [key]⟩
theorem Red.after {g E : List (List Int)} (hE : ∀ c, ¬ Cyc g E c) : ∀ {n : Nat} {S : List (List Int)} {d : List Int}, Red g n S E -> Cyc g S d -> ∃ m, n = m + 1 /\ Red g m (popP S d) E
  | 0, S, d, h, hd => by rw [show S = E from h] at hd; exact absurd hd (hE d)
  | n + 1, S, d, h, hd => by
    obtain ⟨c, hc, hr⟩ := h
    by_cases hx : ∃ x, x ∈ c /\ x ∈ d
    · obtain ⟨x, h1, h2⟩ := hx
      exact ⟨n, rfl, by rw [← popP_congr (hc.same hd h1 h2)]; exact hr⟩
    · have hx1 : ∀ x, x ∈ c -> x ∉ d := fun x h1 h2 => hx ⟨x, h1, h2⟩
      obtain ⟨m, e, hr'⟩ := Red.after hE hr (hd.keep hx1)
      subst e
      refine ⟨m + 1, rfl, c, hc.keep fun x h1 h2 => hx ⟨x, h2, h1⟩, ?_⟩
      rw [popP_comm]; exact hr'
theorem Red.same {g E : List (List Int)} (hE : ∀ c, ¬ Cyc g E c) : ∀ {n m : Nat} {S E' : List (List Int)}, Red g n S E -> Red g m S E' -> (∀ c, ¬ Cyc g E' c) -> n = m /\ E = E'
  | n, 0, S, E', h, h', hE' => by
    rw [show S = E' from h'] at h
    match n, h with
    | 0, h => exact ⟨rfl, (show E' = E from h).symm⟩
    | n + 1, h => obtain ⟨c, hc, _⟩ := h; exact absurd hc (hE' c)
  | n, m + 1, S, E', h, h', hE' => by
    obtain ⟨c, hc, hr⟩ := h'
    obtain ⟨k, e, hk⟩ := h.after hE hc
    obtain ⟨a, b⟩ := Red.same hE hk hr hE'
    exact ⟨by omega, b⟩
theorem Red.rest {g E : List (List Int)} : ∀ {n : Nat} {S : List (List Int)}, Red g n S E -> E.length = S.length /\ ∀ i, ∃ k, E.getD i [] = (S.getD i []).drop k
  | 0, S, h => by rw [← show S = E from h]; exact ⟨rfl, fun i => ⟨0, rfl⟩⟩
  | n + 1, S, h => by
    obtain ⟨c, hc, hr⟩ := h
    obtain ⟨a, b⟩ := Red.rest hr
    refine ⟨by rw [a, popP_length], fun i => ?_⟩
    obtain ⟨k, hk⟩ := b i
    rw [popP_getD] at hk
    split at hk
    · exact ⟨1 + k, by rw [hk, List.drop_drop]⟩
    · exact ⟨k, hk⟩
end Go.Proofs.YtkjkfjkapbpgiaaGreatDoor
