import Derived.Test.YtkjkfjkapbpgiaaGreatDoorCyclesOnTopU3
import Derived.Test.YtkjkfjkapbpgiaaGreatDoorM4
import Derived.Laws.BytesArg
import Derived.Test.YtkjkfjkapbpgiaaGreatDoorCyclesOnTopH
set_option linter.unusedVariables false
set_option linter.unusedSimpArgs false
namespace Go.Proofs.YtkjkfjkapbpgiaaGreatDoor
open Go Go.Mx
@[reducible] def tI : TypeId := 3
@[reducible] def tIs : TypeId := 33
@[reducible] def tIss : TypeId := 24
theorem rIs : rowC Tryz.prog tIs = some (tI, 1, 8, [VI 0]) := by kernel_rfl
theorem rIss : rowC Tryz.prog tIss = some (tIs, 1, 24, [nilSl.v]) := by kernel_rfl
@[reducible] def OwI (h : Heap) (F : Nat -> Prop) (s : Sl) (xs : List Int) : Prop := Ow h F tI 1 s (xs.map VI)
@[reducible] def OwX (h : Heap) (F : Nat -> Prop) (s : Sl) (xss : List (List Int)) : Prop := OwR h F tIs tI s xss
theorem plainVI (xs : List Int) : (xs.map VI).all plainV = true := by simp [List.all_eq_true, plainV]
theorem k_impl_in (n lo hi : Int) (h : Heap) (K : Value -> Heap -> Prop) (H : K (VB (decide (lo ≤ n) && decide (n ≤ hi))) h) : callM Tryz.prog 72 #[VI n, VI lo, VI hi] h K := by
  refine v72 n lo hi h K ⟨fun e => ?_, fun e => ?_⟩
  · rw [e, Bool.true_and] at H; exact H
  · rw [e, Bool.false_and] at H; exact H
theorem k_spec_l1In (n lo hi : Int) (h : Heap) (K : Value -> Heap -> Prop) (H : K (VB (decide (lo ≤ n) && decide (n ≤ hi))) h) : callM Tryz.prog 74 #[VI n, VI lo, VI hi] h K := by
  refine v74 n lo hi h K ⟨fun e => ?_, fun e => ?_⟩
  · rw [e, Bool.true_and] at H; exact H
  · rw [e, Bool.false_and] at H; exact H
def inR (lo hi x : Int) : Bool := decide (lo ≤ x) && decide (x ≤ hi)
def graphB (g : List (List Int)) : Bool := inR 1 8 g.length && g.all fun l => !decide (5 < (l.length : Int)) && l.all (inR 0 ((g.length : Int) - 1))
theorem not_t {b : Bool} (h : (!b) = true) : b = false := by simpa using h
theorem not_f {b : Bool} (h : (!b) = false) : b = true := by simpa using h
theorem k_spec_l1All {S : Nat -> Prop} {h : Heap} {l : Sl} {xs : List Int} (H : RdI S h l xs) (lo hi_1 : Int) (K : Value -> Heap -> Prop) (HK : K (VB (xs.all (inR lo hi_1))) h) : callM Tryz.prog 79 #[l.v, VI lo, VI hi_1] h K := by
  refine v79 l lo hi_1 h K ?_
  refine ⟨fun n i h' => h' = h /\ 0 ≤ i /\ i + n = (xs.length : Int) /\ xs.all (inR lo hi_1) = (xs.drop i.toNat).all (inR lo hi_1), ⟨xs.length, rfl, by omega, by omega, by simp⟩, ?_⟩
  rintro n i _ ⟨rfl, h0, h1, h2⟩ hL
  refine ⟨fun e => ?_, fun e => ?_⟩
  · have hi := H.lt e
    refine ⟨H.inb h0 hi, _, H.get h0 hi, ?_⟩
    rw [drop_cons xs h0 hi, List.all_cons] at h2
    refine k_spec_l1In _ _ _ _ _ ⟨_, rfl, hL, fun e2 => ?_, fun e2 => ?_⟩
    · have e3 : inR lo hi_1 (xs[i.toNat]'(by omega)) = false := not_t e2
      rw [h2, e3] at HK
      exact HK
    · have e3 : inR lo hi_1 (xs[i.toNat]'(by omega)) = true := not_f e2
      rw [e3, Bool.true_and] at h2
      rw [H.succ h0 hi]
      exact ⟨n - 1, by omega, rfl, by omega, by omega, h2⟩
  · have hi := H.ge e
    rw [List.drop_of_length_le (by omega)] at h2
    rw [h2] at HK
    exact HK
theorem k_spec_grGood {S : Nat -> Prop} {h : Heap} {g : Sl} {xss : List (List Int)} (H : RdR S h g xss) : Ret Tryz.prog 82 #[.agg #[g.v]] h (VB (graphB xss)) := by
  intro K HK
  refine v82 g h K ?_
  intro b1 h1 hb1 hf1 hL1
  have f1 := hf1.in_nil
  have hlen := H.len
  refine k_spec_l1In _ _ _ _ _ ⟨_, rfl, hL1, fun e => ?_, fun e => ?_⟩
  · have e3 : inR 1 8 xss.length = false := by have := not_t e; rw [hlen] at this; exact this
    have : graphB xss = false := by unfold graphB; rw [e3]; rfl
    rw [← this]; exact HK _ f1
  · have e3 : inR 1 8 xss.length = true := by have := not_f e; rw [hlen] at this; exact this
    have hw : w64 ((g.n : Int) - 1) = (xss.length : Int) - 1 := by rw [hlen]; exact w64_eq _ (by omega) (by have := maxLen_lt H.big; omega)
    have hg : graphB xss = xss.all fun l => !decide (5 < (l.length : Int)) && l.all (inR 0 ((xss.length : Int) - 1)) := by unfold graphB; rw [e3]; rfl
    rw [hw]
    refine ⟨fun n i h' => Fr No h1 h' /\ 0 ≤ i /\ i + n = (xss.length : Int) /\ graphB xss = (xss.drop i.toNat).all (fun l => !decide (5 < (l.length : Int)) && l.all (inR 0 ((xss.length : Int) - 1))), ⟨xss.length, Fr.refl _ _, by omega, by omega, by simp [hg]⟩, ?_⟩
    rintro n i h3 ⟨f3, h0, h2, h4⟩ hL
    have H3 := (H.no f1).no f3
    refine ⟨fun e => ?_, fun e => ?_⟩
    · have hi := H.lt e
      obtain ⟨si, hc, Hi⟩ := H3.get h0 hi
      refine ⟨H3.inb h0 hi, si, hc, fun e5 => ?_, fun e5 => ?_⟩
      · rw [drop_cons xss h0 hi, List.all_cons] at h4
        rw [Hi.len] at e5
        rw [e5] at h4
        have h5 : graphB xss = false := by rw [h4]; rfl
        rw [← h5]; exact HK _ (f1.trans f3)
      · rw [drop_cons xss h0 hi, List.all_cons] at h4
        rw [Hi.len] at e5
        rw [e5] at h4
        refine k_spec_l1All Hi _ _ _ ⟨_, rfl, hL, fun e6 => ?_, fun e6 => ?_⟩
        · rw [not_t e6] at h4
          have h5 : graphB xss = false := by rw [h4]; rfl
          rw [← h5]; exact HK _ (f1.trans f3)
        · rw [not_f e6] at h4
          rw [H.succ h0 hi]
          exact ⟨n - 1, by omega, f3, by omega, by omega, by rw [h4]; rfl⟩
    · have hi := H.ge e
      rw [List.drop_of_length_le (by omega)] at h4
      have h5 : graphB xss = true := by rw [h4]; rfl
      rw [← h5]; exact HK _ (f1.trans f3)
theorem k_IndexFunc {S : Nat -> Prop} {h : Heap} {s : Sl} {xs : List Int} (H : RdI S h s xs) (f : Value) (p : Int -> Bool) (hf : ∀ (x : Int) (K : Value -> Heap -> Prop), K (VB (p x)) h -> callV Tryz.prog f [VI x] h K) (K : Value -> Heap -> Prop) (HK : ∀ r : Int, decide (0 ≤ r) = xs.any p -> K (VI r) h) : callM Tryz.prog 124 #[s.v, f] h K := by
  refine v124 s f h K ⟨fun n i h' => h' = h /\ 0 ≤ i /\ i + n = (xs.length : Int) /\ xs.any p = (xs.drop i.toNat).any p, ⟨xs.length, rfl, by omega, by omega, by simp⟩, ?_⟩
  rintro n i _ ⟨rfl, i0, i1, i2⟩ hL
  refine ⟨fun e => ?_, fun e => ?_⟩
  · have hi := H.lt e
    rw [drop_cons xs i0 hi, List.any_cons] at i2
    refine ⟨H.inb i0 hi, _, H.get i0 hi, hf _ _ ⟨_, rfl, .nil, fun e => ?_, fun e => ?_⟩⟩
    · rw [e, Bool.true_or] at i2
      exact HK _ (by rw [i2]; simpa using i0)
    · rw [e, Bool.false_or] at i2
      rw [H.succ i0 hi]
      exact ⟨n - 1, by omega, rfl, by omega, by omega, i2⟩
  · have hi := H.ge e
    rw [List.drop_of_length_le (by omega)] at i2
    exact HK _ (by rw [i2]; rfl)
theorem k_ContainsFunc {S : Nat -> Prop} {h : Heap} {s : Sl} {xs : List Int} (H : RdI S h s xs) (f : Value) (p : Int -> Bool) (hf : ∀ (x : Int) (K : Value -> Heap -> Prop), K (VB (p x)) h -> callV Tryz.prog f [VI x] h K) (K : Value -> Heap -> Prop) (HK : K (VB (xs.any p)) h) : callM Tryz.prog 75 #[s.v, f] h K := by
  refine v75 s f h K (k_IndexFunc H f p hf _ fun r hr => ⟨r, rfl, .nil, ?_⟩)
  rw [hr]; exact HK
theorem k_isGraph1 {h : Heap} {b : Nat} {n : Int} (x : Int) {L : List (Nat × List Value)} (hL : Vars h ((b, [VI n]) :: L)) (K : Value -> Heap -> Prop) (HK : K (VB (!inR 0 (w64 (n - 1)) x)) h) : callV Tryz.prog (.func (.func 134) #[] #[VP b 0]) [VI x] h K := by
  refine v134 x b n h K (.cons hL.head (by simp) .nil) ?_
  refine k_impl_in _ _ _ _ _ ⟨_, rfl, .cons hL.head (by simp) .nil, ?_⟩
  exact HK
theorem k_has1 {h : Heap} {b : Nat} {g : Sl} (x : Int) {L : List (Nat × List Value)} (hL : Vars h ((b, [g.v]) :: L)) (K : Value -> Heap -> Prop) (HK : K (VB (!inR 0 (w64 (g.n - 1)) x)) h) : callV Tryz.prog (.func (.func 112) #[] #[VP b 0]) [VI x] h K := by
  refine v112 x b g h K (.cons hL.head (by simp) .nil) ?_
  refine k_impl_in _ _ _ _ _ ⟨_, rfl, .cons hL.head (by simp) .nil, ?_⟩
  exact HK
theorem graphB_eq {xss : List (List Int)} (e3 : inR 1 8 xss.length = true) : graphB xss = xss.all fun l => !decide (5 < (l.length : Int)) && l.all (inR 0 ((xss.length : Int) - 1)) := by unfold graphB; rw [e3]; rfl
theorem graphB_no {xss : List (List Int)} (e3 : inR 1 8 xss.length = false) : graphB xss = false := by unfold graphB; rw [e3]; rfl
theorem any_not {xs : List Int} {p : Int -> Bool} : xs.any (fun x => !p x) = !xs.all p := by
  induction xs with
  | nil => rfl
  | cons x xs ih => simp only [List.any_cons, List.all_cons, ih, Bool.not_and]
theorem len_w64 {S : Nat -> Prop} {h : Heap} {g : Sl} {xss : List (List Int)} (H : RdR S h g xss) : w64 ((g.n : Int) - 1) = (xss.length : Int) - 1 := by
  rw [H.len]
  have h1 := maxLen_lt H.big
  have h2 := H.len
  exact w64_eq _ (by omega) (by omega)
theorem k_isGraph {S : Nat -> Prop} {h : Heap} {g : Sl} {xss : List (List Int)} (H : RdR S h g xss) : Ret Tryz.prog 94 #[.agg #[g.v]] h (VB (graphB xss)) := by
  intro K HK
  refine v94 g h K fun b1 b2 h1 hb1 hb2 hf1 hL1 => ?_
  have f1 := hf1.in_nil
  have hlen := H.len
  refine k_impl_in _ _ _ _ _ ⟨_, rfl, hL1, fun e => ?_, fun e => ?_⟩
  · have e3 : inR 1 8 xss.length = false := by have := not_t e; rw [hlen] at this; exact this
    rw [← graphB_no e3]; exact HK _ f1
  · have e3 : inR 1 8 xss.length = true := by have := not_f e; rw [hlen] at this; exact this
    have hg := graphB_eq e3
    refine ⟨fun n i x h' => h' = h1 /\ x = (g.n : Int) /\ 0 ≤ i /\ i + n = (xss.length : Int) /\ graphB xss = (xss.drop i.toNat).all (fun l => !decide (5 < (l.length : Int)) && l.all (inR 0 ((xss.length : Int) - 1))), ⟨xss.length, rfl, rfl, by omega, by omega, by simp [hg]⟩, ?_⟩
    rintro n i x _ ⟨rfl, rfl, h0, h2, h4⟩ hL
    have H3 := H.no f1
    refine ⟨fun e => ?_, fun e => ?_⟩
    · have hi := H.lt e
      obtain ⟨si, hc, Hi⟩ := H3.get h0 hi
      rw [drop_cons xss h0 hi, List.all_cons] at h4
      refine ⟨H3.inb h0 hi, si, hc, fun e5 => ?_, fun e5 => ?_⟩
      · rw [Hi.len] at e5
        rw [e5] at h4
        have h5 : graphB xss = false := by rw [h4]; rfl
        rw [← h5]; exact HK _ f1
      · rw [Hi.len] at e5
        rw [e5] at h4
        refine k_ContainsFunc Hi _ _ (fun x K HK => k_isGraph1 x hL K HK) _ ?_
        refine ⟨_, _, rfl, hL, fun e6 => ?_, fun e6 => ?_⟩
        · rw [any_not, len_w64 H] at e6
          rw [not_t e6] at h4
          have h5 : graphB xss = false := by rw [h4]; rfl
          rw [← h5]; exact HK _ f1
        · rw [any_not, len_w64 H] at e6
          rw [not_f e6] at h4
          rw [H.succ h0 hi]
          exact ⟨n - 1, by omega, rfl, rfl, by omega, by omega, by rw [h4]; rfl⟩
    · have hi := H.ge e
      rw [List.drop_of_length_le (by omega)] at h4
      have h5 : graphB xss = true := by rw [h4]; rfl
      rw [← h5]; exact HK _ f1
theorem k_has {S S' : Nat -> Prop} {h : Heap} {g s : Sl} {xss : List (List Int)} {ps : List Int} (H : RdR S h g xss) (Hp : RdI S' h s ps) : Ret Tryz.prog 54 #[.agg #[g.v], s.v] h (VB (graphB xss && ps.all (inR 0 ((xss.length : Int) - 1)))) := by
  intro K HK
  refine v54 g s h K fun b1 h1 hb1 f1 hL1 => ?_
  have f1 := f1.in_nil
  refine k_isGraph (H.no f1) _ fun h2 f2 => ⟨_, rfl, hL1.of_no f2, fun e => ?_, fun e => ?_⟩
  · rw [e, Bool.true_and] at HK
    have hL2 := hL1.of_no f2
    refine k_ContainsFunc ((Hp.no f1).no f2) _ _ (fun x K HK => k_has1 x hL2 K HK) _ ?_
    refine ⟨_, _, rfl, hL2, ?_⟩
    rw [any_not, len_w64 H, Bool.not_not]
    exact HK _ (f1.trans f2)
  · rw [e, Bool.false_and] at HK
    exact HK _ (f1.trans f2)
theorem k_spec_grPlace {S : Nat -> Prop} {h : Heap} {g : Sl} {xss : List (List Int)} (H : RdR S h g xss) (p : Int) : Ret Tryz.prog 55 #[.agg #[g.v], VI p] h (VB (graphB xss && inR 0 ((xss.length : Int) - 1) p)) := by
  intro K HK
  refine v55 g p h K fun b1 h1 hb1 f1 hL1 => ?_
  have f1 := f1.in_nil
  refine k_spec_grGood (H.no f1) _ fun h2 f2 => ⟨_, rfl, hL1.of_no f2, fun e => ?_, fun e => ?_⟩
  · rw [e, Bool.true_and] at HK
    refine k_spec_l1In _ _ _ _ _ ⟨_, rfl, hL1.of_no f2, ?_⟩
    rw [len_w64 H]
    exact HK _ (f1.trans f2)
  · rw [e, Bool.false_and] at HK
    exact HK _ (f1.trans f2)
theorem k_spec_l1Most (a b : Int) (h : Heap) (K : Value -> Heap -> Prop) (HK : K (VI (max a b)) h) : callM Tryz.prog 123 #[VI a, VI b] h K := by
  refine v123 a b h K ⟨fun e => ?_, fun e => ?_⟩
  · simp only [decide_eq_true_eq] at e
    rw [Int.max_eq_left (by omega)] at HK
    exact HK
  · simp only [decide_eq_false_iff_not] at e
    rw [Int.max_eq_right (by omega)] at HK
    exact HK
def rotB (l : List Int) (r : Int) : Bool := inR 0 (max ((l.length : Int) - 1) 0) r
def walkB (g : List (List Int)) (rs : List Int) (p : Int) : Bool := graphB g && inR 0 ((g.length : Int) - 1) p && decide (rs.length = g.length) && (g.zip rs).all fun q => rotB q.1 q.2
theorem walkB_no1 {g : List (List Int)} {rs : List Int} {p : Int} (e : (graphB g && inR 0 ((g.length : Int) - 1) p) = false) : walkB g rs p = false := by unfold walkB; rw [e]; rfl
theorem walkB_no2 {g : List (List Int)} {rs : List Int} {p : Int} (e : ¬ rs.length = g.length) : walkB g rs p = false := by unfold walkB; rw [decide_eq_false e]; simp
theorem walkB_eq {g : List (List Int)} {rs : List Int} {p : Int} (e : (graphB g && inR 0 ((g.length : Int) - 1) p) = true) (e2 : rs.length = g.length) : walkB g rs p = (g.zip rs).all fun q => rotB q.1 q.2 := by unfold walkB; rw [e, decide_eq_true e2]; rfl
theorem zip_drop (g : List (List Int)) (rs : List Int) {i : Int} (h0 : 0 ≤ i) (h1 : i < (g.length : Int)) (h2 : i < (rs.length : Int)) : (g.zip rs).drop i.toNat = (g[i.toNat]'(by omega), rs[i.toNat]'(by omega)) :: (g.zip rs).drop (i + 1).toNat := by
  have := drop_cons (g.zip rs) h0 (by simp; omega)
  simpa using this
theorem len_w64I {S : Nat -> Prop} {h : Heap} {g : Sl} {xs : List Int} (H : RdI S h g xs) : w64 ((g.n : Int) - 1) = (xs.length : Int) - 1 := by
  rw [H.len]
  have h1 := maxLen_lt (RdV.big H)
  have h2 := H.len
  exact w64_eq _ (by omega) (by omega)
theorem k_isWalk {S S' : Nat -> Prop} {h : Heap} {g s : Sl} {xss : List (List Int)} {rs : List Int} (G : RdR S h g xss) (H : RdI S' h s rs) (p : Int) : Ret Tryz.prog 84 #[.agg #[g.v], .agg #[s.v, VI p]] h (VB (walkB xss rs p)) := by
  intro K HK
  refine v84 g s p h K fun b1 b2 h1 hb1 hb2 f1 hL1 => ?_
  have f1 := f1.in_nil
  refine eop_lit rIs (fun k => h1.size ≤ k) (fun _ h => h) 1 (by omega) [VI p] rfl rfl fun t h2 n2 c2 o2 f2 l2 _ => ⟨t, rfl, hL1.of_no f2, ?_⟩
  have o2 : RdI (fun k => h1.size ≤ k) h2 t [p] := o2.rdF
  refine k_has ((G.no f1).no f2) o2 _ fun h3 f3 => ⟨_, rfl, (hL1.of_no f2).of_no f3, fun e => ?_, fun e => ?_⟩
  all_goals simp only [List.all_cons, List.all_nil, Bool.and_true] at e
  · rw [← walkB_no1 (rs := rs) (not_t e)]; exact HK _ ((f1.no_trans f2).no_trans f3)
  · have f13 := (f1.no_trans f2).no_trans f3
    rw [G.len, H.len]
    refine ⟨fun e2 => ?_, fun e2 => ?_⟩
    · have e3 := not_t e2
      simp only [decide_eq_false_iff_not] at e3
      rw [← walkB_no2 (g := xss) (rs := rs) (p := p) (by omega)]; exact HK _ f13
    · have e3 := not_f e2
      simp only [decide_eq_true_eq] at e3
      have e4 := walkB_eq (not_f e) (rs := rs) (by omega)
      have G3 := G.no f13
      have H3 := H.no f13
      refine ⟨fun n i h' => h' = h3 /\ 0 ≤ i /\ i + n = (xss.length : Int) /\ walkB xss rs p = ((xss.zip rs).drop i.toNat).all fun q => rotB q.1 q.2, ⟨xss.length, rfl, by omega, by omega, by simpa using e4⟩, ?_⟩
      rintro n i _ ⟨rfl, i0, i1, i2⟩ hL
      refine ⟨fun e5 => ?_, fun e5 => ?_⟩
      · have hi : i < (rs.length : Int) := by simpa using e5
        have hi' : i < (xss.length : Int) := by omega
        obtain ⟨si, c1, c2⟩ := G3.get i0 hi'
        rw [zip_drop xss rs i0 hi' hi, List.all_cons] at i2
        refine ⟨H3.inb i0 hi, _, H3.get i0 hi, G3.inb i0 hi', si, c1, ?_⟩
        rw [len_w64I c2]
        refine pop_max _ _ _ _ ⟨_, rfl, k_impl_in _ _ _ _ _ ⟨_, rfl, hL, fun e6 => ?_, fun e6 => ?_⟩⟩
        · have e7 : rotB (xss[i.toNat]'(by omega)) (rs[i.toNat]'(by omega)) = false := not_t e6
          simp only at i2
          rw [e7] at i2
          have e8 : walkB xss rs p = false := by rw [i2]; rfl
          rw [← e8]; exact HK _ f13
        · have e7 : rotB (xss[i.toNat]'(by omega)) (rs[i.toNat]'(by omega)) = true := not_f e6
          simp only at i2
          rw [e7, Bool.true_and] at i2
          rw [H.succ i0 hi]
          exact ⟨n - 1, by omega, rfl, by omega, by omega, i2⟩
      · have hi : ¬ i < (rs.length : Int) := by simpa using e5
        rw [List.drop_of_length_le (by simp; omega)] at i2
        have e8 : walkB xss rs p = true := by rw [i2]; rfl
        rw [← e8]; exact HK _ f13
theorem k_spec_waGood {S S' : Nat -> Prop} {h : Heap} {g s : Sl} {xss : List (List Int)} {rs : List Int} (G : RdR S h g xss) (H : RdI S' h s rs) (p : Int) : Ret Tryz.prog 73 #[.agg #[g.v], .agg #[s.v, VI p]] h (VB (walkB xss rs p)) := by
  intro K HK
  refine v73 g s p h K fun b1 b2 h1 hb1 hb2 f1 hL1 => ?_
  have f1 := f1.in_nil
  refine k_spec_grPlace (G.no f1) p _ fun h3 f3 => ⟨_, rfl, hL1.of_no f3, fun e => ?_, fun e => ?_⟩
  · rw [← walkB_no1 (rs := rs) (not_t e)]; exact HK _ (f1.no_trans f3)
  · have f13 := f1.no_trans f3
    rw [G.len, H.len]
    refine ⟨fun e2 => ?_, fun e2 => ?_⟩
    · have e3 := not_t e2
      simp only [decide_eq_false_iff_not] at e3
      rw [← walkB_no2 (g := xss) (rs := rs) (p := p) (by omega)]; exact HK _ f13
    · have e3 := not_f e2
      simp only [decide_eq_true_eq] at e3
      have e4 := walkB_eq (not_f e) (rs := rs) (by omega)
      have G3 := G.no f13
      have H3 := H.no f13
      refine ⟨fun n i h' => h' = h3 /\ 0 ≤ i /\ i + n = (xss.length : Int) /\ walkB xss rs p = ((xss.zip rs).drop i.toNat).all fun q => rotB q.1 q.2, ⟨xss.length, rfl, by omega, by omega, by simpa using e4⟩, ?_⟩
      rintro n i _ ⟨rfl, i0, i1, i2⟩ hL
      refine ⟨fun e5 => ?_, fun e5 => ?_⟩
      · have hi' : i < (xss.length : Int) := by simpa using e5
        have hi : i < (rs.length : Int) := by omega
        obtain ⟨si, c1, c2⟩ := G3.get i0 hi'
        rw [zip_drop xss rs i0 hi' hi, List.all_cons] at i2
        refine ⟨G3.inb i0 hi', si, c1, H3.inb i0 hi, _, H3.get i0 hi, ?_⟩
        rw [len_w64I c2]
        refine k_spec_l1Most _ _ _ _ ⟨_, rfl, hL, H3.get i0 hi, ?_⟩
        rw [Int.max_comm]
        refine k_spec_l1In _ _ _ _ _ ⟨_, rfl, hL, fun e6 => ?_, fun e6 => ?_⟩
        · have e7 : rotB (xss[i.toNat]'(by omega)) (rs[i.toNat]'(by omega)) = false := not_t e6
          simp only at i2
          rw [e7] at i2
          have e8 : walkB xss rs p = false := by rw [i2]; rfl
          rw [← e8]; exact HK _ f13
        · have e7 : rotB (xss[i.toNat]'(by omega)) (rs[i.toNat]'(by omega)) = true := not_f e6
          simp only at i2
          rw [e7, Bool.true_and] at i2
          rw [G.succ i0 hi']
          exact ⟨n - 1, by omega, rfl, by omega, by omega, i2⟩
      · have hi : ¬ i < (xss.length : Int) := by simpa using e5
        rw [List.drop_of_length_le (by simp; omega)] at i2
        have e8 : walkB xss rs p = true := by rw [i2]; rfl
        rw [← e8]; exact HK _ f13
def totR (xss : List (List Int)) : Nat := (xss.map List.length).sum
theorem totR_take_le : ∀ (xss : List (List Int)) (i : Nat), totR (xss.take i) ≤ totR xss
  | [], i => by simp [totR]
  | x :: xs, 0 => by simp [totR]
  | x :: xs, i + 1 => by
    have := totR_take_le xs i
    simp only [totR, List.take_succ_cons, List.map_cons, List.sum_cons] at *
    omega
theorem totR_snoc (xss : List (List Int)) (i : Nat) (h : i < xss.length) : totR (xss.take (i + 1)) = totR (xss.take i) + xss[i].length := by
  rw [List.take_succ_eq_append_getElem h]
  simp only [totR, List.map_append, List.sum_append, List.map_cons, List.map_nil, List.sum_cons, List.sum_nil]
  omega
theorem nil_of_none {S : Nat -> Prop} {h : Heap} {s : Sl} {xs : List Int} (H : RdI S h s xs) (hn : s.a = none) : xs = [] := by
  cases xs with
  | nil => rfl
  | cons x xs =>
    obtain ⟨a, ha, _⟩ := RdV.cell H 0 (by simp)
    rw [hn] at ha
    cases ha
theorem k_Clone {S : Nat -> Prop} {h : Heap} {s : Sl} {xs : List Int} (H : RdI S h s xs) (hn : xs.length ≤ 1000000000) (K : Value -> Heap -> Prop) (HK : ∀ t h', OwI h' (Iv h.size h'.size) t xs -> Fr No h h' -> K t.v h') : callM Tryz.prog 117 #[s.v] h K := by
  refine v117 s h K (pop_isnil rIs _ _ ⟨_, rfl, fun e => ?_, fun e => ?_⟩)
  · have : xs = [] := nil_of_none H (by simpa using e)
    subst this
    exact HK nilSl h (Ow.nil _ _ _ _) (Fr.refl _ _)
  · refine eop_lit rIs (fun k => h.size ≤ k) (fun _ h => h) 0 (by omega) [] rfl rfl fun t h1 n1 c1 o1 f1 l1 _ => ⟨t, rfl, .nil, ?_⟩
    refine eop_append rIs o1 (fun k hk => Nat.le_trans f1.size hk) (H.no f1) (plainVI _) (by have := H.len; omega) fun t' h2 n2 o2 f2 l2 => ⟨t', rfl, .nil, ?_⟩
    exact HK t' h2 (Ow.toIv (by simpa using o2)) (f1.fresh f2 l1)
theorem k_l1Own {S : Nat -> Prop} {h : Heap} {s : Sl} {xs : List Int} (H : RdI S h s xs) (hn : xs.length ≤ 1000000000) (K : Value -> Heap -> Prop) (HK : ∀ t h', OwI h' (Iv h.size h'.size) t xs -> Fr No h h' -> K t.v h') : callM Tryz.prog 119 #[s.v] h K := by
  refine v119 s h K ?_
  refine eop_lit rIs (fun k => h.size ≤ k) (fun _ h => h) 0 (by omega) [] rfl rfl fun t h1 n1 c1 o1 f1 l1 _ => ⟨t, rfl, .nil, ?_⟩
  refine eop_append rIs o1 (fun k hk => Nat.le_trans f1.size hk) (H.no f1) (plainVI _) (by have := H.len; omega) fun t' h2 n2 o2 f2 l2 => ⟨t', rfl, .nil, ?_⟩
  exact HK t' h2 (Ow.toIv (by simpa using o2)) (f1.fresh f2 l1)
theorem tot_short {n : Nat} : ∀ {xss : List (List Int)} {m : Nat}, xss.length ≤ m -> (∀ l, l ∈ xss -> l.length ≤ n) -> totR xss ≤ m * n
  | [], m, _, _ => by simp [totR]
  | x :: xs, 0, h, _ => by simp at h
  | x :: xs, m + 1, h, h2 => by
    have h3 := tot_short (n := n) (xss := xs) (m := m) (by simpa using h) fun l hl => h2 l (List.mem_cons_of_mem _ hl)
    have h4 := h2 x (by simp)
    have h5 : totR (x :: xs) = x.length + totR xs := by simp [totR]
    rw [h5, Nat.add_mul]
    omega
theorem short_of_tot {xss : List (List Int)} : ∀ l, l ∈ xss -> l.length ≤ totR xss := by
  induction xss with
  | nil => intro l h; simp at h
  | cons x xs ih =>
    intro l hl
    have h5 : totR (x :: xs) = x.length + totR xs := by simp [totR]
    rcases List.mem_cons.1 hl with rfl | hl
    · omega
    · have := ih l hl; omega
theorem inR_iff {lo hi x : Int} : inR lo hi x = true ↔ lo ≤ x /\ x ≤ hi := by simp [inR]
theorem graph_len {g : List (List Int)} (h : graphB g = true) : 1 ≤ g.length /\ g.length ≤ 8 := by
  unfold graphB at h
  rw [Bool.and_eq_true, inR_iff] at h
  omega
theorem graph_mem {g : List (List Int)} (h : graphB g = true) {l : List Int} (hl : l ∈ g) : l.length ≤ 5 /\ ∀ x, x ∈ l -> 0 ≤ x /\ x < (g.length : Int) := by
  unfold graphB at h
  rw [Bool.and_eq_true] at h
  have := List.all_eq_true.1 h.2 l hl
  rw [Bool.and_eq_true] at this
  obtain ⟨h1, h2⟩ := this
  simp only [Bool.not_eq_true', decide_eq_false_iff_not] at h1
  refine ⟨by omega, fun x hx => ?_⟩
  have := List.all_eq_true.1 h2 x hx
  rw [inR_iff] at this
  omega
theorem getD_get {g : List (List Int)} {i : Nat} (h : i < g.length) : g.getD i [] = g[i] := by simp [List.getD, List.getElem?_eq_getElem h]
theorem k_Grow0 (h : Heap) (n : Nat) (hn : n ≤ 1000000000) (K : Value -> Heap -> Prop) (HK : ∀ t h', OwI h' (Iv h.size h'.size) t [] -> Fr No h h' -> K t.v h') : callM Tryz.prog 137 #[nilSl.v, VI n] h K := by
  refine v137 nilSl n h K ⟨fun h' => h' = h, ⟨fun e => ?_, fun _ => rfl⟩, ?_⟩
  · simp only [decide_eq_true_eq] at e
    omega
  rintro hh rfl hL
  have e0 : w64 ((nilSl.c : Int) - (nilSl.n : Int)) = 0 := by decide
  refine pop_cap rIs ⟨_, rfl, ?_⟩
  rw [e0, show w64 ((n : Int) - 0) = n from w64_eq _ (by omega) (by omega)]
  refine ⟨fun e => ?_, fun e => ?_⟩
  · simp only [decide_eq_true_eq] at e
    refine pop_cap rIs ⟨_, rfl, pop_cut_h rIs .i64 (by simp [nilSl]) (Int.le_refl _) ⟨_, rfl, ?_⟩⟩
    have e2 : nilSl.cut 1 0 ((nilSl.c : Int)).toNat nilSl.c = nilSl := rfl
    rw [e2]
    refine eop_zeros rIs (show Tryz.prog.underlying tI = some (.int .i64) by kernel_rfl) (fun k => hh.size ≤ k) (fun _ h => h) _ n (by omega) (by omega) fun t h2 n2 o2 f2 l2 => ⟨t, rfl, .nil, ?_⟩
    refine pop_cut_h rIs .i64 (by simp [nilSl]) (by have := o2.cap; simp [nilSl]) ⟨_, rfl, ?_⟩
    have o3 := o2.cut (l := 0) (m := 0) (Nat.le_refl _) (Nat.zero_le _)
    have e3 : ((0 : Nat) - 0) * 1 = 0 := rfl
    rw [e3, List.take_zero] at o3
    exact HK _ h2 (Ow.toIv o3) f2
  · exact HK nilSl _ (Ow.nil _ _ _ _) (Fr.refl _ _)
theorem totR_flat (xss : List (List Int)) : xss.flatten.length = totR xss := by simp [totR, List.length_flatten]
theorem k_Concat {S : Nat -> Prop} {h : Heap} {s : Sl} {xss : List (List Int)} (H : RdR S h s xss) (hn : xss.length + totR xss ≤ 1000000000) (K : Value -> Heap -> Prop) (HK : ∀ t h', OwI h' (Iv h.size h'.size) t xss.flatten -> Fr No h h' -> K t.v h') : callM Tryz.prog 97 #[s.v] h K := by
  refine v97 s h K ⟨fun n z i h' => h' = h /\ 0 ≤ i /\ i + n = (xss.length : Int) /\ z = totR (xss.take i.toNat), ⟨xss.length, rfl, by omega, by omega, by simp [totR]⟩, ?_⟩
  rintro n z i hh ⟨rfl, i0, i1, rfl⟩ hL
  refine ⟨fun e => ?_, fun e => ?_⟩
  · have hi := H.lt e
    obtain ⟨si, c1, c2⟩ := H.get i0 hi
    have hsn := totR_snoc xss i.toNat (by omega)
    have hle := totR_take_le xss (i.toNat + 1)
    have hw : w64 ((totR (xss.take i.toNat) : Int) + si.n) = totR (xss.take (i.toNat + 1)) := by rw [c2.len, hsn]; exact w64_eq _ (by omega) (by omega)
    refine ⟨H.inb i0 hi, si, c1, ?_⟩
    rw [hw]
    refine ⟨fun e => ?_, fun e => ?_⟩
    · simp only [decide_eq_true_eq] at e
      omega
    · rw [H.succ i0 hi]
      exact ⟨n - 1, by omega, rfl, by omega, by omega, by rw [toNat_succ i0]⟩
  · have hi := H.ge e
    rw [List.take_of_length_le (by omega)]
    refine k_Grow0 _ (totR xss) (by omega) _ fun t h2 o2 f2 => ⟨t, rfl, .nil, ?_⟩
    refine ⟨fun n x i h' => 0 ≤ i /\ i + n = (xss.length : Int) /\ OwI h' (fun k => hh.size ≤ k) x (xss.take i.toNat).flatten /\ Fr No hh h', ⟨xss.length, by omega, by omega, Ow.mono o2 fun k _ hk => hk.1, f2⟩, ?_⟩
    rintro n x i h3 ⟨i0, i1, o3, f3⟩ hL
    have H3 := H.no f3
    refine ⟨fun e => ?_, fun e => ?_⟩
    · have hi := H.lt e
      obtain ⟨si, c1, c2⟩ := H3.get i0 hi
      have hsn := totR_snoc xss i.toNat (by omega)
      have hle := totR_take_le xss (i.toNat + 1)
      have hfl := totR_flat (xss.take i.toNat)
      refine ⟨H3.inb i0 hi, si, c1, eop_append rIs o3 (fun k hk => Nat.le_trans f3.size hk) c2 (plainVI _) (by have h1 := c2.len; have h2 := RdI.len o3.rdF; omega) fun y h4 n4 o4 f4 d4 => ⟨y, rfl, .nil, ?_⟩⟩
      rw [H.succ i0 hi]
      refine ⟨n - 1, by omega, by omega, by omega, ?_, f3.fresh f4 fun k hk => (o3.foot hk).1⟩
      rw [take_snoc xss i0 hi, List.flatten_append, List.flatten_cons, List.flatten_nil, List.append_nil]
      rw [← List.map_append] at o4
      exact o4
    · have hi := H.ge e
      rw [List.take_of_length_le (by omega)] at o3
      exact HK x h3 o3.toIv f3
abbrev St := List Int × Int
structure WOK (g : List (List Int)) (w : St) : Prop where
  graph : graphB g = true
  len : w.1.length = g.length
  lo : 0 ≤ w.2
  hi : w.2 < (g.length : Int)
  rot : ∀ i (h : i < w.1.length) (h' : i < g.length), 0 ≤ w.1[i] /\ w.1[i] ≤ max ((g[i].length : Int) - 1) 0
theorem wok_of {g : List (List Int)} {rs : List Int} {p : Int} (h : walkB g rs p = true) : WOK g (rs, p) := by
  unfold walkB at h
  simp only [Bool.and_eq_true, decide_eq_true_eq] at h
  obtain ⟨⟨⟨h1, h2⟩, h3⟩, h4⟩ := h
  rw [inR_iff] at h2
  refine ⟨h1, h3, h2.1, by simp only; omega, fun i a b => ?_⟩
  have := List.all_eq_true.1 h4 (g[i], rs[i]) (by
    rw [show (g[i], rs[i]) = (g.zip rs)[i]'(by simp only [List.length_zip]; simp only at a; omega) by simp]
    exact List.getElem_mem _)
  unfold rotB at this
  rw [inR_iff] at this
  exact this
theorem getD_getI {xs : List Int} {i : Nat} (h : i < xs.length) : xs.getD i 0 = xs[i] := by simp [List.getD, List.getElem?_eq_getElem h]
theorem eop_putI {L : List (Nat × List Value)} {F : Nat -> Prop} {h : Heap} {o : Sl} {xs : List Int} {x : Int} (O : OwI h F o xs) (hF : ∀ k, h.size ≤ k -> F k) (hL : Vars h L) (hoff : ∀ p, p ∈ L -> ¬ F p.1) (hb : xs.length ≤ 1000000) (R : Sl -> Heap -> Prop) (HR : ∀ t h', OwI h' F t (xs ++ [x]) -> Fr F h h' -> Vars h' L -> R t h') : eop Tryz.prog (Instr.buildSlice tIs 1 #[(0, VI x)]) h fun rv h1 => ∃ t : Sl, rv = t.v /\ Vars h1 L /\ eop Tryz.prog (appS tIs tIs tIs o.v t.v) h1 fun rv2 h2 => ∃ t2 : Sl, rv2 = t2.v /\ Vars h2 L /\ R t2 h2 := by
  refine eop_lit rIs (fun k => h.size ≤ k) (fun _ h => h) 1 (by omega) [VI x] rfl rfl fun t h1 n1 c1 o1 f1 m1 _ => ⟨t, rfl, hL.of_no f1, ?_⟩
  have z1 := f1.size
  have O1 : OwI h1 F o xs := Ow.no O f1
  have on := O1.rd.len
  have tn := o1.rd.len
  simp only [List.length_map, Nat.mul_one, List.length_cons, List.length_nil] at on tn
  refine eop_append rIs O1 (fun k hk => hF k (by omega)) o1.rd (plainVI [x]) (by omega) fun s' h2 n2 o2 f2 d2 => ?_
  have g2 : Fr F h1 h2 := f2.mono fun k _ hk => (O1.foot hk).1
  have V2 : Vars h2 L := (hL.of_no f1).fr g2 hoff
  exact ⟨s', rfl, V2, HR s' h2 (by rw [OwI, List.map_append]; exact o2) (f1.of_no.trans g2) V2⟩
theorem k_l1Has {S : Nat -> Prop} {h : Heap} {s : Sl} {xs : List Int} (H : RdI S h s xs) (v : Int) (K : Value -> Heap -> Prop) (HK : K (VB (decide (v ∈ xs))) h) : callM Tryz.prog 120 #[s.v, VI v] h K := by
  refine v120 s v h K ⟨fun n i h' => h' = h /\ 0 ≤ i /\ i + n = (xs.length : Int) /\ decide (v ∈ xs) = decide (v ∈ xs.drop i.toNat), ⟨xs.length, rfl, by omega, by omega, by simp⟩, ?_⟩
  rintro n i _ ⟨rfl, i0, i1, i2⟩ hL
  refine ⟨fun e => ?_, fun e => ?_⟩
  · have hi := H.lt e
    rw [drop_cons xs i0 hi] at i2
    refine ⟨H.inb i0 hi, _, H.get i0 hi, fun e => ?_, fun e => ?_⟩
    · simp only [decide_eq_true_eq] at e
      rw [i2, decide_eq_true (by rw [e]; exact List.mem_cons_self)] at HK
      exact HK
    · simp only [decide_eq_false_iff_not] at e
      rw [H.succ i0 hi]
      refine ⟨n - 1, by omega, rfl, by omega, by omega, ?_⟩
      rw [i2, decide_eq_decide, List.mem_cons]
      exact ⟨fun h => h.resolve_left fun h => e h.symm, .inr⟩
  · have hi := H.ge e
    rw [List.drop_of_length_le (by omega)] at i2
    rw [i2] at HK
    simpa using HK
theorem k_IndexI {S : Nat -> Prop} {h : Heap} {s : Sl} {xs : List Int} (H : RdI S h s xs) (v : Int) (K : Value -> Heap -> Prop) (HN : v ∉ xs -> K (VI (-1)) h) (HS : ∀ i : Nat, i < xs.length -> xs.getD i 0 = v -> (∀ j, j < i -> xs.getD j 0 ≠ v) -> K (VI i) h) : callM Tryz.prog 115 #[s.v, VI v] h K := by
  refine v115 s v h K ⟨fun n i h' => h' = h /\ 0 ≤ i /\ i + n = (xs.length : Int) /\ ∀ j : Nat, (j : Int) < i -> xs.getD j 0 ≠ v, ⟨xs.length, rfl, by omega, by omega, fun j hj => by omega⟩, ?_⟩
  rintro n i _ ⟨rfl, i0, i1, i2⟩ hL
  refine ⟨fun e => ?_, fun e => ?_⟩
  · have hi := H.lt e
    refine ⟨H.inb i0 hi, _, H.get i0 hi, fun e => ?_, fun e => ?_⟩
    · simp only [decide_eq_true_eq] at e
      have := HS i.toNat (by omega) (by rw [getD_getI (by omega)]; exact e.symm) fun j hj => i2 j (by omega)
      rwa [show ((i.toNat : Nat) : Int) = i by omega] at this
    · simp only [decide_eq_false_iff_not] at e
      rw [H.succ i0 hi]
      refine ⟨n - 1, by omega, rfl, by omega, by omega, fun j hj => ?_⟩
      by_cases hj2 : (j : Int) < i
      · exact i2 j hj2
      · have : j = i.toNat := by omega
        subst this
        rw [getD_getI (by omega)]
        exact fun h => e h.symm
  · have hi := H.ge e
    refine HN fun hm => ?_
    obtain ⟨j, hj, e2⟩ := List.getElem_of_mem hm
    exact i2 j (by omega) (by rw [getD_getI hj]; exact e2)
theorem php : ∀ (N : Nat) (f : Nat -> Nat), (∀ i, i ≤ N -> f i < N) -> ∃ i j, i < j /\ j ≤ N /\ f i = f j
  | 0, f, h => by have := h 0 (Nat.le_refl _); omega
  | N + 1, f, h => by
    by_cases hx : ∃ i, i ≤ N /\ f i = f (N + 1)
    · obtain ⟨i, h1, h2⟩ := hx
      exact ⟨i, N + 1, by omega, Nat.le_refl _, h2⟩
    · have hx : ∀ i, i ≤ N -> f i ≠ f (N + 1) := fun i h1 h2 => hx ⟨i, h1, h2⟩
      obtain ⟨i, j, h1, h2, h3⟩ := php N (fun i => if f i = N then f (N + 1) else f i) fun i hi => by
        have a := h i (by omega)
        have b := h (N + 1) (by omega)
        have c := hx i hi
        (try simp only)
        split <;> omega
      refine ⟨i, j, h1, by omega, ?_⟩
      have a := hx i (by omega)
      have b := hx j h2
      (try simp only at h3)
      split at h3 <;> split at h3 <;> omega
def nx (g : List (List Int)) (rs : List Int) (p : Int) : Int := if p < 0 then -1 else if (g.getD p.toNat []).length = 0 then -1 else (g.getD p.toNat []).getD (rs.getD p.toNat 0).toNat 0
section
variable {g : List (List Int)} {rs : List Int} {a : Int}
theorem nx_some (W : WOK g (rs, a)) {p : Int} (h0 : 0 ≤ p) (h1 : p < (g.length : Int)) (hne : (g[p.toNat]'(by omega)).length ≠ 0) : ∃ (hr : p.toNat < rs.length) (hm : (rs[p.toNat]).toNat < (g[p.toNat]'(by omega)).length), 0 ≤ rs[p.toNat] /\ nx g rs p = (g[p.toNat]'(by omega))[(rs[p.toNat]).toNat] := by
  have hl : rs.length = g.length := W.len
  have hr : p.toNat < rs.length := by omega
  have h := W.rot p.toNat hr (by omega)
  have h2 : 0 ≤ rs[p.toNat] := h.1
  have h3 : rs[p.toNat] ≤ max (((g[p.toNat]'(by omega)).length : Int) - 1) 0 := h.2
  refine ⟨hr, by omega, h2, ?_⟩
  unfold nx
  rw [if_neg (by omega), getD_get (by omega), if_neg hne, getD_getI hr, getD_getI (by omega)]
theorem nx_none {p : Int} (h0 : 0 ≤ p) (h1 : p < (g.length : Int)) (hne : (g[p.toNat]'(by omega)).length = 0) : nx g rs p = -1 := by
  unfold nx
  rw [if_neg (by omega), getD_get (by omega), if_pos hne]
theorem nx_neg {p : Int} (h : p < 0) : nx g rs p = -1 := by unfold nx; rw [if_pos h]
theorem nx_lt (W : WOK g (rs, a)) {p : Int} (h1 : p < (g.length : Int)) : -1 ≤ nx g rs p /\ nx g rs p < (g.length : Int) := by
  by_cases h0 : p < 0
  · rw [nx_neg h0]; omega
  by_cases hne : (g[p.toNat]'(by omega)).length = 0
  · rw [nx_none (by omega) h1 hne]; omega
  · obtain ⟨hr, hm, h2, e⟩ := nx_some W (by omega) h1 hne
    rw [e]
    have := (graph_mem W.graph (List.getElem_mem (show p.toNat < g.length by omega))).2 _ (List.getElem_mem hm)
    omega
end
theorem k_next {S S' : Nat -> Prop} {h : Heap} {g w : Sl} {xss : List (List Int)} {rs : List Int} {a : Int} (G : RdR S h g xss) (H : RdI S' h w rs) (W : WOK xss (rs, a)) {p : Int} (h0 : 0 ≤ p) (h1 : p < (xss.length : Int)) : Ret Tryz.prog 143 #[.agg #[g.v], w.v, VI p] h (VI (nx xss rs p)) := by
  intro K HK
  refine v143 g w p h K ⟨G.inb h0 h1, fun b1 h2 hb1 f2 hL2 => ?_⟩
  have f2 := f2.in_nil
  have G2 := G.no f2
  have H2 := H.no f2
  obtain ⟨si, c1, r1⟩ := G2.get h0 h1
  refine ⟨si, c1, fun e => ?_, fun e => ?_⟩
  · simp only [decide_eq_true_eq] at e
    rw [nx_none h0 h1 (by have := r1.len; omega)] at HK
    exact HK h2 f2
  · simp only [decide_eq_false_iff_not] at e
    obtain ⟨hr, hm, e2, e3⟩ := nx_some W h0 h1 (by have := r1.len; omega)
    rw [e3] at HK
    exact ⟨G2.inb h0 h1, si, c1, H2.inb h0 (by omega), _, H2.get h0 (by omega), r1.inb e2 (by omega), _, r1.get e2 (by omega), HK h2 f2⟩
def itf (f : Int -> Int) (p : Int) : Nat -> Int
  | 0 => p
  | k + 1 => f (itf f p k)
def orb (f : Int -> Int) (p : Int) (m : Nat) : List Int := (List.range m).map (itf f p)
def ret (f : Int -> Int) (p : Int) : Nat -> Nat -> Option Nat
  | 0, _ => none
  | r + 1, m => if itf f p m = p then some m else ret f p r (m + 1)
def lstI (xs : List Int) : Nat -> Nat
  | 0 => 0
  | i + 1 => if xs.getD i 0 < xs.getD (lstI xs i) 0 then i else lstI xs i
def turnL (xs : List Int) : List Int := xs.drop (lstI xs xs.length) ++ xs.take (lstI xs xs.length)
def cyP (f : Int -> Int) (n : Nat) (p : Int) : List Int := match ret f p (n + 1) 1 with
  | some k => turnL (orb f p k)
  | none => []
theorem orb_length (f : Int -> Int) (p : Int) (m : Nat) : (orb f p m).length = m := by simp [orb]
theorem orb_succ (f : Int -> Int) (p : Int) (m : Nat) : orb f p (m + 1) = orb f p m ++ [itf f p m] := by simp [orb, List.range_succ]
theorem orb_get (f : Int -> Int) (p : Int) (m i : Nat) (h : i < (orb f p m).length) : (orb f p m)[i] = itf f p i := by simp [orb]
theorem lstI_spec (xs : List Int) : ∀ i, (∀ j, j < i -> xs.getD (lstI xs i) 0 ≤ xs.getD j 0) /\ (∀ j, j < lstI xs i -> xs.getD (lstI xs i) 0 < xs.getD j 0) /\ (lstI xs i < i ∨ i = 0 /\ lstI xs i = 0)
  | 0 => ⟨fun j h => by omega, fun j h => by simp [lstI] at h, .inr ⟨rfl, rfl⟩⟩
  | i + 1 => by
    obtain ⟨h1, h2, h3⟩ := lstI_spec xs i
    rw [lstI]
    split
    · rename_i h
      refine ⟨fun j hj => ?_, fun j hj => ?_, by omega⟩
      · by_cases hji : j = i
        · rw [hji]; omega
        · have := h1 j (by omega); omega
      · have := h1 j hj; omega
    · rename_i h
      refine ⟨fun j hj => ?_, h2, by omega⟩
      by_cases hji : j = i
      · rw [hji]; omega
      · exact h1 j (by omega)
theorem least_eq {xs : List Int} {l : Nat} (hl : l < xs.length) (h1 : ∀ j, j < xs.length -> xs.getD l 0 ≤ xs.getD j 0) (h2 : ∀ j, j < l -> xs.getD l 0 < xs.getD j 0) : l = lstI xs xs.length := by
  obtain ⟨a, b, c⟩ := lstI_spec xs xs.length
  rcases Nat.lt_trichotomy l (lstI xs xs.length) with h | h | h
  · have := b l h; have := h1 (lstI xs xs.length) (by omega); omega
  · exact h
  · have := h2 _ h; have := a l hl; omega
theorem turnL_length (xs : List Int) : (turnL xs).length = xs.length := by simp [turnL]; omega
theorem mem_turnL {xs : List Int} {x : Int} : x ∈ turnL xs ↔ x ∈ xs := by
  unfold turnL
  rw [List.mem_append, or_comm, ← List.mem_append, List.take_append_drop]
theorem ret_some {f : Int -> Int} {p : Int} : ∀ (r m k : Nat), ret f p r m = some k -> m ≤ k /\ k < m + r /\ itf f p k = p /\ ∀ j, m ≤ j -> j < k -> itf f p j ≠ p
  | 0, m, k, h => by simp [ret] at h
  | r + 1, m, k, h => by
    rw [ret] at h
    split at h
    · simp only [Option.some.injEq] at h
      subst h
      exact ⟨Nat.le_refl _, by omega, by assumption, fun j a b => by omega⟩
    · rename_i h0
      obtain ⟨a, b, c, d⟩ := ret_some r (m + 1) k h
      refine ⟨by omega, by omega, c, fun j h1 h2 => ?_⟩
      by_cases hj : j = m
      · rw [hj]; exact h0
      · exact d j (by omega) h2
theorem itf_shift {f : Int -> Int} {p : Int} {i j : Nat} (h : itf f p i = itf f p j) : ∀ m, itf f p (i + m) = itf f p (j + m)
  | 0 => h
  | m + 1 => by rw [← Nat.add_assoc, ← Nat.add_assoc, itf, itf, itf_shift h m]
theorem cyP_cases (f : Int -> Int) (n : Nat) (p : Int) : cyP f n p = [] ∨ ∃ k, 1 ≤ k /\ k ≤ n + 1 /\ itf f p k = p /\ (∀ j, 1 ≤ j -> j < k -> itf f p j ≠ p) /\ cyP f n p = turnL (orb f p k) := by
  unfold cyP
  cases h : ret f p (n + 1) 1 with
  | none => exact .inl rfl
  | some k =>
    obtain ⟨a, b, c, d⟩ := ret_some _ _ _ h
    exact .inr ⟨k, a, by omega, c, d, rfl⟩
theorem nodup_turnL {xs : List Int} (h : xs.Nodup) : (turnL xs).Nodup := by
  unfold turnL
  exact (List.perm_append_comm.trans (List.Perm.of_eq (List.take_append_drop _ _))).nodup_iff.2 h
theorem orb_nodup {f : Int -> Int} {p : Int} {k : Nat} (h1 : itf f p k = p) (h2 : ∀ j, 1 ≤ j -> j < k -> itf f p j ≠ p) : (orb f p k).Nodup := by
  unfold List.Nodup
  rw [List.pairwise_iff_getElem]
  intro i j hi hj hij e
  rw [orb_get, orb_get] at e
  rw [orb_length] at hj
  have := itf_shift e (k - j)
  rw [show j + (k - j) = k by omega, h1] at this
  exact h2 (i + (k - j)) (by omega) (by omega) this
theorem cyP_nodup (f : Int -> Int) (n : Nat) (p : Int) : (cyP f n p).Nodup := by
  rcases cyP_cases f n p with h | ⟨k, _, _, h1, h2, e⟩
  · rw [h]; exact List.nodup_nil
  · rw [e]; exact nodup_turnL (orb_nodup h1 h2)
def sx (g S : List (List Int)) (p : Int) : Int := if p < 0 then -1 else if (S.getD p.toNat []).length = 0 then -1 else (g.getD p.toNat []).getD ((S.getD p.toNat []).getD 0 0).toNat 0
structure SOK (g S : List (List Int)) : Prop where
  graph : graphB g = true
  len : S.length = g.length
  short : ∀ i (h : i < S.length), S[i].length ≤ 12
  ent : ∀ i (h : i < S.length) (h' : i < g.length), ∀ x, x ∈ S[i] -> 0 ≤ x /\ x < (g[i].length : Int)
def stackB (g : List (List Int)) (sink : Int) (S : List (List Int)) : Bool := (graphB g && inR 0 ((g.length : Int) - 1) sink) && (decide (S.length = g.length) && (decide ((S.getD sink.toNat []).length = 0) && (g.zip S).all fun q => !decide (12 < (q.2.length : Int)) && q.2.all (inR 0 ((q.1.length : Int) - 1))))
theorem stack_of {g S : List (List Int)} {sink : Int} (h : stackB g sink S = true) : SOK g S /\ 0 ≤ sink /\ sink < (g.length : Int) /\ (S.getD sink.toNat []).length = 0 := by
  unfold stackB at h
  simp only [Bool.and_eq_true, decide_eq_true_eq, inR_iff] at h
  obtain ⟨⟨h1, h2, h3⟩, h4, h5, h6⟩ := h
  have key : ∀ i (a : i < S.length) (b : i < g.length), S[i].length ≤ 12 /\ ∀ x, x ∈ S[i] -> 0 ≤ x /\ x < (g[i].length : Int) := fun i a b => by
    have := List.all_eq_true.1 h6 (g[i], S[i]) (by
      rw [show (g[i], S[i]) = (g.zip S)[i]'(by simp only [List.length_zip]; omega) by simp]
      exact List.getElem_mem _)
    simp only [Bool.and_eq_true, Bool.not_eq_true', decide_eq_false_iff_not] at this
    refine ⟨by omega, fun x hx => ?_⟩
    have := List.all_eq_true.1 this.2 x hx
    rw [inR_iff] at this
    omega
  exact ⟨⟨h1, h4, fun i a => (key i a (by omega)).1, fun i a b => (key i a b).2⟩, h2, by omega, h5⟩
section
variable {g S : List (List Int)}
theorem sx_some (W : SOK g S) {p : Int} (h0 : 0 ≤ p) (h1 : p < (g.length : Int)) (hne : (S.getD p.toNat []).length ≠ 0) : ∃ (hs : p.toNat < S.length) (hz : 0 < (S[p.toNat]).length) (hm : ((S[p.toNat])[0]).toNat < (g[p.toNat]'(by omega)).length), 0 ≤ (S[p.toNat])[0] /\ sx g S p = (g[p.toNat]'(by omega))[((S[p.toNat])[0]).toNat] := by
  have hl := W.len
  have hs : p.toNat < S.length := by omega
  rw [getD_get hs] at hne
  have hz : 0 < (S[p.toNat]).length := by omega
  have h := W.ent p.toNat hs (by omega) _ (List.getElem_mem hz)
  refine ⟨hs, hz, by omega, h.1, ?_⟩
  unfold sx
  rw [if_neg (by omega), getD_get hs, if_neg hne, getD_getI hz, getD_get (by omega), getD_getI (by omega)]
theorem sx_none {p : Int} (hne : (S.getD p.toNat []).length = 0) : sx g S p = -1 := by
  unfold sx
  split
  · rfl
  · rfl
theorem sx_neg {p : Int} (h : p < 0) : sx g S p = -1 := by unfold sx; rw [if_pos h]
theorem sx_lt (W : SOK g S) {p : Int} (h1 : p < (g.length : Int)) : -1 ≤ sx g S p /\ sx g S p < (g.length : Int) := by
  have := graph_len W.graph
  by_cases h0 : p < 0
  · rw [sx_neg h0]; omega
  by_cases hne : (S.getD p.toNat []).length = 0
  · rw [sx_none hne]; omega
  · obtain ⟨hr, hz, hm, h2, e⟩ := sx_some W (by omega) h1 hne
    rw [e]
    have := (graph_mem W.graph (List.getElem_mem (show p.toNat < g.length by omega))).2 _ (List.getElem_mem hm)
    omega
theorem its_lt (W : SOK g S) {p : Int} (h1 : p < (g.length : Int)) (h0 : -1 ≤ p) : ∀ k, -1 ≤ itf (sx g S) p k /\ itf (sx g S) p k < (g.length : Int)
  | 0 => ⟨h0, h1⟩
  | k + 1 => sx_lt W (its_lt W h1 h0 k).2
theorem its_neg {p : Int} {k : Nat} (h : itf (sx g S) p k < 0) : ∀ m, itf (sx g S) p (k + m) < 0
  | 0 => h
  | m + 1 => by
    rw [← Nat.add_assoc, itf, sx_neg (its_neg h m)]
    omega
theorem ret_neg {p : Int} (h0 : 0 ≤ p) : ∀ (r m : Nat), itf (sx g S) p m < 0 -> ret (sx g S) p r m = none
  | 0, m, h => rfl
  | r + 1, m, h => by
    rw [ret, if_neg (by omega)]
    exact ret_neg h0 r (m + 1) (its_neg h 1)
theorem cyP_top (W : SOK g S) {n : Nat} {p : Int} (h0 : 0 ≤ p) (h1 : p < (g.length : Int)) : ∀ x, x ∈ cyP (sx g S) n p -> 0 ≤ x /\ x < (g.length : Int) /\ (S.getD x.toNat []).length ≠ 0 := by
  intro x hx
  rcases cyP_cases (sx g S) n p with h | ⟨k, k1, k2, e1, e2, e⟩
  · rw [h] at hx; simp at hx
  · rw [e, mem_turnL] at hx
    simp only [orb, List.mem_map, List.mem_range] at hx
    obtain ⟨i, hi, rfl⟩ := hx
    have nn : ∀ j, j ≤ k -> 0 ≤ itf (sx g S) p j := fun j hj => by
      by_cases hx : itf (sx g S) p j < 0
      · have := its_neg hx (k - j)
        rw [show j + (k - j) = k by omega] at this
        omega
      · omega
    refine ⟨nn i (by omega), (its_lt W h1 (by omega) i).2, fun hz => ?_⟩
    have := nn (i + 1) (by omega)
    rw [itf, sx_none hz] at this
    omega
end
def popP (S : List (List Int)) (c : List Int) : List (List Int) := (List.range S.length).map fun (i : Nat) => if (i : Int) ∈ c then (S.getD i []).drop 1 else S.getD i []
theorem popP_length (S : List (List Int)) (c : List Int) : (popP S c).length = S.length := by simp [popP]
theorem popP_get (S : List (List Int)) (c : List Int) (i : Nat) (h : i < (popP S c).length) (h' : i < S.length) : (popP S c)[i] = if (i : Int) ∈ c then (S[i]).drop 1 else S[i] := by
  simp only [popP, List.getElem_map, List.getElem_range]
  rw [getD_get h']
theorem popP_nil (S : List (List Int)) : popP S [] = S := by
  apply List.ext_getElem
  · exact popP_length _ _
  · intro i h1 h2
    rw [popP_get S [] i h1 h2]
    simp
theorem popP_tot (S : List (List Int)) (c : List Int) : totR (popP S c) ≤ totR S := by
  have key : ∀ (a b : List (List Int)), a.length = b.length -> (∀ i (h : i < a.length) (h' : i < b.length), a[i].length ≤ b[i].length) -> totR a ≤ totR b := by
    intro a
    induction a with
    | nil => intro b h1 h2; simp [totR]
    | cons x xs ih =>
      intro b h1 h2
      cases b with
      | nil => simp at h1
      | cons y ys =>
        have a1 := ih ys (by simpa using h1) fun i h h' => by have := h2 (i + 1) (by simpa using h) (by simpa using h'); simpa using this
        have a2 := h2 0 (by simp) (by simp)
        simp only [List.getElem_cons_zero] at a2
        simp only [totR, List.map_cons, List.sum_cons] at *
        omega
  refine key _ _ (popP_length _ _) fun i h h' => ?_
  rw [popP_get S c i h h']
  split
  · simp
  · exact Nat.le_refl _
theorem SOK.pop {g S : List (List Int)} (W : SOK g S) (c : List Int) : SOK g (popP S c) := by
  refine ⟨W.graph, by rw [popP_length]; exact W.len, fun i h => ?_, fun i h h' x hx => ?_⟩
  · have h2 : i < S.length := by rw [popP_length] at h; exact h
    have := W.short i h2
    rw [popP_get S c i h h2]
    split
    · simp; omega
    · exact this
  · have h2 : i < S.length := by rw [popP_length] at h; exact h
    rw [popP_get S c i h h2] at hx
    split at hx
    · exact W.ent i h2 h' x (List.mem_of_mem_drop hx)
    · exact W.ent i h2 h' x hx
theorem SOK.tot {g S : List (List Int)} (W : SOK g S) : S.length + totR S ≤ 104 := by
  have h1 := graph_len W.graph
  have h2 := W.len
  have := tot_short (n := 12) (xss := S) (m := 8) (by omega) fun l hl => by
    obtain ⟨i, hi, rfl⟩ := List.getElem_of_mem hl
    exact W.short i hi
  omega
theorem k_skGood {S S' : Nat -> Prop} {h : Heap} {g s : Sl} {xss : List (List Int)} {ls : List (List Int)} (G : RdR S h g xss) (H : RdR S' h s ls) (sink : Int) : Ret Tryz.prog 52 #[.agg #[g.v], VI sink, .agg #[s.v]] h (VB (stackB xss sink ls)) := by
  intro K HK
  refine v52 g sink s h K fun b1 b2 h1 hb1 hb2 f1 hL1 => ?_
  have f1 := f1.in_nil
  unfold stackB at HK
  refine k_spec_grPlace (G.no f1) sink _ fun h3 f3 => ⟨_, rfl, hL1.of_no f3, fun e => ?_, fun e => ?_⟩
  · rw [not_t e, Bool.false_and] at HK; exact HK _ (f1.no_trans f3)
  have e := not_f e
  have f13 := f1.no_trans f3
  rw [e, Bool.true_and] at HK
  rw [Bool.and_eq_true, inR_iff] at e
  rw [G.len, H.len]
  refine ⟨fun e2 => ?_, fun e2 => ?_⟩
  · have e3 := not_t e2
    simp only [decide_eq_false_iff_not] at e3
    rw [decide_eq_false (by omega), Bool.false_and] at HK; exact HK _ f13
  have e3 := not_f e2
  simp only [decide_eq_true_eq] at e3
  rw [decide_eq_true (by omega), Bool.true_and] at HK
  have G3 := G.no f13
  have H3 := H.no f13
  obtain ⟨sk, c1, r1⟩ := H3.get e.2.1 (by omega)
  rw [getD_get (by omega)] at HK
  refine ⟨H3.inb e.2.1 (by omega), sk, c1, fun e4 => ?_, fun e4 => ?_⟩
  · simp only [decide_eq_true_eq] at e4
    rw [decide_eq_false (by have := r1.len; omega), Bool.false_and] at HK; exact HK _ f13
  simp only [decide_eq_false_iff_not] at e4
  rw [decide_eq_true (by have := r1.len; omega), Bool.true_and] at HK
  generalize hR : ((xss.zip ls).all fun q => !decide (12 < (q.2.length : Int)) && q.2.all (inR 0 ((q.1.length : Int) - 1))) = R at HK
  refine ⟨fun n i h' => h' = h3 /\ 0 ≤ i /\ i + n = (xss.length : Int) /\ R = (((xss.drop i.toNat).zip (ls.drop i.toNat)).all fun q => !decide (12 < (q.2.length : Int)) && q.2.all (inR 0 ((q.1.length : Int) - 1))), ⟨xss.length, rfl, by omega, by omega, by simpa using hR.symm⟩, ?_⟩
  rintro n i _ ⟨rfl, i0, i1, i2⟩ hL
  refine ⟨fun e5 => ?_, fun e5 => ?_⟩
  · have hi' : i < (ls.length : Int) := by simpa using e5
    have hi : i < (xss.length : Int) := by omega
    rw [drop_cons xss i0 hi, drop_cons ls i0 hi', List.zip_cons_cons, List.all_cons] at i2
    simp only at i2
    obtain ⟨si, c2, r2⟩ := H3.get i0 hi'
    obtain ⟨gi, c3, r3⟩ := G3.get i0 hi
    refine ⟨H3.inb i0 hi', si, c2, fun e6 => ?_, fun e6 => ⟨G3.inb i0 hi, gi, c3, ?_⟩⟩
    · rw [r2.len] at e6
      rw [e6] at i2
      simp only [Bool.not_true, Bool.false_and] at i2
      rw [i2] at HK
      exact HK _ f13
    · rw [r2.len] at e6
      rw [len_w64I r3]
      refine k_spec_l1All r2 _ _ _ ⟨_, rfl, hL, fun e7 => ?_, fun e7 => ?_⟩
      · rw [e6, not_t e7] at i2
        simp only [Bool.not_false, Bool.and_false, Bool.false_and] at i2
        rw [i2] at HK
        exact HK _ f13
      · rw [e6, not_f e7] at i2
        simp only [Bool.not_false, Bool.and_true, Bool.true_and] at i2
        rw [H3.succ i0 hi']
        exact ⟨n - 1, by omega, rfl, by omega, by omega, i2⟩
  · have hi : ¬ i < (ls.length : Int) := by simpa using e5
    rw [List.drop_of_length_le (by omega)] at i2
    simp only [List.zip_nil_left, List.all_nil] at i2
    rw [i2] at HK
    exact HK _ f13
theorem k_areStacks1 {S : Nat -> Prop} {h : Heap} {b b' : Nat} {g : Sl} {xss : List (List Int)} {i : Int} (G : RdR S h g xss) (h0 : 0 ≤ i) (h1 : i < (xss.length : Int)) (V : IsVar h b [g.v]) (V' : IsVar h b' [VI i]) (hne : b' ≠ b) (x : Int) (K : Value -> Heap -> Prop) (HK : K (VB (!inR 0 (((xss[i.toNat]'(by omega)).length : Int) - 1) x)) h) : callV Tryz.prog (.func (.func 111) #[] #[VP b 0, VP b' 0]) [VI x] h K := by
  obtain ⟨gi, c1, r1⟩ := G.get h0 h1
  have hL : Vars h [(b, [g.v]), (b', [VI i])] := .cons V (by simpa using hne) (.cons V' (by simp) .nil)
  refine v111 x b g b' i h K hL ⟨G.inb h0 h1, gi, c1, ?_⟩
  rw [len_w64I r1]
  exact k_impl_in _ _ _ _ _ ⟨_, rfl, hL, HK⟩
theorem k_areStacks {S S' : Nat -> Prop} {h : Heap} {g s : Sl} {xss : List (List Int)} {ls : List (List Int)} (G : RdR S h g xss) (H : RdR S' h s ls) (sink : Int) : Ret Tryz.prog 50 #[.agg #[g.v], VI sink, .agg #[s.v]] h (VB (stackB xss sink ls)) := by
  intro K HK
  refine v50 g sink s h K fun b1 b2 h1 hb1 hb2 f1 hL1 => ?_
  have f1 := f1.in_nil
  unfold stackB at HK
  refine eop_lit rIs (fun k => h1.size ≤ k) (fun _ h => h) 1 (by omega) [VI sink] rfl rfl fun t h2 n2 c2 o2 f2 m2 _ => ⟨t, rfl, hL1.of_no f2, ?_⟩
  have o2 : RdI (fun k => h1.size ≤ k) h2 t [sink] := o2.rdF
  have hL2 := hL1.of_no f2
  refine k_has ((G.no f1).no f2) o2 _ fun h3 f3 => ⟨_, rfl, hL2.of_no f3, fun e => ?_, fun e => ?_⟩
  all_goals simp only [List.all_cons, List.all_nil, Bool.and_true] at e
  · rw [not_t e, Bool.false_and] at HK; exact HK _ ((f1.no_trans f2).no_trans f3)
  have e := not_f e
  have f13 := (f1.no_trans f2).no_trans f3
  have hL3 := hL2.of_no f3
  rw [e, Bool.true_and] at HK
  rw [Bool.and_eq_true, inR_iff] at e
  rw [G.len, H.len]
  refine ⟨fun e2 => ?_, fun e2 => ?_⟩
  · have e3 := not_t e2
    simp only [decide_eq_false_iff_not] at e3
    rw [decide_eq_false (by omega), Bool.false_and] at HK; exact HK _ f13
  have e3 := not_f e2
  simp only [decide_eq_true_eq] at e3
  rw [decide_eq_true (by omega), Bool.true_and] at HK
  have G3 := G.no f13
  have H3 := H.no f13
  obtain ⟨sk, c1, r1⟩ := H3.get e.2.1 (by omega)
  rw [getD_get (by omega)] at HK
  refine ⟨H3.inb e.2.1 (by omega), sk, c1, fun e4 => ?_, fun e4 => ?_⟩
  · have e4 := not_t e4
    simp only [decide_eq_false_iff_not] at e4
    rw [decide_eq_false (by have := r1.len; omega), Bool.false_and] at HK; exact HK _ f13
  have e4 := not_f e4
  simp only [decide_eq_true_eq] at e4
  rw [decide_eq_true (by have := r1.len; omega), Bool.true_and] at HK
  generalize hR : ((xss.zip ls).all fun q => !decide (12 < (q.2.length : Int)) && q.2.all (inR 0 ((q.1.length : Int) - 1))) = R at HK
  refine ⟨fun n i x h' => g = x /\ Fr No h h' /\ 0 ≤ i /\ i + n = (xss.length : Int) /\ R = (((xss.drop i.toNat).zip (ls.drop i.toNat)).all fun q => !decide (12 < (q.2.length : Int)) && q.2.all (inR 0 ((q.1.length : Int) - 1))), ⟨xss.length, rfl, f13, by omega, by omega, by simpa using hR.symm⟩, ?_⟩
  rintro n i _ h4 ⟨rfl, f4, i0, i1, i2⟩ hL
  refine ⟨fun e5 => ?_, fun e5 => ?_⟩
  · have hi' : i < (ls.length : Int) := by simpa using e5
    have hi : i < (xss.length : Int) := by omega
    rw [drop_cons xss i0 hi, drop_cons ls i0 hi', List.zip_cons_cons, List.all_cons] at i2
    simp only at i2
    obtain ⟨si, c2, r2⟩ := (H.no f4).get i0 hi'
    refine ⟨(H.no f4).inb i0 hi', si, c2, fun e6 b3 h7 hb3 f7 hL7 => ?_, fun e6 b3 h7 hb3 f7 hL7 => ?_⟩
    · rw [r2.len] at e6
      rw [e6] at i2
      simp only [Bool.not_true, Bool.false_and] at i2
      rw [i2] at HK
      exact HK _ (f4.no_trans f7.in_nil)
    · have f7 := f7.in_nil
      have f47 := f4.no_trans f7
      rw [r2.len] at e6
      refine k_ContainsFunc (RdI.no r2 f7) _ _ (fun x K HK => k_areStacks1 (G.no f47) i0 hi hL7.tail.tail.head hL7.head (by have := hL7.ne (b1, [g.v]) (by simp); simp only at this; omega) x K HK) _ ?_
      rw [any_not]
      refine ⟨i, _, _, rfl, hL7, fun e7 => ?_, fun e7 => ?_⟩
      · rw [e6, not_t e7] at i2
        simp only [Bool.not_false, Bool.and_false, Bool.false_and] at i2
        rw [i2] at HK
        exact HK _ f47
      · rw [e6, not_f e7] at i2
        simp only [Bool.not_false, Bool.and_true, Bool.true_and] at i2
        rw [H.succ i0 hi']
        exact ⟨n - 1, by omega, rfl, f47, by omega, by omega, i2⟩
  · have hi : ¬ i < (ls.length : Int) := by simpa using e5
    rw [List.drop_of_length_le (by omega)] at i2
    simp only [List.zip_nil_left, List.all_nil] at i2
    rw [i2] at HK
    exact HK _ f4
theorem k_skNext {S S' : Nat -> Prop} {h : Heap} {g s : Sl} {xss ls : List (List Int)} (G : RdR S h g xss) (H : RdR S' h s ls) (W : SOK xss ls) {p : Int} (h0 : 0 ≤ p) (h1 : p < (xss.length : Int)) : Ret Tryz.prog 118 #[.agg #[g.v], .agg #[s.v], VI p] h (VI (sx xss ls p)) := by
  intro K HK
  have hl := W.len
  refine v118 g s p h K ⟨H.inb h0 (by omega), fun b1 b2 h2 hb1 hb2 f2 hL2 => ?_⟩
  have f2 := f2.in_nil
  have G2 := G.no f2
  have H2 := H.no f2
  obtain ⟨si, c1, r1⟩ := H2.get h0 (by omega)
  refine ⟨si, c1, fun e => ?_, fun e => ?_⟩
  · simp only [decide_eq_true_eq] at e
    rw [sx_none (by rw [getD_get (by omega)]; have := r1.len; omega)] at HK
    exact HK h2 f2
  · simp only [decide_eq_false_iff_not] at e
    obtain ⟨hs, hz, hm, e2, e3⟩ := sx_some W h0 h1 (by rw [getD_get (by omega)]; have := r1.len; omega)
    rw [e3] at HK
    obtain ⟨gi, c2, r2⟩ := G2.get h0 h1
    exact ⟨G2.inb h0 h1, gi, c2, H2.inb h0 (by omega), si, c1, r1.inb (by omega) (by omega), _, r1.get (by omega) (by omega), r2.inb e2 (by (try simp only [Int.toNat_zero]); omega), _, r2.get e2 (by (try simp only [Int.toNat_zero]); omega), HK h2 f2⟩
theorem k_Min {S : Nat -> Prop} {h : Heap} {s : Sl} {xs : List Int} (H : RdI S h s xs) (hne : xs ≠ []) (K : Value -> Heap -> Prop) (HK : ∀ m, m ∈ xs -> (∀ x, x ∈ xs -> m ≤ x) -> K (VI m) h) : callM Tryz.prog 116 #[s.v] h K := by
  have hl := H.len
  have hp : 0 < xs.length := List.length_pos_iff.2 hne
  refine v116 s h K ⟨fun h' => h = h', ⟨fun e => by simp at e; omega, fun _ => rfl⟩, ?_⟩
  rintro _ rfl _
  refine ⟨H.inb (by omega) (by omega), _, H.get (by omega) (by omega), ?_⟩
  refine ⟨fun n m i h' => h = h' /\ 1 ≤ i /\ i + n = (xs.length : Int) /\ m ∈ xs /\ ∀ j (hj : j < xs.length), (j : Int) < i -> m ≤ xs[j], ⟨xs.length - 1, rfl, by omega, by omega, List.getElem_mem _, fun j hj hj2 => by obtain rfl : j = 0 := (by omega); exact Int.le_refl _⟩, ?_⟩
  rintro n m i _ ⟨rfl, i0, i1, hm, hmin⟩ hL
  refine ⟨fun e => ?_, fun e => ?_⟩
  · have hi := H.lt e
    refine ⟨H.inb (by omega) hi, _, H.get (by omega) hi, pop_min _ _ _ _ ⟨_, rfl, ?_⟩⟩
    rw [H.succ (by omega) hi]
    refine ⟨n - 1, by omega, rfl, by omega, by omega, ?_, fun j hj hj2 => ?_⟩
    · rcases Int.le_total m (xs[i.toNat]'(by omega)) with h | h
      · rw [Int.min_eq_left h]; exact hm
      · rw [Int.min_eq_right h]; exact List.getElem_mem _
    · by_cases hji : (j : Int) < i
      · have := hmin j hj hji; omega
      · obtain rfl : j = i.toNat := by omega
        omega
  · have hi := H.ge e
    exact HK m hm fun x hx => by
      obtain ⟨j, hj, rfl⟩ := List.getElem_of_mem hx
      exact hmin j hj (by omega)
theorem k_skCycle {S S' : Nat -> Prop} {h : Heap} {g s : Sl} {xss ls : List (List Int)} (G : RdR S h g xss) (H : RdR S' h s ls) (W : SOK xss ls) {p : Int} (h0 : 0 ≤ p) (h1 : p < (xss.length : Int)) (K : Value -> Heap -> Prop) (HK : ∀ t h', OwI h' (Iv h.size h'.size) t (cyP (sx xss ls) xss.length p) -> Fr No h h' -> K t.v h') : callM Tryz.prog 65 #[.agg #[g.v], .agg #[s.v], VI p] h K := by
  refine v65 g s p h K fun b1 b2 h2 hb1 hb2 f2 hL2 => ?_
  have f2 := f2.in_nil
  have l2 : b2 < h2.size := hL2.head.lt
  have l1 : b1 < h2.size := hL2.tail.head.lt
  have z2 := f2.size
  have hgl := graph_len W.graph
  refine eop_lit rIs (fun k => h2.size ≤ k) (fun _ h => h) 1 (by omega) [VI p] rfl rfl fun t h3 n3 c3 o3 f3 m3 _ => ⟨t, rfl, hL2.of_no f3, ?_⟩
  have z3 := f3.size
  have f03 := f2.no_trans f3
  refine k_skNext (G.no f03) (H.no f03) W h0 h1 _ fun h4 f4 => ⟨_, rfl, (hL2.of_no f3).of_no f4, ?_⟩
  have z4 := f4.size
  have f04 := f03.no_trans f4
  have eqc : cyP (sx xss ls) xss.length p = match ret (sx xss ls) p (xss.length + 1) 1 with
    | some k => turnL (orb (sx xss ls) p k)
    | none => [] := rfl
  have fin : ∀ (h5 : Heap) (x : Sl) (m : Nat), 1 ≤ m -> m ≤ 9 -> RdI (fun k => h2.size ≤ k) h5 x (orb (sx xss ls) p m) -> Fr No h h5 -> h2.size ≤ h5.size -> cyP (sx xss ls) xss.length p = turnL (orb (sx xss ls) p m) →
      ∃ J : Nat -> Int -> Int -> Heap -> Prop, (∃ n0 : Nat, J n0 0 0 h5) /\ ∀ (n : Nat) (l i : Int) (h9 : Heap), J n l i h9 -> Vars h9 [(b2, [s.v]), (b1, [g.v])] →
        ((decide (i < (x.n : Int))) = true -> InB x i /\ ∃ t52 : Int, hcell h9 (Sl.at x i 1) = some (VI t52) /\ InB x l /\ ∃ t57 : Int, hcell h9 (Sl.at x l 1) = some (VI t57) ∧
          ((decide (t52 < t57)) = true -> ∃ m : Nat, m < n /\ J m i (w64 (i + 1)) h9) /\ ((decide (t52 < t57)) = false -> ∃ m : Nat, m < n /\ J m l (w64 (i + 1)) h9)) ∧
        ((decide (i < (x.n : Int))) = false →
          pop Tryz.prog (Instr.sliceAt tIs (Sl.v x) (some (VI l)) none none) fun rv6 => ∃ t63 : Sl, rv6 = (Sl.v t63) ∧
          pop Tryz.prog (Instr.sliceAt tIs (Sl.v x) none (some (VI l)) none) fun rv7 => ∃ t67 : Sl, rv7 = (Sl.v t67) ∧
          callM Tryz.prog 119 #[(Sl.v t63)] h9 fun rv8 h10 => ∃ t64 : Sl, rv8 = (Sl.v t64) /\ Vars h10 [(b2, [s.v]), (b1, [g.v])] ∧
          eop Tryz.prog (appS tIs tIs tIs (Sl.v t64) (Sl.v t67)) h10 fun rv9 h11 => ∃ t68 : Sl, rv9 = (Sl.v t68) /\ Vars h11 [(b2, [s.v]), (b1, [g.v])] /\ K (Sl.v t68) h11) := by
    intro h5 x m m1 m2 r5 f5 z5 eq
    have hxn : x.n = m := by have := r5.len; rw [orb_length] at this; exact this
    refine ⟨fun n l i h' => h5 = h' /\ 0 ≤ i /\ i + n = (m : Int) /\ l = (lstI (orb (sx xss ls) p m) i.toNat : Nat), ⟨m, rfl, by omega, by omega, rfl⟩, ?_⟩
    rintro n l i _ ⟨rfl, i0, i1, rfl⟩ hL
    obtain ⟨_, _, q3⟩ := lstI_spec (orb (sx xss ls) p m) i.toNat
    refine ⟨fun e => ?_, fun e => ?_⟩
    · have hi := r5.lt e
      rw [orb_length] at hi
      have hl : lstI (orb (sx xss ls) p m) i.toNat < (orb (sx xss ls) p m).length := by rw [orb_length]; omega
      have hi2 : i.toNat < (orb (sx xss ls) p m).length := by rw [orb_length]; omega
      refine ⟨r5.inb i0 (by rw [orb_length]; omega), _, r5.get i0 (by rw [orb_length]; omega), r5.inb (by omega) (by omega), _, r5.get (by omega) (by omega), fun e2 => ?_, fun e2 => ?_⟩
      all_goals rw [r5.succ i0 (by rw [orb_length]; omega)]; refine ⟨n - 1, by omega, rfl, by omega, by omega, ?_⟩; rw [toNat_succ i0, lstI, getD_getI hi2, getD_getI hl]; simp only [Int.toNat_natCast] at e2
      · simp only [decide_eq_true_eq] at e2
        rw [if_pos e2]; omega
      · simp only [decide_eq_false_iff_not] at e2
        rw [if_neg e2]
    · have hi := r5.ge e
      rw [orb_length] at hi
      have ei : i.toNat = m := by omega
      rw [ei] at q3 ⊢
      have hlm : lstI (orb (sx xss ls) p m) m < m := by omega
      refine pop_cut_l rIs .i64 (by omega) (by omega) ⟨_, rfl, pop_cut_h rIs .i64 (by omega) (by have := RdV.cap r5; omega) ⟨_, rfl, ?_⟩⟩
      simp only [Int.toNat_natCast]
      have ra := RdI.cut r5 (l := lstI (orb (sx xss ls) p m) m) (m := x.n) (by omega) (by rw [orb_length]; omega)
      have rb := RdI.cut r5 (l := 0) (m := lstI (orb (sx xss ls) p m) m) (by omega) (by rw [orb_length]; omega)
      rw [List.take_of_length_le (by simp [orb_length]; omega)] at ra
      rw [List.drop_zero, Nat.sub_zero] at rb
      refine k_l1Own ra (by simp [orb_length]; omega) _ fun u h10 o10 f10 => ⟨u, rfl, hL.of_no f10, ?_⟩
      have z10 := f10.size
      have hun : u.n = m - lstI (orb (sx xss ls) p m) m := by have := RdI.len (Ow.rdF o10 : RdI _ h10 u _); simpa [orb_length] using this
      refine eop_append rIs (o10.mono (F' := fun k => h5.size ≤ k) fun k _ hk => hk.1) (fun k hk => by omega) (RdI.no rb f10) (plainVI _) (by simp [Sl.cut]; omega) fun y h11 n11 o11 f11 d11 => ⟨y, rfl, (hL.of_no f10).fr f11 fun p hp hk => ?_, ?_⟩
      · have := (o10.foot hk).1.1
        simp only [List.mem_cons, List.not_mem_nil, or_false] at hp
        rcases hp with rfl | rfl <;> simp only at this <;> omega
      · rw [← List.map_append] at o11
        rw [eq] at HK
        unfold turnL at HK
        rw [orb_length] at HK
        have z11 := f11.size
        have z05 := f5.size
        exact HK y h11 ((Ow.toIv o11).ivs z05 (Nat.le_refl _)) ((f5.no_trans f10).fresh f11 fun k hk => by have := (o10.foot hk).1.1; omega)
  refine ⟨fun n x q c h' => ∃ m r, 1 ≤ m /\ m + r = xss.length + 2 /\ 1 ≤ r /\ n = r /\ c = (m : Int) - 1 /\ q = itf (sx xss ls) p m /\ OwI h' (fun k => h2.size ≤ k) x (orb (sx xss ls) p m) /\ Fr No h h' /\ h2.size ≤ h'.size /\ cyP (sx xss ls) xss.length p = match ret (sx xss ls) p r m with
      | some k => turnL (orb (sx xss ls) p k)
      | none => [], ⟨xss.length + 1, 1, xss.length + 1, Nat.le_refl _, by omega, by omega, rfl, rfl, rfl, by show Ow _ _ _ _ _ _; simpa [orb, itf] using Ow.no o3 f4, f04, by omega, eqc⟩, ?_⟩
  rintro n x q c h5 ⟨m, r, m1, mr, r1, rfl, rfl, rfl, o5, f5, z5, eq⟩ hL5
  have r5 : RdI (fun k => h2.size ≤ k) h5 x (orb (sx xss ls) p m) := o5.rdF
  have hgn := G.len
  obtain ⟨r, rfl⟩ : ∃ r', n = r' + 1 := ⟨n - 1, by omega⟩
  rw [ret] at eq
  refine ⟨fun e => ⟨fun e2 => ⟨fun e3 => ?_, fun e3 => ?_⟩, fun e2 => ⟨fun e3 => ?_, fun e3 => ?_⟩⟩, fun e => ⟨fun e3 => ?_, fun e3 => ?_⟩⟩
  · simp only [decide_eq_true_eq] at e e2
    have e3 := not_t e3
    simp only [decide_eq_false_iff_not] at e3
    rw [if_neg e3] at eq
    refine eop_lit rIs (fun k => h5.size ≤ k) (fun _ h => h) 1 (by omega) [VI (itf (sx xss ls) p m)] rfl rfl fun u h6 n6 c6 o6 f6 m6 _ => ⟨u, rfl, hL5.of_no f6, ?_⟩
    have z6 := f6.size
    have r6 : RdI u.own h6 u [itf (sx xss ls) p m] := o6.rd
    have hxn : x.n = m := by have := r5.len; rw [orb_length] at this; exact this
    refine eop_append rIs (Ow.no o5 f6) (fun k hk => by omega) r6 (plainVI _) (by have := r6.len; simp at this; omega) fun y h7 n7 o7 f7 d7 => ?_
    have hL7 := (hL5.of_no f6).fr f7 fun p hp hk => by
      have := (o5.foot hk).1
      simp only [List.mem_cons, List.not_mem_nil, or_false] at hp
      rcases hp with rfl | rfl <;> simp only at this <;> omega
    have z7 := f7.size
    have f07 : Fr No h h7 := (f5.no_trans f6).fresh f7 fun k hk => by have := (o5.foot hk).1; omega
    refine ⟨y, rfl, hL7, k_skNext (G.no f07) (H.no f07) W e2 (its_lt W h1 (by omega) m).2 _ fun h8 f8 => ⟨_, rfl, hL7.of_no f8, ?_⟩⟩
    have z8 := f8.size
    rw [← List.map_append, ← orb_succ] at o7
    rw [w64_eq _ (by omega) (by omega)]
    exact ⟨r, by omega, m + 1, r, by omega, by omega, by omega, rfl, by omega, rfl, Ow.no o7 f8, f07.no_trans f8, by omega, eq⟩
  · have e3 := not_f e3
    simp only [decide_eq_true_eq] at e3
    rw [if_pos e3] at eq
    exact fin h5 x m m1 (by omega) r5 f5 z5 eq
  · have e3 := not_t e3
    simp only [decide_eq_false_iff_not] at e2 e3
    rw [if_neg e3, ret_neg h0 r (m + 1) (its_neg (by omega) 1)] at eq
    have := HK nilSl h5 (by rw [eq]; exact Ow.nil _ _ _ _) f5
    exact this
  · have e3 := not_f e3
    simp only [decide_eq_true_eq] at e3
    simp only [decide_eq_false_iff_not] at e2
    omega
  · have e3 := not_t e3
    simp only [decide_eq_false_iff_not] at e e3
    obtain rfl : r = 0 := by omega
    rw [if_neg e3, ret] at eq
    have := HK nilSl h5 (by rw [eq]; exact Ow.nil _ _ _ _) f5
    exact this
  · have e3 := not_f e3
    simp only [decide_eq_true_eq] at e3
    rw [if_pos e3] at eq
    exact fin h5 x m m1 (by omega) r5 f5 z5 eq
theorem k_cycleOf {S S' : Nat -> Prop} {h : Heap} {g s : Sl} {xss ls : List (List Int)} (G : RdR S h g xss) (H : RdR S' h s ls) (W : SOK xss ls) {p : Int} (h0 : 0 ≤ p) (h1 : p < (xss.length : Int)) (K : Value -> Heap -> Prop) (HK : ∀ t h', OwI h' (Iv h.size h'.size) t (cyP (sx xss ls) xss.length p) -> t.a.isNone = decide (cyP (sx xss ls) xss.length p = []) -> Fr No h h' -> K t.v h') : callM Tryz.prog 62 #[.agg #[s.v], .agg #[g.v], VI p] h K := by
  refine v62 s g p h K fun b1 b2 h2 hb1 hb2 f2 hL2 => ?_
  have f2 := f2.in_nil
  have l2 : b2 < h2.size := hL2.head.lt
  have l1 : b1 < h2.size := hL2.tail.head.lt
  have z2 := f2.size
  have hgl := graph_len W.graph
  have hl := W.len
  refine eop_lit rIs (fun k => h2.size ≤ k) (fun _ h => h) 0 (by omega) [] rfl rfl fun t h3 n3 c3 o3 f3 m3 _ => ⟨t, rfl, hL2.of_no f3, ?_⟩
  have z3 := f3.size
  have f03 := f2.no_trans f3
  have eqc : cyP (sx xss ls) xss.length p = match ret (sx xss ls) p (xss.length + 1) 1 with
    | some k => turnL (orb (sx xss ls) p k)
    | none => [] := rfl
  refine ⟨fun n x q h' => ∃ m, m + n = xss.length + 1 /\ q = itf (sx xss ls) p m /\ 0 ≤ q /\ OwI h' (fun k => h2.size ≤ k) x (orb (sx xss ls) p m) /\ Fr No h h' /\ h2.size ≤ h'.size /\ cyP (sx xss ls) xss.length p = match ret (sx xss ls) p n (m + 1) with
      | some k => turnL (orb (sx xss ls) p k)
      | none => [], ⟨xss.length + 1, 0, by omega, rfl, h0, by show Ow _ _ _ _ _ _; simpa [orb] using o3, f03, z3, eqc⟩, ?_⟩
  rintro n x q h4 ⟨m, mr, rfl, q0, o4, f4, z4, eq⟩ hL4
  have r4 : RdI (fun k => h2.size ≤ k) h4 x (orb (sx xss ls) p m) := o4.rdF
  have hxn : x.n = m := by have := r4.len; rw [orb_length] at this; exact this
  have q1 := (its_lt W h1 (by omega) m).2
  have G4 := G.no f4
  have H4 := H.no f4
  have hgn := G.len
  obtain ⟨si, c1, r1⟩ := H4.get q0 (by omega)
  refine ⟨H4.inb q0 (by omega), si, c1, fun e => ?_, fun e => ⟨fun e2 => ?_, fun e2 => ?_⟩⟩
  · simp only [decide_eq_true_eq] at e
    have : itf (sx xss ls) p (m + 1) = -1 := by rw [itf]; exact sx_none (by rw [getD_get (by omega)]; have := r1.len; omega)
    rw [ret_neg h0 n (m + 1) (by omega)] at eq
    exact HK nilSl h4 (by rw [eq]; exact Ow.nil _ _ _ _) (by rw [eq]; rfl) f4
  · simp only [decide_eq_true_eq] at e2
    obtain rfl : n = 0 := by omega
    rw [ret] at eq
    exact HK nilSl h4 (by rw [eq]; exact Ow.nil _ _ _ _) (by rw [eq]; rfl) f4
  simp only [decide_eq_false_iff_not] at e e2
  obtain ⟨hs, hz, hm, e3, e4⟩ := sx_some W q0 q1 (by rw [getD_get (by omega)]; have := r1.len; omega)
  refine eop_lit rIs (fun k => h4.size ≤ k) (fun _ h => h) 1 (by omega) [VI (itf (sx xss ls) p m)] rfl rfl fun u h5 n5 c5 o5 f5 m5 _ => ⟨u, rfl, hL4.of_no f5, ?_⟩
  have z5 := f5.size
  have r5 : RdI u.own h5 u [itf (sx xss ls) p m] := o5.rd
  refine eop_append rIs (Ow.no o4 f5) (fun k hk => by omega) r5 (plainVI _) (by have := r5.len; simp at this; omega) fun y h6 n6 o6 f6 d6 => ?_
  have hL6 := (hL4.of_no f5).fr f6 fun p hp hk => by
    have := (o4.foot hk).1
    simp only [List.mem_cons, List.not_mem_nil, or_false] at hp
    rcases hp with rfl | rfl <;> simp only at this <;> omega
  have z6 := f6.size
  have f06 : Fr No h h6 := (f4.no_trans f5).fresh f6 fun k hk => by have := (o4.foot hk).1; omega
  rw [← List.map_append, ← orb_succ] at o6
  have r6 : RdI (fun k => h2.size ≤ k) h6 y (orb (sx xss ls) p (m + 1)) := o6.rdF
  have hyn : y.n = m + 1 := by have := r6.len; rw [orb_length] at this; exact this
  have G6 := G.no f06
  have H6 := H.no f06
  obtain ⟨gi, c7, r7⟩ := G6.get q0 q1
  obtain ⟨si', c8, r8⟩ := H6.get q0 (by omega)
  have eit : itf (sx xss ls) p (m + 1) = (xss[(itf (sx xss ls) p m).toNat]'(by omega))[((ls[(itf (sx xss ls) p m).toNat]'hs)[0]'hz).toNat]'hm := by rw [itf]; exact e4
  refine ⟨y, rfl, hL6, G6.inb q0 q1, gi, c7, H6.inb q0 (by omega), si', c8, r8.inb (by omega) (by omega), _, r8.get (by omega) (by omega), r7.inb e3 (by (try simp only [Int.toNat_zero]); omega), _, r7.get e3 (by (try simp only [Int.toNat_zero]); omega), ?_⟩
  simp only [Int.toNat_zero]
  rw [← eit]
  obtain ⟨n, rfl⟩ : ∃ n', n = n' + 1 := ⟨n - 1, by omega⟩
  rw [ret] at eq
  refine ⟨fun e5 => ?_, fun e5 => ?_⟩
  · simp only [decide_eq_true_eq] at e5
    rw [if_pos e5] at eq
    simp only at eq
    have hne : orb (sx xss ls) p (m + 1) ≠ [] := fun h => by have := congrArg List.length h; rw [orb_length] at this; simp at this
    refine k_Min r6 hne _ fun mi hmi hmin => ⟨_, rfl, hL6, k_IndexI r6 _ _ (fun hn => absurd hmi hn) fun i hi ei hj => ⟨_, rfl, hL6, ?_⟩⟩
    have hil : i = lstI (orb (sx xss ls) p (m + 1)) (orb (sx xss ls) p (m + 1)).length := least_eq hi (fun j hj2 => by rw [ei, getD_getI hj2]; exact hmin _ (List.getElem_mem _)) fun j hj2 => by
      have h1 := hj j hj2
      have h2 := hmin _ (List.getElem_mem (show j < (orb (sx xss ls) p (m + 1)).length by omega))
      rw [ei]
      rw [getD_getI (by omega)] at h1 ⊢
      omega
    rw [orb_length] at hi
    refine pop_cut_l rIs .i64 (by omega) (by omega) ⟨_, rfl, pop_cut_h rIs .i64 (by omega) (by have := RdV.cap r6; omega) ⟨_, rfl, ?_⟩⟩
    simp only [Int.toNat_natCast]
    have ra := RdI.cut r6 (l := i) (m := y.n) (by omega) (by rw [orb_length]; omega)
    have rb := RdI.cut r6 (l := 0) (m := i) (by omega) (by rw [orb_length]; omega)
    rw [List.take_of_length_le (by simp [orb_length]; omega)] at ra
    rw [List.drop_zero, Nat.sub_zero] at rb
    refine eop_lit rIss (fun k => h6.size ≤ k) (fun _ h => h) 2 (by omega) [(y.cut 1 i y.n y.c).v, (y.cut 1 0 i y.c).v] rfl rfl fun v h9 n9 c9 o9 f9 m9 _ => ⟨v, rfl, hL6.of_no f9, ?_⟩
    have R9 : RdR (fun k => h2.size ≤ k) h9 v [(orb (sx xss ls) p (m + 1)).drop i, (orb (sx xss ls) p (m + 1)).take i] := ⟨[y.cut 1 i y.n y.c, y.cut 1 0 i y.c], rfl, o9.rdF.mono fun k hk => by omega, fun j a b => by
      match j, a with
      | 0, _ => exact RdI.no ra f9
      | 1, _ => exact RdI.no rb f9⟩
    refine k_Concat R9 (by simp [totR, orb_length]; omega) _ fun w h10 o10 f10 => ⟨w, rfl, (hL6.of_no f9).of_no f10, ?_⟩
    have z9 := f9.size
    have erot : [(orb (sx xss ls) p (m + 1)).drop i, (orb (sx xss ls) p (m + 1)).take i].flatten = cyP (sx xss ls) xss.length p := by
      rw [eq]; unfold turnL; rw [← hil]; simp
    rw [erot] at o10
    have hcl : (cyP (sx xss ls) xss.length p).length = m + 1 := by rw [eq, turnL_length, orb_length]
    have hcn : cyP (sx xss ls) xss.length p ≠ [] := fun h => by rw [h] at hcl; simp at hcl
    have hwa : w.a.isNone = false := by
      have hw := Ow.rdF o10
      obtain ⟨a, ha, _⟩ := hw.cell 0 (by simp [hcl])
      rw [ha]; rfl
    exact HK w h10 (Ow.ivs o10 (by omega) (Nat.le_refl _)) (by rw [hwa, decide_eq_false hcn]) ((f06.no_trans f9).no_trans f10)
  · simp only [decide_eq_false_iff_not] at e5
    rw [if_neg e5] at eq
    have hnn : 0 ≤ itf (sx xss ls) p (m + 1) := by
      rw [eit]
      exact ((graph_mem W.graph (List.getElem_mem _)).2 _ (List.getElem_mem _)).1
    exact ⟨n, by omega, m + 1, by omega, rfl, hnn, o6, f06, by omega, eq⟩
theorem k_copiedS {S : Nat -> Prop} {h : Heap} {g : Sl} {xss : List (List Int)} (H : RdR S h g xss) (hn : xss.length + totR xss ≤ 1000000000) (K : Value -> Heap -> Prop) (HK : ∀ t h', OwX h' (Iv h.size h'.size) t xss -> Fr No h h' -> K (.agg #[t.v]) h') : callM Tryz.prog 63 #[.agg #[g.v]] h K := by
  refine v63 g h K fun b1 b2 b3 h4 hb1 hb2 hb3 f4 hL4 => ?_
  have f4 := f4.in_nil
  have l3 : b3 < h4.size := hL4.head.lt
  have l2 : b2 < h4.size := hL4.tail.head.lt
  have l1 : b1 < h4.size := hL4.tail.tail.head.lt
  have s4 := f4.size
  refine ⟨fun n i x h' => 0 ≤ i /\ i + n = (xss.length : Int) /\ OwX h' (fun k => h4.size ≤ k) x (xss.take i.toNat) /\ Fr No h h' /\ h4.size ≤ h'.size, ⟨xss.length, by omega, by omega, by simpa using OwR.nil _ _ _ _, f4, Nat.le_refl _⟩, ?_⟩
  rintro n i x h5 ⟨i0, i1, o5, f5, z5⟩ hL5
  have H5 := H.no f5
  refine ⟨fun e => ?_, fun e => ?_⟩
  · have hi := H.lt e
    obtain ⟨si, c1, c2⟩ := H5.get i0 hi
    have hsi := short_of_tot (xss[i.toNat]'(by omega)) (List.getElem_mem (by omega))
    refine ⟨H5.inb i0 hi, si, c1, k_Clone c2 (by omega) _ fun t h6 o6 f6 => ⟨t, rfl, hL5.of_no f6, ?_⟩⟩
    refine eop_lit rIss (fun k => h6.size ≤ k) (fun _ h => h) 1 (by omega) [t.v] rfl rfl fun u h7 n7 c7 o7 f7 l7 _ => ⟨u, rfl, (hL5.of_no f6).of_no f7, ?_⟩
    have s6 := f6.size
    have s7 := f7.size
    refine OwR.snoc rIss ((o5.toIv.no f6).no f7) (F' := fun k => h4.size ≤ k) (fun k _ hk => hk.1) (fun k hk => by omega) ((Ow.no o6 f7).mono fun k _ hk => Nat.le_trans z5 hk.1) (fun k hk hk2 => by have := (o6.foot hk).1.1; have := hk2.2; omega) o7.rd (by simp; omega) fun y h8 o8 f8 => ⟨y, rfl, ((hL5.of_no f6).of_no f7).iv f8 ⟨.inl l3, .inl l2, .inl l1, trivial⟩, fun h9 f9 hL9 => ?_⟩
    have s8 := f8.size
    have f9 := f9.inIv (lo := h.size) (hi := h4.size) ⟨⟨hb3, l3⟩, trivial⟩
    have s9 := f9.size
    rw [H.succ i0 hi]
    refine ⟨n - 1, by omega, by omega, by omega, ?_, ?_, by omega⟩
    · rw [take_snoc xss i0 hi]
      exact (o8.toIv.iv f9 (.inr (Nat.le_refl _))).mono fun k _ hk => hk.1
    · exact ((((f5.no_trans f6).no_trans f7).ivFresh f8 (by omega))).ivFresh f9 (Nat.le_refl _)
  · have hi := H.ge e
    rw [List.take_of_length_le (by omega)] at o5
    intro h10 f10 hL10
    have f10 := f10.inIv (lo := h.size) (hi := h4.size) ⟨⟨hb2, l2⟩, trivial⟩
    exact HK x h10 ((o5.toIv.iv f10 (.inr (Nat.le_refl _))).mono fun k hk2 hk => ⟨Nat.le_trans s4 hk.1, hk2⟩) (f5.ivFresh f10 (Nat.le_refl _))
theorem k_pop {a c : Nat} {S' : Nat -> Prop} {h : Heap} {s cyc : Sl} {ls : List (List Int)} {cs : List Int} (H : OwX h (Iv a c) s ls) (hc : c ≤ h.size) (R : RdI S' h cyc cs) (hd : ∀ k, S' k -> ¬ Iv a c k) (hnd : cs.Nodup) (htop : ∀ x, x ∈ cs -> 0 ≤ x /\ x < (ls.length : Int) /\ (ls.getD x.toNat []).length ≠ 0) (K : Value -> Heap -> Prop) (HK : ∀ h' v, OwX h' (Iv a c) s (popP ls cs) -> Fr (Iv a c) h h' -> K v h') : callM Tryz.prog 64 #[.agg #[s.v], cyc.v] h K := by
  refine v64 s cyc h K fun b1 h1 hb1 f1 hL1 => ?_
  have f1 := f1.in_nil
  refine ⟨fun n i h' => 0 ≤ i /\ i + n = (cs.length : Int) /\ OwX h' (Iv a c) s (popP ls (cs.take i.toNat)) /\ Fr (Iv a c) h h', ⟨cs.length, by omega, by omega, by simpa [popP_nil] using H.no f1, f1.of_no⟩, ?_⟩
  rintro n i h2 ⟨i0, i1, o2, f2⟩ hL2
  have R2 := RdI.fr R f2 hd
  refine ⟨fun e => ?_, fun e => ?_⟩
  · have hi := R2.lt e
    have hm := htop _ (List.getElem_mem (show i.toNat < cs.length by omega))
    have hx0 := hm.1
    have hx1 := hm.2.1
    have hxl : (cs[i.toNat]'(by omega)).toNat < (popP ls (cs.take i.toNat)).length := by rw [popP_length]; omega
    have hx2 : cs[i.toNat]'(by omega) < ((popP ls (cs.take i.toNat)).length : Int) := by omega
    have hnm : cs[i.toNat]'(by omega) ∉ cs.take i.toNat := fun hx => by
      obtain ⟨j, hj, e⟩ := List.getElem_of_mem hx
      simp only [List.length_take] at hj
      rw [List.getElem_take] at e
      unfold List.Nodup at hnd
      rw [List.pairwise_iff_getElem] at hnd
      exact hnd j i.toNat (by omega) (by omega) (by omega) e
    have hls : (cs[i.toNat]'(by omega)).toNat < ls.length := by omega
    have hcast : (((cs[i.toNat]'(by omega)).toNat : Nat) : Int) = cs[i.toNat]'(by omega) := by omega
    have eg : (popP ls (cs.take i.toNat))[(cs[i.toNat]'(by omega)).toNat]'hxl = ls[(cs[i.toNat]'(by omega)).toNat]'hls := by
      rw [popP_get ls _ _ hxl hls, hcast, if_neg hnm]
    obtain ⟨si, c1, c2, _⟩ := o2.inner hx0 hx2
    rw [eg] at c2
    have hsn : si.n = (ls[(cs[i.toNat]'(by omega)).toNat]'hls).length := RdI.len c2.rdF
    have hne := hm.2.2
    rw [getD_get hls] at hne
    refine ⟨R2.inb i0 hi, _, R2.get i0 hi, o2.rd.inb hx0 hx2, si, c1, pop_cut_l rIs .i64 (by omega) (by omega) ⟨_, rfl, o2.rd.inb hx0 hx2, ?_⟩⟩
    have cc := c2.cut (l := 1) (m := si.n) (by omega) (Nat.le_refl _)
    have ec : ((((ls[(cs[i.toNat]'(by omega)).toNat]'hls).map VI).drop (1 * 1)).take ((si.n - 1) * 1)) = ((ls[(cs[i.toNat]'(by omega)).toNat]'hls).drop 1).map VI := by
      rw [List.take_of_length_le (by simp; omega), List.map_drop]
    rw [ec] at cc
    obtain ⟨_, w1, w2, w3⟩ := o2.outer2 hx0 hx2 c1 (Fr.refl _ _) (F' := Iv a c) cc (fun _ _ hk => hk) fun k hk => .inl (Ow.cut_own hk)
    have w3' := o2.ownF w3
    have hL3 := hL2.fr w3' fun p hp hk => by
      simp only [List.mem_cons, List.not_mem_nil, or_false] at hp
      subst hp
      have := hk.2
      simp only at this
      omega
    refine ⟨w1, hL3, fun h3 e3 _ => ?_⟩
    subst e3
    rw [R2.succ i0 hi]
    refine ⟨n - 1, by omega, by omega, by omega, ?_, f2.trans w3'⟩
    rw [take_snoc cs i0 hi]
    have ep : (popP ls (cs.take i.toNat)).set (cs[i.toNat]'(by omega)).toNat ((ls[(cs[i.toNat]'(by omega)).toNat]'hls).drop 1) = popP ls (cs.take i.toNat ++ [cs[i.toNat]'(by omega)]) := by
      apply List.ext_getElem
      · simp [popP_length]
      · intro j a b
        rw [List.getElem_set]
        simp only [List.length_set, popP_length] at a
        rw [popP_get ls _ j b a]
        split
        · rename_i e
          subst e
          rw [if_pos (by rw [hcast]; exact List.mem_append.2 (.inr List.mem_cons_self))]
        · rename_i e
          rw [popP_get ls _ j (by rw [popP_length]; exact a) a]
          have : ((j : Int) ∈ cs.take i.toNat ++ [cs[i.toNat]'(by omega)]) ↔ (j : Int) ∈ cs.take i.toNat := by
            simp only [List.mem_append, List.mem_cons, List.not_mem_nil, or_false]
            exact ⟨fun h => h.resolve_right fun h => e (by rw [← h]; simp), .inl⟩
          simp only [this]
    rw [← ep]
    exact w2
  · have hi := R2.ge e
    rw [List.take_of_length_le (by omega)] at o2
    exact HK h2 _ o2 f2
theorem k_skPop {S S' : Nat -> Prop} {h : Heap} {s cyc : Sl} {ls : List (List Int)} {cs : List Int} (H : RdR S h s ls) (R : RdI S' h cyc cs) (hn : ls.length + totR ls ≤ 1000000000) (htop : ∀ x, x ∈ cs -> 0 ≤ x /\ x < (ls.length : Int) /\ (ls.getD x.toNat []).length ≠ 0) (K : Value -> Heap -> Prop) (HK : ∀ t h', OwX h' (Iv h.size h'.size) t (popP ls cs) -> Fr No h h' -> K (.agg #[t.v]) h') : callM Tryz.prog 66 #[.agg #[s.v], cyc.v] h K := by
  refine v66 s cyc h K fun b1 b2 b3 h4 hb1 hb2 hb3 f4 hL4 => ?_
  have f4 := f4.in_nil
  have l3 : b3 < h4.size := hL4.head.lt
  have l2 : b2 < h4.size := hL4.tail.head.lt
  have l1 : b1 < h4.size := hL4.tail.tail.head.lt
  have s4 := f4.size
  refine ⟨fun n i x h' => 0 ≤ i /\ i + n = (ls.length : Int) /\ OwX h' (fun k => h4.size ≤ k) x ((popP ls cs).take i.toNat) /\ Fr No h h' /\ h4.size ≤ h'.size, ⟨ls.length, by omega, by omega, by simpa using OwR.nil _ _ _ _, f4, Nat.le_refl _⟩, ?_⟩
  rintro n i x h5 ⟨i0, i1, o5, f5, z5⟩ hL5
  have H5 := H.no f5
  have R5 := RdI.no R f5
  refine ⟨fun e => ?_, fun e => ?_⟩
  · have hi := H.lt e
    obtain ⟨si, c1, c2⟩ := H5.get i0 hi
    have hsi := short_of_tot (ls[i.toNat]'(by omega)) (List.getElem_mem (by omega))
    have hci : ((i.toNat : Nat) : Int) = i := by omega
    have hpl : i.toNat < (popP ls cs).length := by rw [popP_length]; omega
    have eg := popP_get ls cs i.toNat hpl (by omega)
    rw [hci] at eg
    refine ⟨H5.inb i0 hi, si, c1, fun y h' => RdI S h' y ((popP ls cs)[i.toNat]'hpl) /\ h' = h5, ?_, ?_⟩
    · refine k_l1Has R5 _ _ ⟨_, rfl, hL5, fun e2 => ?_, fun e2 => ?_⟩
      · simp only [decide_eq_true_eq] at e2
        have ht := (htop i e2).2.2
        rw [getD_get (by omega)] at ht
        have hsn := c2.len
        refine pop_cut_l rIs .i64 (by omega) (by omega) ⟨_, rfl, ?_, rfl⟩
        have cc := RdI.cut c2 (l := 1) (m := si.n) (by omega) (by omega)
        rw [List.take_of_length_le (by simp; omega)] at cc
        rw [eg, if_pos e2]
        exact cc
      · simp only [decide_eq_false_iff_not] at e2
        exact ⟨by rw [eg, if_neg e2]; exact c2, rfl⟩
    rintro y _ ⟨ry, rfl⟩ hL5'
    have hyl : ((popP ls cs)[i.toNat]'hpl).length ≤ totR ls := by
      rw [eg]
      split
      · simp; omega
      · exact hsi
    refine k_l1Own ry (by omega) _ fun t h6 o6 f6 => ⟨t, rfl, hL5.of_no f6, ?_⟩
    refine eop_lit rIss (fun k => h6.size ≤ k) (fun _ h => h) 1 (by omega) [t.v] rfl rfl fun u h7 n7 c7 o7 f7 l7 _ => ⟨u, rfl, (hL5.of_no f6).of_no f7, ?_⟩
    have s6 := f6.size
    have s7 := f7.size
    refine OwR.snoc rIss ((o5.toIv.no f6).no f7) (F' := fun k => h4.size ≤ k) (fun k _ hk => hk.1) (fun k hk => by omega) ((Ow.no o6 f7).mono fun k _ hk => Nat.le_trans z5 hk.1) (fun k hk hk2 => by have := (o6.foot hk).1.1; have := hk2.2; omega) o7.rd (by simp [popP_length]; omega) fun y h8 o8 f8 => ⟨y, rfl, ((hL5.of_no f6).of_no f7).iv f8 ⟨.inl l3, .inl l2, .inl l1, trivial⟩, fun h9 f9 hL9 => ?_⟩
    have s8 := f8.size
    have f9 := f9.inIv (lo := h.size) (hi := h4.size) ⟨⟨hb3, l3⟩, trivial⟩
    have s9 := f9.size
    rw [H.succ i0 hi]
    refine ⟨n - 1, by omega, by omega, by omega, ?_, ?_, by omega⟩
    · rw [take_snoc (popP ls cs) i0 (by omega)]
      exact (o8.toIv.iv f9 (.inr (Nat.le_refl _))).mono fun k _ hk => hk.1
    · exact ((((f5.no_trans f6).no_trans f7).ivFresh f8 (by omega))).ivFresh f9 (Nat.le_refl _)
  · have hi := H.ge e
    rw [List.take_of_length_le (by rw [popP_length]; omega)] at o5
    intro h10 f10 hL10
    have f10 := f10.inIv (lo := h.size) (hi := h4.size) ⟨⟨hb2, l2⟩, trivial⟩
    exact HK x h10 ((o5.toIv.iv f10 (.inr (Nat.le_refl _))).mono fun k hk2 hk => ⟨Nat.le_trans s4 hk.1, hk2⟩) (f5.ivFresh f10 (Nat.le_refl _))
def popCP (g : List (List Int)) (sink : Int) (S : List (List Int)) (p : Int) : List (List Int) × Bool :=
  if stackB g sink S && (graphB g && inR 0 ((g.length : Int) - 1) p) then
    if cyP (sx g S) g.length p = [] then ([], false) else (popP S (cyP (sx g S) g.length p), true)
  else ([], false)
theorem k_spec_PopCycle {S S' : Nat -> Prop} {h : Heap} {g s : Sl} {xss ls : List (List Int)} (G : RdR S h g xss) (H : RdR S' h s ls) (sink p : Int) (K : Value -> Heap -> Prop) (HK : ∀ t h', OwX h' (Iv h.size h'.size) t (popCP xss sink ls p).1 -> Fr No h h' -> K (.tuple #[.agg #[t.v], VB (popCP xss sink ls p).2]) h') : callM Tryz.prog 20 #[.agg #[g.v], VI sink, .agg #[s.v], VI p] h K := by
  refine v20 g sink s p h K fun b1 b2 b3 h3 hb1 hb2 hb3 f3 hL3 => ?_
  have f3 := f3.in_nil
  have l3 : b3 < h3.size := hL3.head.lt
  have z3 := f3.size
  have no : popCP xss sink ls p = ([], false) -> ∀ h4 h', Fr No h h4 -> Fr (In [b3]) h4 h' -> K (.tuple #[.agg #[nilSl.v], VB false]) h' := fun e h4 h' f f' => by
    have f' := f'.inIv (lo := h.size) (hi := h3.size) ⟨⟨hb3, l3⟩, trivial⟩
    have := HK nilSl h' (by rw [e]; exact OwR.nil _ _ _ _) (f.ivFresh f' (Nat.le_refl _))
    rw [e] at this
    exact this
  refine k_skGood (G.no f3) (H.no f3) sink _ fun h4 f4 => ⟨_, rfl, hL3.of_no f4, fun e h11 f11 _ => ?_, fun e => ?_⟩
  · exact no (by unfold popCP; rw [if_neg (by rw [not_t e]; simp)]) _ _ (f3.no_trans f4) f11
  have e := not_f e
  have f04 := f3.no_trans f4
  have hL4 := hL3.of_no f4
  refine k_spec_grPlace (G.no f04) p _ fun h5 f5 => ⟨_, rfl, hL4.of_no f5, fun e2 h11 f11 _ => ?_, fun e2 => ?_⟩
  · exact no (by unfold popCP; rw [if_neg (by rw [e, not_t e2]; simp)]) _ _ (f04.no_trans f5) f11
  have e2 := not_f e2
  have e3 : popCP xss sink ls p = if cyP (sx xss ls) xss.length p = [] then ([], false) else (popP ls (cyP (sx xss ls) xss.length p), true) := by unfold popCP; exact if_pos (by rw [e, e2]; rfl)
  have W := (stack_of e).1
  rw [Bool.and_eq_true, inR_iff] at e2
  have f05 := f04.no_trans f5
  have hL5 := hL4.of_no f5
  refine k_skCycle (G.no f05) (H.no f05) W e2.2.1 (by omega) _ fun t h7 o7 f7 => ⟨t, rfl, hL5.of_no f7, fun e4 h8 f8 _ => ?_, fun e4 => ?_⟩
  · have r7 : RdI _ h7 t _ := Ow.rdF o7
    simp only [decide_eq_true_eq] at e4
    have hl := r7.len
    exact no (by rw [e3, if_pos (List.eq_nil_of_length_eq_zero (by omega))]) _ _ (f05.no_trans f7) f8
  have r7 : RdI _ h7 t _ := Ow.rdF o7
  simp only [decide_eq_false_iff_not] at e4
  have hl := r7.len
  rw [if_neg (fun h => by rw [h] at hl; simp at hl; omega)] at e3
  have f07 := f05.no_trans f7
  have hL7 := hL5.of_no f7
  have hlen := W.len
  refine k_skPop (H.no f07) r7 (by have := W.tot; omega) (fun x hx => by have := cyP_top W e2.2.1 (by omega) x hx; omega) _ fun u h9 o9 f9 => ⟨u, rfl, hL7.of_no f9, fun h10 f10 _ => ?_⟩
  have f10 := f10.inIv (lo := h.size) (hi := h3.size) ⟨⟨hb3, l3⟩, trivial⟩
  have z4 := f4.size
  have z5 := f5.size
  have z7 := f7.size
  have z9 := f9.size
  have z10 := f10.size
  have := HK u h10 (by rw [e3]; exact (o9.iv f10 (by omega)).ivs (by omega) (by omega)) ((f07.no_trans f9).ivFresh f10 (Nat.le_refl _))
  rw [e3] at this
  exact this
theorem k_PopCycle {S S' : Nat -> Prop} {h : Heap} {g s : Sl} {xss ls : List (List Int)} (G : RdR S h g xss) (H : RdR S' h s ls) (sink p : Int) (K : Value -> Heap -> Prop) (HK : ∀ t h', OwX h' (Iv h.size h'.size) t (popCP xss sink ls p).1 -> Fr No h h' -> K (.tuple #[.agg #[t.v], VB (popCP xss sink ls p).2]) h') : callM Tryz.prog 19 #[.agg #[g.v], VI sink, .agg #[s.v], VI p] h K := by
  refine v19 g sink s p h K fun b1 b2 b3 h3 hb1 hb2 hb3 f3 hL3 => ?_
  have f3 := f3.in_nil
  have l3 : b3 < h3.size := hL3.head.lt
  have z3 := f3.size
  have no : popCP xss sink ls p = ([], false) -> ∀ h4 h', Fr No h h4 -> Fr (In [b3]) h4 h' -> K (.tuple #[.agg #[nilSl.v], VB false]) h' := fun e h4 h' f f' => by
    have f' := f'.inIv (lo := h.size) (hi := h3.size) ⟨⟨hb3, l3⟩, trivial⟩
    have := HK nilSl h' (by rw [e]; exact OwR.nil _ _ _ _) (f.ivFresh f' (Nat.le_refl _))
    rw [e] at this
    exact this
  refine k_areStacks (G.no f3) (H.no f3) sink _ fun h4 f4 => ⟨_, rfl, hL3.of_no f4, fun e h11 f11 _ => ?_, fun e => ?_⟩
  · exact no (by unfold popCP; rw [if_neg (by rw [not_t e]; simp)]) _ _ (f3.no_trans f4) f11
  have e := not_f e
  have f04 := f3.no_trans f4
  have hL4 := hL3.of_no f4
  refine eop_lit rIs (fun k => h4.size ≤ k) (fun _ h => h) 1 (by omega) [VI p] rfl rfl fun q h4' n4 c4 o4 f4' m4 _ => ⟨q, rfl, hL4.of_no f4', ?_⟩
  have o4 : RdI (fun k => h4.size ≤ k) h4' q [p] := o4.rdF
  have f04' := f04.no_trans f4'
  have hL4' := hL4.of_no f4'
  refine k_has (G.no f04') o4 _ fun h5 f5 => ⟨_, rfl, hL4'.of_no f5, fun e2 h11 f11 _ => ?_, fun e2 => ?_⟩
  all_goals simp only [List.all_cons, List.all_nil, Bool.and_true] at e2
  · exact no (by unfold popCP; rw [if_neg (by rw [e, not_t e2]; simp)]) _ _ (f04'.no_trans f5) f11
  have e2 := not_f e2
  have e3 : popCP xss sink ls p = if cyP (sx xss ls) xss.length p = [] then ([], false) else (popP ls (cyP (sx xss ls) xss.length p), true) := by unfold popCP; exact if_pos (by rw [e, e2]; rfl)
  have W := (stack_of e).1
  rw [Bool.and_eq_true, inR_iff] at e2
  have f05 := f04'.no_trans f5
  have hL5 := hL4'.of_no f5
  have hlen := W.len
  refine k_cycleOf (G.no f05) (H.no f05) W e2.2.1 (by omega) _ fun t h7 o7 hnil f7 => ⟨t, rfl, hL5.of_no f7, pop_isnil rIs _ _ ⟨_, rfl, fun e4 h8 f8 _ => ?_, fun e4 => ?_⟩⟩
  · rw [hnil, decide_eq_true_eq] at e4
    exact no (by rw [e3, if_pos e4]) _ _ (f05.no_trans f7) f8
  rw [hnil, decide_eq_false_iff_not] at e4
  rw [if_neg e4] at e3
  have f07 := f05.no_trans f7
  have hL7 := hL5.of_no f7
  have hl1 : b3 < h7.size := hL7.head.lt
  have hl2 : b2 < h7.size := hL7.tail.head.lt
  have hl4 : b1 < h7.size := hL7.tail.tail.head.lt
  refine k_copiedS (H.no f07) (by have := W.tot; omega) _ fun u h9 o9 f9 => ⟨u, rfl, hL7.of_no f9, fun b4 h12 hb4 f12 hL12 => ?_⟩
  have f12 := f12.in_nil
  have z9 := f9.size
  have z12 := f12.size
  have l4 : b4 < h12.size := hL12.head.lt
  have f012 := (f07.no_trans f9).no_trans f12
  have o12 := o9.no f12
  have r12 : RdI (Iv h5.size h7.size) h12 t _ := RdI.no (RdI.no (Ow.rdF o7) f9) f12
  refine k_pop o12 z12 r12 (fun k hk hk2 => by have := hk.2; have := hk2.1; omega) (cyP_nodup _ _ _) (fun x hx => by have := cyP_top W e2.2.1 (by omega) x hx; omega) _ fun h13 v o13 f13 => ?_
  have hL13 := hL12.iv f13 ⟨.inr hb4, .inl (by omega), .inl (by omega), .inl (by omega), trivial⟩
  have z13 := f13.size
  have f013 : Fr No h h13 := f012.ivFresh f13 (by have := f07.size; omega)
  refine ⟨hL13, k_copiedS o13.rdI (by have := W.tot; have := popP_tot ls (cyP (sx xss ls) xss.length p); rw [popP_length]; omega) _ fun w h14 o14 f14 => ⟨w, rfl, hL13.of_no f14, fun h15 f15 _ => ?_⟩⟩
  have f15 := f15.inIv (lo := h.size) (hi := h3.size) ⟨⟨hb3, l3⟩, trivial⟩
  have z4 := f4.size
  have z4' := f4'.size
  have z5 := f5.size
  have z7 := f7.size
  have z14 := f14.size
  have z15 := f15.size
  have := HK w h15 (by rw [e3]; exact (o14.iv f15 (by omega)).ivs (by omega) (by omega)) ((f013.no_trans f14).ivFresh f15 (Nat.le_refl _))
  rw [e3] at this
  exact this
def cycL (g S : List (List Int)) : Nat -> List (List Int)
  | 0 => []
  | p + 1 => cycL g S p ++ (if cyP (sx g S) g.length p ≠ [] /\ (cyP (sx g S) g.length p).getD 0 0 = (p : Int) then [cyP (sx g S) g.length p] else [])
def cycsP (g S : List (List Int)) : List (List Int) := cycL g S g.length
theorem cycL_len (g S : List (List Int)) : ∀ n, (cycL g S n).length ≤ n
  | 0 => by simp [cycL]
  | n + 1 => by
    have := cycL_len g S n
    rw [cycL, List.length_append]
    split <;> simp <;> omega
def topL (sink : Int) (S : List (List Int)) : Nat -> Option (List Int)
  | 0 => some []
  | i + 1 => match topL sink S i with
    | none => none
    | some l => if (i : Int) = sink then some (l ++ [0]) else if (S.getD i []).length = 0 then none else some (l ++ [(S.getD i []).getD 0 0])
def topsP (sink : Int) (S : List (List Int)) : List Int × Bool := match topL sink S S.length with
  | none => ([], false)
  | some l => (l, true)
theorem topL_none {sink : Int} {S : List (List Int)} {i : Nat} (h : topL sink S i = none) : ∀ m, topL sink S (i + m) = none
  | 0 => h
  | m + 1 => by rw [← Nat.add_assoc, topL, topL_none h m]
theorem topL_len {sink : Int} {S : List (List Int)} : ∀ {i : Nat} {l : List Int}, topL sink S i = some l -> l.length = i
  | 0, l, h => by simp [topL] at h; simp [h]
  | i + 1, l, h => by
    rw [topL] at h
    split at h
    · cases h
    · rename_i l' hl
      have := topL_len hl
      split at h
      · simp only [Option.some.injEq] at h; rw [← h]; simp [this]
      · split at h
        · cases h
        · simp only [Option.some.injEq] at h; rw [← h]; simp [this]
theorem topsP_none {sink : Int} {S : List (List Int)} {i : Nat} (h : topL sink S i = none) (hi : i ≤ S.length) : topsP sink S = ([], false) := by
  unfold topsP
  have := topL_none h (S.length - i)
  rw [show i + (S.length - i) = S.length by omega] at this
  rw [this]
theorem k_skTops {S S' : Nat -> Prop} {h : Heap} {g s : Sl} {xss ls : List (List Int)} (G : RdR S h g xss) (H : RdR S' h s ls) (hl : ls.length = xss.length) (hn : xss.length ≤ 1000) (sink : Int) (K : Value -> Heap -> Prop) (HK : ∀ t h', OwI h' (Iv h.size h'.size) t (topsP sink ls).1 -> Fr No h h' -> K (.tuple #[t.v, VB (topsP sink ls).2]) h') : callM Tryz.prog 57 #[.agg #[g.v], VI sink, .agg #[s.v]] h K := by
  refine v57 g sink s h K fun b1 b2 h2 hb1 hb2 f2 hL2 => ?_
  have f2 := f2.in_nil
  have l2 : b2 < h2.size := hL2.head.lt
  have l1 : b1 < h2.size := hL2.tail.head.lt
  have z2 := f2.size
  refine eop_make rIs (fun k => h2.size ≤ k) (fun _ h => h) .i64 .i64 g.n g.n (Nat.le_refl _) (by rw [G.len]; omega) fun t h3 n3 c3 o3 f3 m3 _ => ⟨t, rfl, hL2.of_no f3, ?_⟩
  have o3 : OwI h3 (fun k => h2.size ≤ k) t (List.replicate xss.length 0) := by
    have e : (List.replicate g.n [VI 0]).flatten = (List.replicate xss.length (0 : Int)).map VI := by rw [G.len]; simp [List.flatten_replicate_singleton]
    rw [e] at o3; exact o3
  have z3 := f3.size
  have f03 := f2.no_trans f3
  have htn : t.n = xss.length := by have := RdI.len (Ow.rdF o3 : RdI _ h3 t _); simpa using this
  refine ⟨fun n i h' => 0 ≤ i /\ i + n = (ls.length : Int) /\ ∃ l, topL sink ls i.toNat = some l /\ OwI h' (fun k => h2.size ≤ k) t (l ++ List.replicate (ls.length - i.toNat) 0) /\ Fr No h h' /\ h2.size ≤ h'.size, ⟨ls.length, by omega, by omega, [], rfl, by simpa [hl] using o3, f03, z3⟩, ?_⟩
  rintro n i h4 ⟨i0, i1, l, hl4, o4, f4, z4⟩ hL4
  have H4 := H.no f4
  have hll := topL_len hl4
  refine ⟨fun e => ?_, fun e => ?_⟩
  · have hi := H4.lt e
    obtain ⟨si, c1, r1⟩ := H4.get i0 hi
    have hci : ((i.toNat : Nat) : Int) = i := by omega
    have est : topL sink ls (i.toNat + 1) = if i = sink then some (l ++ [0]) else if (ls[i.toNat]'(by omega)).length = 0 then none else some (l ++ [(ls[i.toNat]'(by omega)).getD 0 0]) := by rw [topL, hl4]; simp only [hci, getD_get (show i.toNat < ls.length by omega)]
    have erep : List.replicate (ls.length - i.toNat) (0 : Int) = 0 :: List.replicate (ls.length - (i.toNat + 1)) 0 := by rw [show ls.length - i.toNat = (ls.length - (i.toNat + 1)) + 1 by omega]; rfl
    refine ⟨H4.inb i0 hi, si, c1, fun e2 => ?_, fun e2 => ⟨fun e3 => ?_, fun e3 => ?_⟩⟩
    · simp only [decide_eq_true_eq] at e2
      rw [H4.succ i0 hi]
      refine ⟨n - 1, by omega, by omega, by omega, l ++ [0], by rw [toNat_succ i0, est, if_pos e2], ?_, f4, z4⟩
      rw [toNat_succ i0, List.append_assoc]
      rw [erep] at o4
      exact o4
    · simp only [decide_eq_false_iff_not] at e2
      simp only [decide_eq_true_eq] at e3
      rw [topsP_none (i := i.toNat + 1) (by rw [est, if_neg e2, if_pos (by have := r1.len; omega)]) (by omega)] at HK
      exact HK nilSl h4 (Ow.nil _ _ _ _) f4
    · simp only [decide_eq_false_iff_not] at e2 e3
      have hz : 0 < (ls[i.toNat]'(by omega)).length := by have := r1.len; omega
      obtain ⟨w1, w2, w3⟩ := o4.store1 i0 (by omega) (VI ((ls[i.toNat]'(by omega))[0]'hz))
      have hL5 := hL4.fr w3 fun p hp hk => by
        have := (o4.foot hk).1
        simp only [List.mem_cons, List.not_mem_nil, or_false] at hp
        rcases hp with rfl | rfl <;> simp only at this <;> omega
      refine ⟨r1.inb (by omega) (by omega), _, r1.get (by omega) (by omega), o4.inb i0 (by omega), w1, hL5, fun h5 e5 _ => ?_⟩
      subst e5
      have z5 := w3.size
      rw [H4.succ i0 hi]
      refine ⟨n - 1, by omega, by omega, by omega, l ++ [(ls[i.toNat]'(by omega)).getD 0 0], by rw [toNat_succ i0, est, if_neg e2, if_neg (by omega)], ?_, f4.fresh w3 fun k hk => by have := (o4.foot hk).1; omega, by rw [hset_size]; exact z4⟩
      rw [← List.map_set] at w2
      rw [toNat_succ i0, getD_getI hz, List.append_assoc]
      rw [erep, List.set_append_right _ _ (by omega), hll, Nat.sub_self, List.set_cons_zero] at w2
      exact w2
  · have hi := H4.ge e
    have ei : i.toNat = ls.length := by omega
    rw [ei, Nat.sub_self, List.replicate_zero, List.append_nil] at o4
    rw [ei] at hl4
    have et : topsP sink ls = (l, true) := by unfold topsP; rw [hl4]
    rw [et] at HK
    exact HK t h4 ((Ow.toIv o4).ivs z2 (Nat.le_refl _)) f4
theorem k_tops {S' : Nat -> Prop} {h : Heap} {s : Sl} {ls : List (List Int)} (H : RdR S' h s ls) (hn : ls.length ≤ 1000) (sink : Int) (K : Value -> Heap -> Prop) (HK : ∀ t h', OwI h' (Iv h.size h'.size) t (topsP sink ls).1 -> Fr No h h' -> K (.tuple #[t.v, VB (topsP sink ls).2]) h') : callM Tryz.prog 56 #[.agg #[s.v], VI sink] h K := by
  refine v56 s sink h K fun b1 h2 hb1 f2 hL2 => ?_
  have f2 := f2.in_nil
  have l1 : b1 < h2.size := hL2.head.lt
  have z2 := f2.size
  refine eop_lit rIs (fun k => h2.size ≤ k) (fun _ h => h) 0 (by omega) [] rfl rfl fun t h3 n3 c3 o3 f3 m3 _ => ⟨t, rfl, hL2.of_no f3, ?_⟩
  have z3 := f3.size
  have f03 := f2.no_trans f3
  refine ⟨fun n x i h' => 0 ≤ i /\ i + n = (ls.length : Int) /\ ∃ l, topL sink ls i.toNat = some l /\ OwI h' (fun k => h2.size ≤ k) x l /\ Fr No h h' /\ h2.size ≤ h'.size, ⟨ls.length, by omega, by omega, [], rfl, o3, f03, z3⟩, ?_⟩
  rintro n x i h4 ⟨i0, i1, l, hl4, o4, f4, z4⟩ hL4
  have H4 := H.no f4
  have hll := topL_len hl4
  have hxn : x.n = l.length := RdI.len (Ow.rdF o4 : RdI _ h4 x _)
  refine ⟨fun e => ?_, fun e => ?_⟩
  · have hi := H4.lt e
    obtain ⟨si, c1, r1⟩ := H4.get i0 hi
    have hci : ((i.toNat : Nat) : Int) = i := by omega
    have est : topL sink ls (i.toNat + 1) = if i = sink then some (l ++ [0]) else if (ls[i.toNat]'(by omega)).length = 0 then none else some (l ++ [(ls[i.toNat]'(by omega)).getD 0 0]) := by rw [topL, hl4]; simp only [hci, getD_get (show i.toNat < ls.length by omega)]
    have put : ∀ (v : Int), topL sink ls (i.toNat + 1) = some (l ++ [v]) -> ∀ (h5 : Heap) (u : Sl), RdI u.own h5 u [v] -> Fr No h4 h5 -> ∀ K2 : Value -> Heap -> Prop, (∀ y h6, Vars h6 [(b1, [s.v])] -> (∃ m : Nat, m < n /\ (fun (n : Nat) (x : Sl) (i : Int) (h' : Heap) => 0 ≤ i /\ i + n = (ls.length : Int) /\ ∃ l, topL sink ls i.toNat = some l /\ OwI h' (fun k => h2.size ≤ k) x l /\ Fr No h h' /\ h2.size ≤ h'.size) m y (w64 (i + 1)) h6) -> K2 y.v h6) -> eop Tryz.prog (appS tIs tIs tIs x.v u.v) h5 K2 := by
      intro v ev h5 u r5 f5 K2 HK2
      have z5 := f5.size
      refine eop_append rIs (Ow.no o4 f5) (fun k hk => by omega) r5 (plainVI _) (by have := r5.len; simp at this; omega) fun y h6 n6 o6 f6 d6 => HK2 y h6 ((hL4.of_no f5).fr f6 fun p hp hk => by
        have := (o4.foot hk).1
        simp only [List.mem_cons, List.not_mem_nil, or_false] at hp
        subst hp
        simp only at this
        omega) ?_
      have z6 := f6.size
      rw [← List.map_append] at o6
      rw [H4.succ i0 hi]
      exact ⟨n - 1, by omega, by omega, by omega, l ++ [v], by rw [toNat_succ i0]; exact ev, o6, (f4.no_trans f5).fresh f6 fun k hk => by have := (o4.foot hk).1; omega, by omega⟩
    refine ⟨H4.inb i0 hi, si, c1, fun e2 => ?_, fun e2 => ⟨fun e3 => ?_, fun e3 => ?_⟩⟩
    · simp only [decide_eq_true_eq] at e2
      refine eop_lit rIs (fun k => h4.size ≤ k) (fun _ h => h) 1 (by omega) [VI 0] rfl rfl fun u h5 n5 c5 o5 f5 m5 _ => ⟨u, rfl, hL4.of_no f5, ?_⟩
      exact put 0 (by rw [est, if_pos e2]) h5 u o5.rd f5 _ fun y h6 hL6 hJ => ⟨y, rfl, hL6, hJ⟩
    · simp only [decide_eq_false_iff_not] at e2
      simp only [decide_eq_true_eq] at e3
      rw [topsP_none (i := i.toNat + 1) (by rw [est, if_neg e2, if_pos (by have := r1.len; omega)]) (by omega)] at HK
      exact HK nilSl h4 (Ow.nil _ _ _ _) f4
    · simp only [decide_eq_false_iff_not] at e2 e3
      have hz : 0 < (ls[i.toNat]'(by omega)).length := by have := r1.len; omega
      refine ⟨r1.inb (by omega) (by omega), _, r1.get (by omega) (by omega), ?_⟩
      refine eop_lit rIs (fun k => h4.size ≤ k) (fun _ h => h) 1 (by omega) [VI ((ls[i.toNat]'(by omega))[0]'hz)] rfl rfl fun u h5 n5 c5 o5 f5 m5 _ => ⟨u, rfl, hL4.of_no f5, ?_⟩
      exact put _ (by rw [est, if_neg e2, if_neg (by omega), getD_getI hz]) h5 u o5.rd f5 _ fun y h6 hL6 hJ => ⟨y, rfl, hL6, hJ⟩
  · have hi := H4.ge e
    have ei : i.toNat = ls.length := by omega
    rw [ei] at hl4
    have et : topsP sink ls = (l, true) := by unfold topsP; rw [hl4]
    rw [et] at HK
    exact HK x h4 ((Ow.toIv o4).ivs z2 (Nat.le_refl _)) f4
theorem k_skCycles {S S' : Nat -> Prop} {h : Heap} {g s : Sl} {xss ls : List (List Int)} (G : RdR S h g xss) (H : RdR S' h s ls) (W : SOK xss ls) (K : Value -> Heap -> Prop) (HK : ∀ t h', OwX h' (Iv h.size h'.size) t (cycsP xss ls) -> Fr No h h' -> K t.v h') : callM Tryz.prog 53 #[.agg #[g.v], .agg #[s.v]] h K := by
  refine v53 g s h K fun b1 b2 h2 hb1 hb2 f2 hL2 => ?_
  have f2 := f2.in_nil
  have l2 : b2 < h2.size := hL2.head.lt
  have l1 : b1 < h2.size := hL2.tail.head.lt
  have z2 := f2.size
  have hgl := graph_len W.graph
  refine ⟨fun n x i h' => 0 ≤ i /\ i + n = (xss.length : Int) /\ OwX h' (fun k => h2.size ≤ k) x (cycL xss ls i.toNat) /\ Fr No h h' /\ h2.size ≤ h'.size, ⟨xss.length, by omega, by omega, OwR.nil _ _ _ _, f2, Nat.le_refl _⟩, ?_⟩
  rintro n x i h3 ⟨i0, i1, o3, f3, z3⟩ hL3
  have G3 := G.no f3
  refine ⟨fun e => ?_, fun e => ?_⟩
  · have hi := G3.lt e
    have hci : ((i.toNat : Nat) : Int) = i := by omega
    have est : cycL xss ls (i.toNat + 1) = cycL xss ls i.toNat ++ (if cyP (sx xss ls) xss.length i ≠ [] /\ (cyP (sx xss ls) xss.length i).getD 0 0 = i then [cyP (sx xss ls) xss.length i] else []) := by rw [cycL, hci]
    refine k_skCycle G3 (H.no f3) W i0 hi _ fun t h4 o4 f4 => ⟨t, rfl, hL3.of_no f4, fun e2 => ?_, fun e2 => ?_⟩
    rotate_left
    · simp only [decide_eq_false_iff_not] at e2
      have r4 : RdI _ h4 t _ := Ow.rdF o4
      have hln := r4.len
      have z4 := f4.size
      rw [G3.succ i0 hi]
      refine ⟨n - 1, by omega, by omega, by omega, ?_, f3.no_trans f4, by omega⟩
      rw [toNat_succ i0, est, if_neg (fun h => h.1 (List.eq_nil_of_length_eq_zero (by omega))), List.append_nil]
      exact o3.no f4
    simp only [decide_eq_true_eq] at e2
    have r4 : RdI _ h4 t _ := Ow.rdF o4
    have hln := r4.len
    have z4 := f4.size
    have hz : 0 < (cyP (sx xss ls) xss.length i).length := by omega
    have hne : cyP (sx xss ls) xss.length i ≠ [] := List.length_pos_iff.1 hz
    refine ⟨r4.inb (by omega) (by omega), _, r4.get (by omega) (by omega), fun e3 => ?_, fun e3 => ?_⟩
    rotate_left
    · simp only [decide_eq_false_iff_not] at e3
      rw [G3.succ i0 hi]
      refine ⟨n - 1, by omega, by omega, by omega, ?_, f3.no_trans f4, by omega⟩
      rw [toNat_succ i0, est, if_neg (fun h => e3 (by have := h.2; rw [getD_getI hz] at this; exact this)), List.append_nil]
      exact o3.no f4
    simp only [decide_eq_true_eq] at e3
    refine eop_lit rIss (fun k => h4.size ≤ k) (fun _ h => h) 1 (by omega) [t.v] rfl rfl fun u h5 n5 c5 o5 f5 m5 _ => ⟨u, rfl, (hL3.of_no f4).of_no f5, ?_⟩
    have z5 := f5.size
    refine OwR.snoc rIss ((o3.toIv.no f4).no f5) (F' := fun k => h2.size ≤ k) (fun k _ hk => hk.1) (fun k hk => by omega) ((Ow.no o4 f5).mono fun k _ hk => Nat.le_trans z3 hk.1) (fun k hk hk2 => by have := (o4.foot hk).1.1; have := hk2.2; omega) o5.rd (by have := cycL_len xss ls i.toNat; omega) fun y h6 o6 f6 => ⟨y, rfl, ((hL3.of_no f4).of_no f5).iv f6 ⟨.inl l2, .inl l1, trivial⟩, ?_⟩
    have z6 := f6.size
    rw [G3.succ i0 hi]
    refine ⟨n - 1, by omega, by omega, by omega, ?_, ((f3.no_trans f4).no_trans f5).ivFresh f6 (by omega), by omega⟩
    rw [toNat_succ i0, est, if_pos ⟨hne, by rw [getD_getI hz]; exact e3⟩]
    exact o6
  · have hi := G3.ge e
    rw [show i.toNat = xss.length by omega] at o3
    exact HK x h3 (o3.toIv.ivs z2 (Nat.le_refl _)) f3
theorem k_cycles {S S' : Nat -> Prop} {h : Heap} {g s : Sl} {xss ls : List (List Int)} (G : RdR S h g xss) (H : RdR S' h s ls) (W : SOK xss ls) (K : Value -> Heap -> Prop) (HK : ∀ t h', OwX h' (Iv h.size h'.size) t (cycsP xss ls) -> Fr No h h' -> K t.v h') : callM Tryz.prog 51 #[.agg #[s.v], .agg #[g.v]] h K := by
  refine v51 s g h K fun b1 b2 h2 hb1 hb2 f2 hL2 => ?_
  have f2 := f2.in_nil
  have l2 : b2 < h2.size := hL2.head.lt
  have l1 : b1 < h2.size := hL2.tail.head.lt
  have z2 := f2.size
  have hgl := graph_len W.graph
  refine eop_lit rIss (fun k => h2.size ≤ k) (fun _ h => h) 0 (by omega) [] rfl rfl fun t0 h2' n2 c2 o2 f2' m2 _ => ⟨t0, rfl, hL2.of_no f2', ?_⟩
  have o2 : OwX h2' (fun k => h2.size ≤ k) t0 [] := ⟨[], rfl, o2, fun i a => by simp at a, fun i j a => by simp at a, fun i a => by simp at a⟩
  refine ⟨fun n x i h' => 0 ≤ i /\ i + n = (xss.length : Int) /\ OwX h' (fun k => h2.size ≤ k) x (cycL xss ls i.toNat) /\ Fr No h h' /\ h2.size ≤ h'.size, ⟨xss.length, by omega, by omega, o2, f2.no_trans f2', f2'.size⟩, ?_⟩
  rintro n x i h3 ⟨i0, i1, o3, f3, z3⟩ hL3
  have G3 := G.no f3
  refine ⟨fun e => ?_, fun e => ?_⟩
  · have hi := G3.lt e
    have hci : ((i.toNat : Nat) : Int) = i := by omega
    have est : cycL xss ls (i.toNat + 1) = cycL xss ls i.toNat ++ (if cyP (sx xss ls) xss.length i ≠ [] /\ (cyP (sx xss ls) xss.length i).getD 0 0 = i then [cyP (sx xss ls) xss.length i] else []) := by rw [cycL, hci]
    refine k_cycleOf G3 (H.no f3) W i0 hi _ fun t h4 o4 hnil f4 => ⟨t, rfl, hL3.of_no f4, pop_isnn rIs _ _ ⟨_, rfl, fun e2 => ?_, fun e2 => ?_⟩⟩
    rotate_left
    · have e2 := not_f e2
      rw [hnil, decide_eq_true_eq] at e2
      have z4 := f4.size
      rw [G3.succ i0 hi]
      refine ⟨n - 1, by omega, by omega, by omega, ?_, f3.no_trans f4, by omega⟩
      rw [toNat_succ i0, est, if_neg (fun h => h.1 e2), List.append_nil]
      exact o3.no f4
    have hne := not_t e2
    rw [hnil, decide_eq_false_iff_not] at hne
    have r4 : RdI _ h4 t _ := Ow.rdF o4
    have hln := r4.len
    have z4 := f4.size
    have hz : 0 < (cyP (sx xss ls) xss.length i).length := List.length_pos_iff.2 hne
    refine ⟨r4.inb (by omega) (by omega), _, r4.get (by omega) (by omega), fun e3 => ?_, fun e3 => ?_⟩
    rotate_left
    · simp only [decide_eq_false_iff_not] at e3
      rw [G3.succ i0 hi]
      refine ⟨n - 1, by omega, by omega, by omega, ?_, f3.no_trans f4, by omega⟩
      rw [toNat_succ i0, est, if_neg (fun h => e3 (by have := h.2; rw [getD_getI hz] at this; exact this)), List.append_nil]
      exact o3.no f4
    simp only [decide_eq_true_eq] at e3
    refine eop_lit rIss (fun k => h4.size ≤ k) (fun _ h => h) 1 (by omega) [t.v] rfl rfl fun u h5 n5 c5 o5 f5 m5 _ => ⟨u, rfl, (hL3.of_no f4).of_no f5, ?_⟩
    have z5 := f5.size
    refine OwR.snoc rIss ((o3.toIv.no f4).no f5) (F' := fun k => h2.size ≤ k) (fun k _ hk => hk.1) (fun k hk => by omega) ((Ow.no o4 f5).mono fun k _ hk => Nat.le_trans z3 hk.1) (fun k hk hk2 => by have := (o4.foot hk).1.1; have := hk2.2; omega) o5.rd (by have := cycL_len xss ls i.toNat; omega) fun y h6 o6 f6 => ⟨y, rfl, ((hL3.of_no f4).of_no f5).iv f6 ⟨.inl l2, .inl l1, trivial⟩, ?_⟩
    have z6 := f6.size
    rw [G3.succ i0 hi]
    refine ⟨n - 1, by omega, by omega, by omega, ?_, ((f3.no_trans f4).no_trans f5).ivFresh f6 (by omega), by omega⟩
    rw [toNat_succ i0, est, if_pos ⟨hne, by rw [getD_getI hz]; exact e3⟩]
    exact o6
  · have hi := G3.ge e
    rw [show i.toNat = xss.length by omega] at o3
    exact HK x h3 (o3.toIv.ivs z2 (Nat.le_refl _)) f3
theorem pop_and {P : Program} {t : TypeId} {K : Value -> Prop} (k : IntKind) (a b : Int) (H : K (.int k (bits .and k a b))) : pop P (binA .and t (.int k a) (.int k b)) K :=
  .mk' (fun w => by simp [binA, eqGuard, binOp, intBits_and, bind, Sem.bind, pure, Sem.run]) H
theorem pop_shr {P : Program} {t : TypeId} {K : Value -> Prop} (k : IntKind) (a b : Int) (hb : 0 ≤ b) (H : K (.int k (a.fdiv (2 ^ (min b.toNat k.bits))))) : pop P (binA .shr t (.int k a) (.int k b)) K :=
  .mk' (fun w => by simp [binA, eqGuard, binOp, Op.shift, show ¬ b < 0 by omega, bind, Sem.bind, pure, Sem.run]) H
theorem rop_conv {P : Program} {src dst : TypeId} {k k' : IntKind} (hs : P.underlying src = some (.int k)) (hd : P.underlying dst = some (.int k')) {h : Heap} {K : Value -> Prop} (n : Int) (H : K (.int k' (k'.wrap n))) : rop P (convert src dst (.int k n)) h K := by
  have hk : P.intKind dst = k' := by simp [Program.intKind, hd]
  refine ⟨_, fun w hw => run_convert_int w src dst k n (by simp [hs]) (by rw [hk]; exact hd), ?_⟩
  rw [hk]
  exact H
theorem WOK.to {g : List (List Int)} {rs : List Int} {a p : Int} (W : WOK g (rs, a)) (h0 : 0 ≤ p) (h1 : p < (g.length : Int)) : WOK g (rs, p) := ⟨W.graph, W.len, h0, h1, W.rot⟩
theorem k_areRotors {S S' : Nat -> Prop} {h : Heap} {g s : Sl} {xss : List (List Int)} {rs : List Int} (G : RdR S h g xss) (H : RdI S' h s rs) : Ret Tryz.prog 71 #[.agg #[g.v], s.v] h (VB (walkB xss rs 0)) := by
  intro K HK
  refine v71 g s h K fun b1 h2 hb1 f2 hL2 => ?_
  have f2 := f2.in_nil
  exact k_isWalk (G.no f2) (H.no f2) 0 _ fun h3 f3 => ⟨_, rfl, hL2.of_no f3, HK h3 (f2.no_trans f3)⟩
def Cyc (g S : List (List Int)) (c : List Int) : Prop := ∃ (p : Int) (k : Nat), 1 ≤ k /\ 0 ≤ p /\ p < (g.length : Int) /\ itf (sx g S) p k = p /\ ∀ x, x ∈ c ↔ ∃ j, j < k /\ itf (sx g S) p j = x
def Red (g : List (List Int)) : Nat -> List (List Int) -> List (List Int) -> Prop
  | 0, S, E => S = E
  | n + 1, S, E => ∃ c, Cyc g S c /\ Red g n (popP S c) E
theorem popP_congr {S : List (List Int)} {c d : List Int} (h : ∀ x, x ∈ c ↔ x ∈ d) : popP S c = popP S d := by
  unfold popP
  refine List.map_congr_left fun i _ => ?_
  by_cases hc : (i : Int) ∈ c
  · rw [if_pos hc, if_pos ((h _).1 hc)]
  · rw [if_neg hc, if_neg fun hd => hc ((h _).2 hd)]
theorem popP_getD (S : List (List Int)) (c : List Int) (i : Nat) : (popP S c).getD i [] = if (i : Int) ∈ c then (S.getD i []).drop 1 else S.getD i [] := by
  by_cases hi : i < S.length
  · have h1 : i < (popP S c).length := by rw [popP_length]; exact hi
    rw [List.getD_eq_getElem?_getD, List.getElem?_eq_getElem h1, Option.getD_some, popP_get S c i h1 hi, List.getD_eq_getElem?_getD, List.getElem?_eq_getElem hi, Option.getD_some]
  · have h1 : ¬ i < (popP S c).length := by rw [popP_length]; exact hi
    have e1 : (popP S c).getD i [] = [] := by rw [List.getD_eq_getElem?_getD, List.getElem?_eq_none (by omega)]; rfl
    have e2 : S.getD i [] = [] := by rw [List.getD_eq_getElem?_getD, List.getElem?_eq_none (by omega)]; rfl
    rw [e1, e2]
    split <;> rfl
theorem popP_comm (S : List (List Int)) (c d : List Int) : popP (popP S c) d = popP (popP S d) c := by
  apply List.ext_getElem (by simp only [popP_length])
  intro i h1 h2
  have h0 : i < S.length := by rw [popP_length, popP_length] at h1; exact h1
  have a1 : i < (popP S c).length := by rw [popP_length]; exact h0
  have a2 : i < (popP S d).length := by rw [popP_length]; exact h0
  rw [popP_get _ d i h1 a1, popP_get _ c i h2 a2, popP_get _ c i a1 h0, popP_get _ d i a2 h0]
  split <;> split <;> rfl
theorem itf_add (f : Int -> Int) (p : Int) (i : Nat) : ∀ m, itf f p (i + m) = itf f (itf f p i) m
  | 0 => rfl
  | m + 1 => by rw [← Nat.add_assoc, itf, itf, itf_add f p i m]
theorem itf_mod {f : Int -> Int} {p : Int} {k : Nat} (h : itf f p k = p) (hk : 1 ≤ k) : ∀ m, ∃ j, j < k /\ itf f p j = itf f p m
  | 0 => ⟨0, by omega, rfl⟩
  | m + 1 => by
    obtain ⟨j, h1, h2⟩ := itf_mod h hk m
    by_cases e : j + 1 = k
    · exact ⟨0, by omega, by
        show p = f (itf f p m)
        rw [← h2]
        show p = itf f p (j + 1)
        rw [e, h]⟩
    · exact ⟨j + 1, by omega, by rw [itf, itf, h2]⟩
theorem Cyc.cl {g S : List (List Int)} {c : List Int} (h : Cyc g S c) {x : Int} (hx : x ∈ c) : ∀ m, itf (sx g S) x m ∈ c := by
  obtain ⟨p, k, hk, h0, h1, e, hm⟩ := h
  intro m
  obtain ⟨j, h2, h3⟩ := (hm x).1 hx
  obtain ⟨j', h4, h5⟩ := itf_mod e hk (j + m)
  rw [itf_add, h3] at h5
  exact (hm _).2 ⟨j', h4, h5⟩
theorem Cyc.to {g S : List (List Int)} {c : List Int} (h : Cyc g S c) {x y : Int} (hx : x ∈ c) (hy : y ∈ c) : ∃ m, itf (sx g S) x m = y := by
  obtain ⟨p, k, hk, h0, h1, e, hm⟩ := h
  obtain ⟨i, h2, h3⟩ := (hm x).1 hx
  obtain ⟨j, h4, h5⟩ := (hm y).1 hy
  refine ⟨k - i + j, ?_⟩
  rw [← h3, ← itf_add, show i + (k - i + j) = k + j by omega, itf_add, e, h5]
theorem Cyc.same {g S : List (List Int)} {c d : List Int} (h : Cyc g S c) (h' : Cyc g S d) {x : Int} (hc : x ∈ c) (hd : x ∈ d) : ∀ y, y ∈ c ↔ y ∈ d := by
  intro y
  constructor
  · intro hy
    obtain ⟨m, e⟩ := h.to hc hy
    rw [← e]; exact h'.cl hd m
  · intro hy
    obtain ⟨m, e⟩ := h'.to hd hy
    rw [← e]; exact h.cl hc m
theorem Cyc.ne {g S : List (List Int)} {c : List Int} (h : Cyc g S c) : ∃ p, p ∈ c := by
  obtain ⟨p, k, hk, h0, h1, e, hm⟩ := h
  exact ⟨p, (hm p).2 ⟨0, by omega, rfl⟩⟩
theorem Cyc.pos {g S : List (List Int)} {c : List Int} (h : Cyc g S c) {x : Int} (hx : x ∈ c) : 0 ≤ x := by
  obtain ⟨p, k, hk, h0, h1, e, hm⟩ := h
  obtain ⟨j, h2, h3⟩ := (hm x).1 hx
  refine Int.not_lt.1 fun hn => ?_
  have := its_neg (g := g) (S := S) (p := p) (k := j) (by rw [h3]; exact hn) (k - j)
  rw [show j + (k - j) = k by omega, e] at this
  omega
theorem Cyc.top {g S : List (List Int)} {c : List Int} (h : Cyc g S c) {x : Int} (hx : x ∈ c) : (S.getD x.toNat []).length ≠ 0 := by
  intro e
  have h1 := h.pos (h.cl hx 1)
  have h2 : sx g S x = -1 := sx_none e
  rw [show itf (sx g S) x 1 = sx g S x from rfl, h2] at h1
  omega
theorem sx_pop {g S : List (List Int)} {c : List Int} {x : Int} (h : x ∉ c) : sx g (popP S c) x = sx g S x := by
  unfold sx
  split
  · rfl
  · rename_i h0
    have e : ((x.toNat : Nat) : Int) = x := by omega
    rw [popP_getD, e, if_neg h]
theorem Cyc.keep {g S : List (List Int)} {c d : List Int} (h : Cyc g S d) (hd : ∀ x, x ∈ c -> x ∉ d) : Cyc g (popP S c) d := by
  have hh := h
  obtain ⟨p, k, hk, h0, h1, e, hm⟩ := h
  have hp : p ∈ d := (hm p).2 ⟨0, by omega, rfl⟩
  have key : ∀ j, itf (sx g (popP S c)) p j = itf (sx g S) p j := by
    intro j
    induction j with
    | zero => rfl
    | succ j ih =>
      rw [itf, itf, ih]
      exact sx_pop fun hc => hd _ hc (hh.cl hp j)
  exact ⟨p, k, hk, h0, h1, by rw [key]; exact e, fun x => by rw [hm x]; simp only [key]⟩
theorem Red.after {g E : List (List Int)} (hE : ∀ c, ¬ Cyc g E c) : ∀ {n : Nat} {S : List (List Int)} {d : List Int}, Red g n S E -> Cyc g S d -> ∃ m, n = m + 1 /\ Red g m (popP S d) E
  | 0, S, d, h, hd => by rw [show S = E from h] at hd; exact absurd hd (hE d)
  | n + 1, S, d, h, hd => by
    obtain ⟨c, hc, hr⟩ := h
    by_cases hx : ∃ x, x ∈ c /\ x ∈ d
    · obtain ⟨x, h1, h2⟩ := hx
      exact ⟨n, rfl, by rw [← popP_congr (hc.same hd h1 h2)]; exact hr⟩
    · have hx1 : ∀ x, x ∈ c -> x ∉ d := fun x h1 h2 => hx ⟨x, h1, h2⟩
      obtain ⟨m, e, hr'⟩ := Red.after hE hr (hd.keep hx1)
      subst e
      refine ⟨m + 1, rfl, c, hc.keep fun x h1 h2 => hx ⟨x, h2, h1⟩, ?_⟩
      rw [popP_comm]; exact hr'
theorem Red.same {g E : List (List Int)} (hE : ∀ c, ¬ Cyc g E c) : ∀ {n m : Nat} {S E' : List (List Int)}, Red g n S E -> Red g m S E' -> (∀ c, ¬ Cyc g E' c) -> n = m /\ E = E'
  | n, 0, S, E', h, h', hE' => by
    rw [show S = E' from h'] at h
    match n, h with
    | 0, h => exact ⟨rfl, (show E' = E from h).symm⟩
    | n + 1, h => obtain ⟨c, hc, _⟩ := h; exact absurd hc (hE' c)
  | n, m + 1, S, E', h, h', hE' => by
    obtain ⟨c, hc, hr⟩ := h'
    obtain ⟨k, e, hk⟩ := h.after hE hc
    obtain ⟨a, b⟩ := Red.same hE hk hr hE'
    exact ⟨by omega, b⟩
theorem Red.rest {g E : List (List Int)} : ∀ {n : Nat} {S : List (List Int)}, Red g n S E -> E.length = S.length /\ ∀ i, ∃ k, E.getD i [] = (S.getD i []).drop k
  | 0, S, h => by rw [← show S = E from h]; exact ⟨rfl, fun i => ⟨0, rfl⟩⟩
  | n + 1, S, h => by
    obtain ⟨c, hc, hr⟩ := h
    obtain ⟨a, b⟩ := Red.rest hr
    refine ⟨by rw [a, popP_length], fun i => ?_⟩
    obtain ⟨k, hk⟩ := b i
    rw [popP_getD] at hk
    split at hk
    · exact ⟨1 + k, by rw [hk, List.drop_drop]⟩
    · exact ⟨k, hk⟩
theorem ret_none {f : Int -> Int} {p : Int} : ∀ (r m : Nat), ret f p r m = none -> ∀ j, m ≤ j -> j < m + r -> itf f p j ≠ p
  | 0, m, _, j, h1, h2 => by omega
  | r + 1, m, h, j, h1, h2 => by
    rw [ret] at h
    split at h
    · cases h
    · rename_i h0
      by_cases hj : j = m
      · rw [hj]; exact h0
      · exact ret_none r (m + 1) h j (by omega) (by omega)
theorem lstI_zero {xs : List Int} (h : ∀ j, j < xs.length -> xs.getD 0 0 ≤ xs.getD j 0) (hn : 0 < xs.length) : lstI xs xs.length = 0 :=
  (least_eq hn h fun j hj => by omega).symm
theorem first_ret {f : Int -> Int} {p : Int} : ∀ k, 1 ≤ k -> itf f p k = p -> ∃ m, 1 ≤ m /\ m ≤ k /\ itf f p m = p /\ ∀ j, 1 ≤ j -> j < m -> itf f p j ≠ p := by
  intro k
  induction k using Nat.strongRecOn with
  | ind k ih =>
    intro h1 h2
    by_cases hx : ∃ j, 1 ≤ j /\ j < k /\ itf f p j = p
    · obtain ⟨j, a, b, c⟩ := hx
      obtain ⟨m, q1, q2, q3, q4⟩ := ih j b a c
      exact ⟨m, q1, by omega, q3, q4⟩
    · exact ⟨k, h1, Nat.le_refl _, h2, fun j a b c => hx ⟨j, a, b, c⟩⟩
theorem turnL_zero {xs : List Int} (h : lstI xs xs.length = 0) : turnL xs = xs := by
  unfold turnL; rw [h]; simp
theorem least_mem : ∀ (xs : List Int), xs ≠ [] -> ∃ m, m ∈ xs /\ ∀ x, x ∈ xs -> m ≤ x
  | [], h => absurd rfl h
  | [a], _ => ⟨a, by simp, fun x hx => by simp at hx; omega⟩
  | a :: b :: r, _ => by
    obtain ⟨m, h1, h2⟩ := least_mem (b :: r) (by simp)
    by_cases h : a ≤ m
    · exact ⟨a, by simp, fun x hx => by
        rcases List.mem_cons.1 hx with h3 | h3
        · omega
        · have := h2 x h3; omega⟩
    · exact ⟨m, List.mem_cons_of_mem _ h1, fun x hx => by
        rcases List.mem_cons.1 hx with h3 | h3
        · omega
        · exact h2 x h3⟩
theorem cycL_has {g S : List (List Int)} : ∀ {n p : Nat}, p < n -> cyP (sx g S) g.length p ≠ [] -> (cyP (sx g S) g.length p).getD 0 0 = (p : Int) -> cyP (sx g S) g.length p ∈ cycL g S n
  | n + 1, p, h, h1, h2 => by
    rw [cycL, List.mem_append]
    by_cases e : p = n
    · subst e
      exact .inr (by rw [if_pos ⟨h1, h2⟩]; simp)
    · exact .inl (cycL_has (by omega) h1 h2)
theorem Cyc.listed {g S : List (List Int)} (W : SOK g S) {c : List Int} (h : Cyc g S c) : (cycsP g S).length ≠ 0 := by
  have hh := h
  obtain ⟨p, k, hk, h0, h1, e, hm⟩ := h
  have hne : orb (sx g S) p k ≠ [] := fun h => by have := congrArg List.length h; rw [orb_length] at this; simp at this; omega
  obtain ⟨l, hl, hle⟩ := least_mem _ hne
  have hmo : ∀ x, x ∈ orb (sx g S) p k ↔ x ∈ c := fun x => by rw [hm x, orb, List.mem_map]; simp [List.mem_range]
  have hlc : l ∈ c := (hmo l).1 hl
  have l0 := hh.pos hlc
  have l1 : l < (g.length : Int) := by
    obtain ⟨j, _, hj⟩ := (hm l).1 hlc
    rw [← hj]
    exact (its_lt W h1 (by omega) j).2
  obtain ⟨i, hi, hil⟩ := (hm l).1 hlc
  obtain ⟨k', q1, q2, q3, q4⟩ := first_ret (f := sx g S) (p := l) k hk (by
    rw [← hil, ← itf_add, show i + k = k + i by omega, itf_add, e])
  have hlow : ∀ j, l ≤ itf (sx g S) l j := fun j => hle _ ((hmo _).2 (hh.cl hlc j))
  have hkn : k' ≤ g.length := by
    refine Nat.not_lt.1 fun hlt => ?_
    obtain ⟨a, b, hab, hb, hEq⟩ := php g.length (fun j => (itf (sx g S) l j).toNat) fun j hj => by
      have a1 := hlow j
      have a2 := (its_lt W l1 (by omega) j).2
      (try simp only)
      omega
    have hEq : itf (sx g S) l a = itf (sx g S) l b := by
      have a1 := hlow a
      have a2 := hlow b
      (try simp only at hEq)
      omega
    have := itf_shift hEq (k' - b)
    rw [show b + (k' - b) = k' by omega, q3] at this
    exact q4 (a + (k' - b)) (by omega) (by omega) this
  have hc : cyP (sx g S) g.length l = orb (sx g S) l k' := by
    rcases cyP_cases (sx g S) g.length l with h1 | ⟨m, m1, m2, m3, m4, m5⟩
    · exfalso
      unfold cyP at h1
      cases hr : ret (sx g S) l (g.length + 1) 1 with
      | none => exact ret_none _ _ hr k' q1 (by omega) q3
      | some m =>
        obtain ⟨a, _, _, _⟩ := ret_some _ _ _ hr
        rw [hr] at h1
        have := congrArg List.length h1
        rw [turnL_length, orb_length] at this
        simp at this
        omega
    · have : m = k' := by
        rcases Nat.lt_trichotomy m k' with a | a | a
        · exact absurd m3 (q4 m m1 a)
        · exact a
        · exact absurd q3 (m4 k' q1 a)
      subst this
      rw [m5]
      refine turnL_zero (lstI_zero (fun j hj => ?_) (by rw [orb_length]; omega))
      rw [getD_getI hj, orb_get, getD_getI (by rw [orb_length]; omega), orb_get]
      exact hlow j
  have hmem : cyP (sx g S) g.length ((l.toNat : Nat) : Int) ∈ cycL g S g.length := by
    have e : ((l.toNat : Nat) : Int) = l := by omega
    refine cycL_has (by omega) ?_ ?_
    · rw [e, hc]
      intro h
      have := congrArg List.length h
      rw [orb_length] at this
      simp at this
      omega
    · rw [e, hc, getD_getI (by rw [orb_length]; omega), orb_get]
      rfl
  intro h
  unfold cycsP at h
  rw [List.length_eq_zero_iff.1 h] at hmem
  simp at hmem
theorem normal_of {g S : List (List Int)} (W : SOK g S) (h : (cycsP g S).length = 0) : ∀ c, ¬ Cyc g S c := fun _ hc => hc.listed W h
def lenS (S : List (List Int)) : Nat -> Nat
  | 0 => 0
  | i + 1 => lenS S i + (S.getD i []).length
def InOK (g S : List (List Int)) (sink : Int) (I : List Bool) : Prop := ∀ x : Int, 0 ≤ x -> I.getD x.toNat false = true -> ∃ m, itf (sx g S) x m = sink /\ ∀ j, j ≤ m -> 0 ≤ itf (sx g S) x j /\ I.getD (itf (sx g S) x j).toNat false = true
structure WayOK (g S : List (List Int)) (I : List Bool) (way : List Int) : Prop where
  ne : way ≠ []
  nodup : way.Nodup
  rng : ∀ x, x ∈ way -> 0 ≤ x /\ x < (g.length : Int)
  chain : ∀ i, i + 1 < way.length -> sx g S (way.getD i 0) = way.getD (i + 1) 0
  out : ∀ i, i + 1 < way.length -> I.getD (way.getD i 0).toNat false = false
theorem getD_mem {xs : List Int} {i : Nat} (h : i < xs.length) : xs.getD i 0 ∈ xs := by rw [getD_getI h]; exact List.getElem_mem h
theorem InOK.keep {g S : List (List Int)} {sink : Int} {I : List Bool} (h : InOK g S sink I) {c : List Int} (hc : ∀ x, x ∈ c -> I.getD x.toNat false = false) : InOK g (popP S c) sink I := by
  intro x hx hI
  obtain ⟨m, e, hj⟩ := h x hx hI
  have key : ∀ j, j ≤ m -> itf (sx g (popP S c)) x j = itf (sx g S) x j := by
    intro j
    induction j with
    | zero => intro _; rfl
    | succ j ih =>
      intro hle
      rw [itf, itf, ih (by omega)]
      refine sx_pop fun hm => ?_
      have a := hc _ hm
      have b := (hj j (by omega)).2
      rw [a] at b; cases b
  exact ⟨m, by rw [key m (Nat.le_refl _)]; exact e, fun j hle => by rw [key j hle]; exact hj j hle⟩
theorem WayOK.itf {g S : List (List Int)} {I : List Bool} {way : List Int} (h : WayOK g S I way) {i : Nat} : ∀ j, i + j < way.length -> itf (sx g S) (way.getD i 0) j = way.getD (i + j) 0
  | 0, _ => rfl
  | j + 1, hl => by
    rw [Go.Proofs.YtkjkfjkapbpgiaaGreatDoor.itf, h.itf j (by omega), h.chain (i + j) (by omega)]
    rfl
theorem WayOK.cyc {g S : List (List Int)} {I : List Bool} {way : List Int} (h : WayOK g S I way) {k : Nat} (hk : k < way.length) (e : sx g S (way.getD (way.length - 1) 0) = way.getD k 0) : Cyc g S (way.drop k) := by
  have hr := h.rng _ (getD_mem hk)
  refine ⟨way.getD k 0, way.length - k, by omega, hr.1, hr.2, ?_, fun x => ?_⟩
  · have := h.itf (i := k) (way.length - 1 - k) (by omega)
    rw [show way.length - k = (way.length - 1 - k) + 1 by omega, Go.Proofs.YtkjkfjkapbpgiaaGreatDoor.itf, this, show k + (way.length - 1 - k) = way.length - 1 by omega, e]
  · constructor
    · intro hx
      obtain ⟨i, h1, h2⟩ := List.mem_iff_getElem.1 hx
      rw [List.length_drop] at h1
      rw [List.getElem_drop] at h2
      exact ⟨i, by omega, by rw [h.itf i (by omega), getD_getI (by omega), h2]⟩
    · rintro ⟨j, h1, h2⟩
      rw [h.itf j (by omega), getD_getI (by omega)] at h2
      rw [← h2]
      exact List.mem_iff_getElem.2 ⟨j, by rw [List.length_drop]; omega, by rw [List.getElem_drop]⟩
theorem topL_get {sink : Int} {S : List (List Int)} : ∀ {i : Nat} {l : List Int}, topL sink S i = some l -> ∀ j, j < i -> l.getD j 0 = (if (j : Int) = sink then 0 else (S.getD j []).getD 0 0) /\ ((j : Int) ≠ sink -> (S.getD j []).length ≠ 0)
  | 0, l, h, j, hj => by omega
  | i + 1, l, h, j, hj => by
    rw [topL] at h
    cases hl : topL sink S i with
    | none => rw [hl] at h; cases h
    | some l' =>
      rw [hl] at h
      have hlen := topL_len hl
      have old : ∀ v, (l' ++ [v]).getD j 0 = if j < i then l'.getD j 0 else v := fun v => by
        by_cases e : j < i
        · rw [if_pos e, getD_getI (by simp; omega), List.getElem_append_left (by omega), getD_getI]
        · rw [if_neg e, getD_getI (by simp; omega), List.getElem_append_right (by omega)]
          simp
      by_cases e : j < i
      · have ih := topL_get hl j e
        simp only at h
        split at h
        · simp only [Option.some.injEq] at h
          rw [← h, old, if_pos e]; exact ih
        · split at h
          · cases h
          · simp only [Option.some.injEq] at h
            rw [← h, old, if_pos e]; exact ih
      · have ej : j = i := by omega
        subst ej
        simp only at h
        split at h
        · rename_i hs
          simp only [Option.some.injEq] at h
          rw [← h, old, if_neg e, if_pos hs]
          exact ⟨rfl, fun hn => absurd hs hn⟩
        · rename_i hs
          split at h
          · cases h
          · rename_i hz
            simp only [Option.some.injEq] at h
            rw [← h, old, if_neg e, if_neg hs]
            exact ⟨rfl, fun _ => hz⟩
theorem tops_get {sink : Int} {S : List (List Int)} (h : (topsP sink S).2 = true) : (topsP sink S).1.length = S.length /\ ∀ j, j < S.length -> (topsP sink S).1.getD j 0 = (if (j : Int) = sink then 0 else (S.getD j []).getD 0 0) /\ ((j : Int) ≠ sink -> (S.getD j []).length ≠ 0) := by
  unfold topsP at h ⊢
  cases hl : topL sink S S.length with
  | none => rw [hl] at h; simp at h
  | some l => exact ⟨topL_len hl, topL_get hl⟩
theorem to_sink {g S : List (List Int)} {sink : Int} (W : SOK g S) (hn : ∀ c, ¬ Cyc g S c) (ht : (topsP sink S).2 = true) {p : Int} (h0 : 0 ≤ p) (h1 : p < (g.length : Int)) : ∃ k, k < g.length /\ itf (sx g S) p k = sink /\ ∀ j, j ≤ k -> 0 ≤ itf (sx g S) p j := by
  have hT := (tops_get ht).2
  have hl := W.len
  refine Classical.byContradiction fun hx => ?_
  have key : ∀ k, k ≤ g.length -> ∀ j, j ≤ k -> 0 ≤ itf (sx g S) p j := by
    intro k
    induction k with
    | zero => intro _ j hj; rw [show j = 0 by omega]; exact h0
    | succ k ih =>
      intro hk j hj
      by_cases e : j ≤ k
      · exact ih (by omega) j e
      · have ej : j = k + 1 := by omega
        subst ej
        have hlo := ih (by omega) k (Nat.le_refl _)
        have hhi := (its_lt W h1 (by omega) k).2
        have hs : itf (sx g S) p k ≠ sink := fun e => hx ⟨k, by omega, e, ih (by omega)⟩
        have := (hT (itf (sx g S) p k).toNat (by omega)).2 (by rw [show (((itf (sx g S) p k).toNat : Nat) : Int) = itf (sx g S) p k by omega]; exact hs)
        obtain ⟨_, _, hm, _, e⟩ := sx_some W hlo hhi this
        rw [itf, e]
        exact ((graph_mem W.graph (List.getElem_mem (show (itf (sx g S) p k).toNat < g.length by omega))).2 _ (List.getElem_mem hm)).1
  have hnn := key g.length (Nat.le_refl _)
  obtain ⟨a, b, hab, hb, he⟩ := php g.length (fun j => (itf (sx g S) p j).toNat) fun j hj => by
    have a1 := hnn j hj
    have a2 := (its_lt W h1 (by omega) j).2
    (try simp only)
    omega
  have he : itf (sx g S) p a = itf (sx g S) p b := by
    have a1 := hnn a (by omega)
    have a2 := hnn b hb
    (try simp only at he)
    omega
  have hr := (its_lt W h1 (by omega) a).2
  refine hn (orb (sx g S) (itf (sx g S) p a) (b - a)) ⟨itf (sx g S) p a, b - a, by omega, hnn a (by omega), hr, ?_, fun x => ?_⟩
  · rw [← itf_add, show a + (b - a) = b by omega, he]
  · rw [orb, List.mem_map]; simp [List.mem_range]
structure CurD (a n : Nat) (h : Heap) (c : Sl) (i : Int) : Prop where
  code : ∃ vs, RdV (fun k => k < a) h 1 c vs /\ ∀ v, v ∈ vs -> ∃ m : Int, v = Value.int .u8 m /\ 0 ≤ m /\ m ≤ 255
  lo : 0 ≤ i
  hi : i ≤ (n : Int)
theorem CurD.fr {a n : Nat} {h h' : Heap} {c : Sl} {i : Int} {T : Nat -> Prop} (D : CurD a n h c i) (f : Fr T h h') (hT : ∀ k, k < a -> ¬ T k) : CurD a n h' c i := by
  obtain ⟨vs, h1, h2⟩ := D.code
  exact ⟨⟨vs, h1.fr f hT, h2⟩, D.lo, D.hi⟩
theorem CurD.no {a n : Nat} {h h' : Heap} {c : Sl} {i : Int} (D : CurD a n h c i) (f : Fr No h h') : CurD a n h' c i := D.fr f fun _ _ h => h
theorem CurD.up {a n m : Nat} {h : Heap} {c : Sl} {i : Int} (D : CurD a n h c i) (hm : n ≤ m) : CurD a m h c i := ⟨D.code, D.lo, by have := D.hi; omega⟩
theorem u64_rng (x : Int) : 0 ≤ IntKind.wrap .u64 x /\ IntKind.wrap .u64 x < 18446744073709551616 := by
  rw [IntKind.wrap_u64]; omega
theorem and255 {x : Int} (h0 : 0 ≤ x) (h1 : x < 18446744073709551616) : 0 ≤ bits .and .u64 x 255 /\ bits .and .u64 x 255 ≤ 255 := by
  have e := u64_and_nat x.toNat 255 (by omega) (by omega)
  rw [show ((x.toNat : Nat) : Int) = x by omega] at e
  have : x.toNat &&& 255 ≤ 255 := Nat.and_le_right
  rw [show ((255 : Nat) : Int) = 255 from rfl] at e
  rw [e]; omega
theorem vcur {h h' : Heap} {L : List (Nat × List Value)} (H : Vars h L) (i : Nat) {b : Nat} {cs cs' : List Value} (hi : nthL L i = some (b, cs)) (f : Fr (In [b]) h h') (V : IsVar h' b cs') : Vars h' (setL L i cs') :=
  H.set hi (f.mono fun k _ hk => by simpa [In] using hk) V
theorem k_next_ {a n b : Nat} {h : Heap} {c : Sl} {i sd : Int} (V : IsVar h b [c.v, VI i, .int .u64 sd]) (hb : a ≤ b) (D : CurD a n h c i) (hn : n ≤ 1000000000000) (K : Value -> Heap -> Prop) (HK : ∀ (x i' sd' : Int) h', 0 ≤ x -> x ≤ 255 -> IsVar h' b [c.v, VI i', .int .u64 sd'] -> CurD a (n + 1) h' c i' -> Fr (In [b]) h h' -> K (VI x) h') : callM Tryz.prog 122 #[VP b 0] h K := by
  have h0 := D.lo
  have h1 := D.hi
  have lb := V.lt
  have fin : ∀ (x i' sd' : Int) (h1 h2 h' : Heap), 0 ≤ x -> x ≤ 255 -> 0 ≤ i' -> i' ≤ (n : Int) + 1 -> Fr No h h1 -> Fr (In [b]) h1 h2 -> Fr (In [b]) h2 h' -> IsVar h' b [c.v, VI i', .int .u64 sd'] -> K (VI x) h' := fun x i' sd' h1 h2 h' x0 x1 i0 i1 f1 f2 f3 V' => by
    have f := (f1.of_no.trans f2).trans f3
    obtain ⟨vs, d1, d2⟩ := D.code
    exact HK x i' sd' h' x0 x1 V' ⟨⟨vs, d1.fr f fun k hk hk2 => by simp [In] at hk2; omega, d2⟩, i0, by omega⟩ f
  refine v122 b c i sd h K (.cons V (by simp) .nil) ⟨fun x h' => 0 ≤ x /\ x ≤ 255 /\ h' = h, ⟨fun e => ?_, fun e => ⟨by omega, by omega, rfl⟩⟩, ?_⟩
  · obtain ⟨vs, d1, d2⟩ := D.code
    have hl := d1.len
    simp only [decide_eq_true_eq] at e
    have hi : i < (vs.length : Int) := by omega
    obtain ⟨m, e1, m0, m1⟩ := d2 _ (List.getElem_mem (show i.toNat < vs.length by omega))
    refine ⟨d1.inb h0 hi, m, by rw [d1.get h0 hi, e1], rop_conv (show Tryz.prog.underlying _ = some (.int .u8) from by kernel_rfl) (show Tryz.prog.underlying _ = some (.int .i64) from by kernel_rfl) m ⟨m, ?_, m0, m1, rfl⟩⟩
    show Value.int .i64 (w64 m) = VI m
    rw [w64_eq _ (by omega) (by omega)]
  · rintro x hh ⟨x0, x1, rfl⟩ hL h2 f2 hL2
    rw [w64_eq (i + 1) (by omega) (by omega)]
    refine rop_conv (show Tryz.prog.underlying _ = some (.int .i64) from by kernel_rfl) (show Tryz.prog.underlying _ = some (.int .u64) from by kernel_rfl) x ⟨_, rfl, fun e h3 f3 hL3 => ?_, fun e => ?_⟩
    · exact fin x _ _ hh h2 h3 x0 x1 (by omega) (by omega) (Fr.refl _ _) f2 f3 hL3.head
    · refine pop_shr .u64 _ 40 (by omega) ⟨_, rfl, pop_and .u64 _ 255 ⟨_, rfl, fun h3 f3 hL3 => ?_⟩⟩
      have hw := u64_rng (IntKind.wrap .u64 (IntKind.wrap .u64 (sd * 6364136223846793005) + IntKind.wrap .u64 x) + 1442695040888963407)
      have hd : 0 ≤ (IntKind.wrap .u64 (IntKind.wrap .u64 (IntKind.wrap .u64 (sd * 6364136223846793005) + IntKind.wrap .u64 x) + 1442695040888963407)).fdiv (2 ^ (min (40 : Int).toNat IntKind.u64.bits)) /\ (IntKind.wrap .u64 (IntKind.wrap .u64 (IntKind.wrap .u64 (sd * 6364136223846793005) + IntKind.wrap .u64 x) + 1442695040888963407)).fdiv (2 ^ (min (40 : Int).toNat IntKind.u64.bits)) < 18446744073709551616 := by
        rw [show (2 : Int) ^ (min (40 : Int).toNat IntKind.u64.bits) = 1099511627776 from rfl, Int.fdiv_eq_ediv_of_nonneg _ (by omega)]
        omega
      have ha := and255 hd.1 hd.2
      refine rop_conv (show Tryz.prog.underlying _ = some (.int .u64) from by kernel_rfl) (show Tryz.prog.underlying _ = some (.int .i64) from by kernel_rfl) _ ⟨_, rfl, ?_⟩
      rw [show IntKind.i64.wrap (bits .and .u64 ((IntKind.wrap .u64 (IntKind.wrap .u64 (IntKind.wrap .u64 (sd * 6364136223846793005) + IntKind.wrap .u64 x) + 1442695040888963407)).fdiv (2 ^ (min (40 : Int).toNat IntKind.u64.bits))) 255) = bits .and .u64 ((IntKind.wrap .u64 (IntKind.wrap .u64 (IntKind.wrap .u64 (sd * 6364136223846793005) + IntKind.wrap .u64 x) + 1442695040888963407)).fdiv (2 ^ (min (40 : Int).toNat IntKind.u64.bits))) 255 from w64_eq _ (by omega) (by omega)]
      exact fin _ _ _ hh h2 h3 ha.1 ha.2 (by omega) (by omega) (Fr.refl _ _) f2 f3 hL3.head
theorem k_pick {a n b : Nat} {h : Heap} {c : Sl} {i sd : Int} (V : IsVar h b [c.v, VI i, .int .u64 sd]) (hb : a ≤ b) (D : CurD a n h c i) (hn : n ≤ 100000000000) (m : Int) (K : Value -> Heap -> Prop) (HK : ∀ (x i' sd' : Int) h', 0 ≤ x -> (1 ≤ m -> x < m) -> IsVar h' b [c.v, VI i', .int .u64 sd'] -> CurD a (n + 2) h' c i' -> Fr (In [b]) h h' -> K (VI x) h') : callM Tryz.prog 70 #[VP b 0, VI m] h K := by
  refine v70 b c i sd m h K (.cons V (by simp) .nil) ⟨fun e => ?_, fun e => ?_⟩
  · simp only [decide_eq_true_eq] at e
    exact HK 0 i sd h (by omega) (fun _ => by omega) V (D.up (by omega)) (Fr.refl _ _)
  simp only [decide_eq_false_iff_not] at e
  refine k_next_ V hb D (by omega) _ fun x i1 sd1 h1 x0 x1 V1 D1 f1 => ⟨c, i1, sd1, x, rfl, .cons V1 (by simp) .nil, fun y d i2 sd2 h2 => 0 ≤ y /\ d = c /\ CurD a (n + 2) h2 c i2 /\ Fr (In [b]) h h2, ⟨fun e2 => ?_, fun e2 => ⟨x0, rfl, D1.up (by omega), f1⟩⟩, ?_⟩
  · refine k_next_ V1 hb D1 (by omega) _ fun x' i2 sd2 h2 x0' x1' V2 D2 f2 => ⟨c, i2, sd2, x', rfl, .cons V2 (by simp) .nil, ?_⟩
    rw [w64_eq (x * 256) (by omega) (by omega), w64_eq _ (by omega) (by omega)]
    exact ⟨by omega, rfl, D2, f1.trans f2⟩
  · rintro y d i2 sd2 h2 ⟨y0, rfl, D2, f2⟩ hL2
    exact ⟨by omega, HK _ i2 sd2 h2 (Int.tmod_nonneg _ y0) (fun _ => Int.tmod_lt_of_pos _ (by omega)) hL2.head D2 f2⟩
theorem k_one {a n b : Nat} {h : Heap} {c : Sl} {i sd : Int} (V : IsVar h b [c.v, VI i, .int .u64 sd]) (hb : a ≤ b) (D : CurD a n h c i) (hn : n ≤ 100000000000) (m : Int) (K : Value -> Heap -> Prop) (HK : ∀ (x : Bool) (i' sd' : Int) h', IsVar h' b [c.v, VI i', .int .u64 sd'] -> CurD a (n + 2) h' c i' -> Fr (In [b]) h h' -> K (VB x) h') : callM Tryz.prog 68 #[VP b 0, VI m] h K := by
  refine v68 b c i sd m h K (.cons V (by simp) .nil) ?_
  exact k_pick V hb D hn m _ fun x i1 sd1 h1 x0 x1 V1 D1 f1 => ⟨c, i1, sd1, x, rfl, .cons V1 (by simp) .nil, HK _ i1 sd1 h1 V1 D1 f1⟩
theorem k_among {a n b : Nat} {h : Heap} {c : Sl} {i sd : Int} (V : IsVar h b [c.v, VI i, .int .u64 sd]) (hb : a ≤ b) (D : CurD a n h c i) (hn : n ≤ 100000000000) {S : Nat -> Prop} {s : Sl} {xs : List Int} (R : RdI S h s xs) (hS : ¬ S b) (hne : xs ≠ []) (K : Value -> Heap -> Prop) (HK : ∀ (x i' sd' : Int) h', x ∈ xs -> IsVar h' b [c.v, VI i', .int .u64 sd'] -> CurD a (n + 2) h' c i' -> Fr (In [b]) h h' -> K (VI x) h') : callM Tryz.prog 69 #[VP b 0, s.v] h K := by
  refine v69 b c i sd s h K (.cons V (by simp) .nil) ?_
  have hl := R.len
  have hp := List.length_pos_iff.2 hne
  refine k_pick V hb D hn _ _ fun x i1 sd1 h1 x0 x1 V1 D1 f1 => ⟨c, i1, sd1, x, rfl, .cons V1 (by simp) .nil, ?_⟩
  have R1 := R.fr f1 fun k hk hk2 => by simp [In] at hk2; subst hk2; exact hS hk
  have hx : x < (xs.length : Int) := by have := x1 (by omega); omega
  exact ⟨R1.inb x0 hx, _, R1.get x0 hx, HK _ i1 sd1 h1 (List.getElem_mem _) V1 D1 f1⟩
theorem eop_put {L : List (Nat × List Value)} {lo : Nat} {h : Heap} {o : Sl} {xs : List Int} {x : Int} (O : OwI h (fun k => lo ≤ k) o xs) (hlo : lo ≤ h.size) (hL : Vars h L) (hoff : ∀ p, p ∈ L -> p.1 < lo) (hb : xs.length ≤ 1000000) (R : Sl -> Heap -> Prop) (HR : ∀ t h', OwI h' (fun k => lo ≤ k) t (xs ++ [x]) -> Fr (fun k => lo ≤ k) h h' -> Vars h' L -> R t h') : eop Tryz.prog (Instr.buildSlice tIs 1 #[(0, VI x)]) h fun rv h1 => ∃ t : Sl, rv = t.v /\ Vars h1 L /\ eop Tryz.prog (appS tIs tIs tIs o.v t.v) h1 fun rv2 h2 => ∃ t2 : Sl, rv2 = t2.v /\ Vars h2 L /\ R t2 h2 := by
  refine eop_lit rIs (fun k => h.size ≤ k) (fun _ h => h) 1 (by omega) [VI x] rfl rfl fun t h1 n1 c1 o1 f1 m1 _ => ⟨t, rfl, hL.of_no f1, ?_⟩
  have z1 := f1.size
  have O1 : OwI h1 (fun k => lo ≤ k) o xs := Ow.no O f1
  have on := O1.rd.len
  have tn := o1.rd.len
  simp only [List.length_map, Nat.mul_one, List.length_cons, List.length_nil] at on tn
  refine eop_append rIs O1 (fun k hk => by omega) o1.rd (plainVI [x]) (by omega) fun s' h2 n2 o2 f2 d2 => ?_
  have g2 : Fr (fun k => lo ≤ k) h1 h2 := f2.mono fun k _ hk => (O1.foot hk).1
  have V2 : Vars h2 L := (hL.of_no f1).fr g2 fun p hp hk => by have := hoff p hp; omega
  exact ⟨s', rfl, V2, HR s' h2 (by rw [OwI, List.map_append]; exact o2) (f1.of_no.trans g2) V2⟩
theorem eop_putR {L : List (Nat × List Value)} {lo m : Nat} {h : Heap} {s x : Sl} {xss : List (List Int)} {ys : List Int} (O : OwX h (Iv lo m) s xss) (X : OwI h (fun k => m ≤ k) x ys) (hlo : lo ≤ m) (hm : m ≤ h.size) (hL : Vars h L) (hoff : ∀ p, p ∈ L -> p.1 < lo) (hb : xss.length ≤ 1000000) (R : Sl -> Heap -> Prop) (HR : ∀ t h', OwX h' (fun k => lo ≤ k) t (xss ++ [ys]) -> Fr (fun k => lo ≤ k) h h' -> Vars h' L -> R t h') : eop Tryz.prog (Instr.buildSlice tIss 1 #[(0, x.v)]) h fun rv h1 => ∃ t : Sl, rv = t.v /\ Vars h1 L /\ eop Tryz.prog (appS tIss tIss tIss s.v t.v) h1 fun rv2 h2 => ∃ t2 : Sl, rv2 = t2.v /\ Vars h2 L /\ R t2 h2 := by
  refine eop_lit rIss (fun k => h.size ≤ k) (fun _ h => h) 1 (by omega) [x.v] rfl rfl fun t h1 n1 c1 o1 f1 m1 _ => ⟨t, rfl, hL.of_no f1, ?_⟩
  have z1 := f1.size
  refine OwR.snoc rIss (OwR.no O f1) (F' := fun k => lo ≤ k) (fun k _ hk => hk.1) (fun k hk => by omega) ((Ow.no X f1).mono fun k _ hk => Nat.le_trans hlo hk) (fun k hk hk2 => by have := (X.foot hk).1; have := hk2.2; omega) o1.rd (by omega) fun y h2 o2 f2 => ?_
  have g2 : Fr (fun k => lo ≤ k) h1 h2 := f2.mono fun k _ hk => hk.1
  have V2 : Vars h2 L := (hL.of_no f1).fr g2 fun p hp hk => by have := hoff p hp; omega
  exact ⟨y, rfl, V2, HR y h2 o2 (f1.of_no.trans g2) V2⟩
def cycR (n : Int) (both : Bool) (p : Int) : List Int := [(p + 1).tmod n] ++ (if both then [(p + n - 1).tmod n] else [])
def cycL' (n : Int) (both : Bool) : Nat -> List (List Int)
  | 0 => []
  | p + 1 => cycL' n both p ++ [cycR n both p]
theorem cycL_length (n : Int) (both : Bool) : ∀ p, (cycL' n both p).length = p
  | 0 => rfl
  | p + 1 => by rw [cycL', List.length_append, cycL_length n both p]; rfl
def cycP (n : Nat) (both : Bool) : List (List Int) := cycL' n both n
theorem k_grCycle {h : Heap} (n : Nat) (hn : n ≤ 1000) (both : Bool) (K : Value -> Heap -> Prop) (HK : ∀ t h', OwX h' (Iv h.size h'.size) t (cycP n both) -> Fr No h h' -> K (.agg #[t.v]) h') : callM Tryz.prog 129 #[VI n, VB both] h K := by
  refine v129 n both h K fun b1 b2 h3 hb1 hb2 f3 hL3 => ?_
  have f3 := f3.in_nil
  have z3 := f3.size
  have l2 : b2 < h3.size := hL3.head.lt
  have l1 : b1 < h3.size := hL3.tail.head.lt
  refine ⟨fun m p x h' => 0 ≤ p /\ p + m = (n : Int) /\ OwX h' (fun k => h3.size ≤ k) x (cycL' n both p.toNat) /\ Fr (fun k => h.size ≤ k) h h' /\ h3.size ≤ h'.size, ⟨n, by omega, by omega, OwR.nil _ _ _ _, f3.of_no, Nat.le_refl _⟩, ?_⟩
  rintro m p x h4 ⟨p0, p1, o4, f4, z4⟩ hL4
  refine ⟨fun e => ?_, fun e => ?_⟩
  · simp only [decide_eq_true_eq] at e
    refine ⟨by omega, ?_⟩
    rw [w64_eq (p + 1) (by omega) (by omega), w64_eq (p + n) (by omega) (by omega), w64_eq (p + n - 1) (by omega) (by omega)]
    have o4i := OwR.toIv o4
    refine eop_lit rIs (fun k => h4.size ≤ k) (fun _ h => h) 1 (by omega) [VI ((p + 1).tmod n)] rfl rfl fun t h5 n5 c5 o5 f5 m5 _ => ⟨t, rfl, hL4.of_no f5, fun y h' => OwI h' (fun k => h4.size ≤ k) y (cycR n both p) /\ OwX h' (Iv h3.size h4.size) x (cycL' n both p.toNat) /\ Fr (fun k => h.size ≤ k) h h' /\ h4.size ≤ h'.size, ⟨fun eb => ⟨by omega, ?_⟩, fun eb => ⟨?_, OwR.no o4i f5, f4.trans f5.of_no, f5.size⟩⟩, ?_⟩
    · refine eop_put (lo := h4.size) (xs := [(p + 1).tmod n]) o5 f5.size (hL4.of_no f5) (fun q hq => by
        simp only [List.mem_cons, List.not_mem_nil, or_false] at hq
        rcases hq with rfl | rfl <;> simp only <;> omega) (by simp) _ fun u h6 o6 f6 V6 => ⟨?_, OwR.fr (OwR.no o4i f5) f6 fun k hk hk2 hk3 => by have := hk2.2; omega, (f4.trans f5.of_no).trans (f6.mono fun k _ hk => by have := f4.size; omega), by have := f5.size; have := f6.size; omega⟩
      unfold cycR
      rw [if_pos eb]; exact o6
    · unfold cycR
      rw [if_neg (by rw [eb]; simp)]
      exact o5
    rintro y h8 ⟨o8, q8, f8, z8⟩ hL8
    refine eop_putR (lo := h3.size) (m := h4.size) q8 o8 z4 z8 hL8 (fun q hq => by
      simp only [List.mem_cons, List.not_mem_nil, or_false] at hq
      rcases hq with rfl | rfl <;> simp only <;> omega) (by rw [cycL_length]; omega) _ fun u h10 o10 f10 V10 h11 f11 hL11 => ?_
    refine ⟨m - 1, by omega, by omega, by omega, ?_, (f8.trans (f10.mono fun k _ hk => by omega)).trans (f11.mono fun k _ hk => by simp [In] at hk; omega), by have := f10.size; have := f11.size; omega⟩
    have ep : (p + 1).toNat = p.toNat + 1 := by omega
    rw [ep, cycL', show ((p.toNat : Nat) : Int) = p by omega]
    exact OwR.fr o10 f11 fun k hk hk2 hk3 => by simp [In] at hk3; omega
  · simp only [decide_eq_false_iff_not] at e
    intro h12 f12 hL12
    have ep : p.toNat = n := by omega
    rw [ep] at o4
    have g12 : Fr (fun k => h.size ≤ k) h4 h12 := f12.mono fun k _ hk => by simp [In] at hk; omega
    have o12 : OwX h12 (fun k => h3.size ≤ k) x (cycL' n both n) := OwR.fr o4 f12 fun k hk hk2 hk3 => by simp [In] at hk3; omega
    exact HK x h12 (OwR.ivs (OwR.toIv o12) z3 (Nat.le_refl _)) ((f4.trans g12).mono fun k hk hk2 => absurd hk2 (by omega))
theorem row_put {L : List (Nat × List Value)} {lo : Nat} {h : Heap} {s : Sl} {xss : List (List Int)} {i : Int} (O : OwX h (fun k => lo ≤ k) s xss) (hlo : lo ≤ h.size) (h0 : 0 ≤ i) (h1 : i < (xss.length : Int)) (hL : Vars h L) (hoff : ∀ p, p ∈ L -> p.1 < lo) (hb : (xss[i.toNat]'(by omega)).length ≤ 1000000) (x : Int) : ∃ si : Sl, hcell h (s.at i 1) = some si.v /\ ∀ R : Heap -> Prop, (∀ h', OwX h' (fun k => lo ≤ k) s (xss.set i.toNat (xss[i.toNat]'(by omega) ++ [x])) -> Fr (fun k => lo ≤ k) h h' -> Vars h' L -> R h') -> eop Tryz.prog (Instr.buildSlice tIs 1 #[(0, VI x)]) h fun rv h1 => ∃ t : Sl, rv = t.v /\ Vars h1 L /\ hcell h1 (s.at i 1) = some si.v /\ eop Tryz.prog (appS tIs tIs tIs si.v t.v) h1 fun rv2 h2 => ∃ t2 : Sl, rv2 = t2.v /\ Vars h2 L /\ InB s i /\ Writable h2 (s.at i 1) /\ Vars (hset h2 (s.at i 1) t2.v) L /\ ∀ h3, h3 = hset h2 (s.at i 1) t2.v -> Vars h3 L -> R h3 := by
  have Oi := OwR.toIv O
  obtain ⟨si, c1, c2, _⟩ := Oi.inner h0 h1
  refine ⟨si, c1, fun R HR => ?_⟩
  refine eop_lit rIs (fun k => h.size ≤ k) (fun _ h => h) 1 (by omega) [VI x] rfl rfl fun t h9 n9 c9 o9 f9 m9 _ => ⟨t, rfl, hL.of_no f9, hcell_fr c1 f9 (fun h => h), ?_⟩
  have s9 := f9.size
  have O9 := OwR.no Oi f9
  have c2' : OwI h9 (fun k => lo ≤ k) si (xss[i.toNat]'(by omega)) := (Ow.no c2 f9).mono fun k _ hk => hk.1
  have on := c2'.rd.len
  have tn := o9.rd.len
  simp only [List.length_map, Nat.mul_one, List.length_cons, List.length_nil] at on tn
  refine eop_append rIs c2' (fun k hk => by omega) o9.rd (plainVI [x]) (by omega) fun w h10 n10 o10 f10 d10 => ?_
  have g10 : Fr (fun k => lo ≤ k) h9 h10 := f10.mono fun k _ hk => (c2'.foot hk).1
  have V10 : Vars h10 L := (hL.of_no f9).fr g10 fun p hp hk => by have := hoff p hp; omega
  have o10' : OwI h10 (fun k => lo ≤ k) w (xss[i.toNat]'(by omega) ++ [x]) := by rw [OwI, List.map_append]; exact o10
  obtain ⟨i11, w11, o11, f11⟩ := O9.outer2 h0 h1 (hcell_fr c1 f9 fun h => h) f10 (F' := fun k => lo ≤ k) o10' (fun k _ hk => hk.1) fun k hk => (d10 k hk).imp id fun hk2 hk3 => by have := hk3.2; omega
  have g11 : Fr (fun k => lo ≤ k) h10 _ := (O9.ownF f11).mono fun k _ hk => hk.1
  have V11 := V10.fr g11 fun p hp hk => by have := hoff p hp; omega
  exact ⟨w, rfl, V10, i11, w11, V11, fun h3 e3 V3 => HR h3 (by rw [e3]; exact o11) (by rw [e3]; exact (f9.of_no.trans g10).trans g11) V3⟩
def GR (N : Int) (q : Nat) (xss : List (List Int)) : Prop := ∀ l, l ∈ xss -> l.length ≤ q /\ ∀ x, x ∈ l -> 0 ≤ x /\ x < N
theorem GR.nil (N : Int) (q : Nat) : GR N q [] := fun l hl => by cases hl
theorem GR.snoc {N : Int} {q : Nat} {xss : List (List Int)} {l : List Int} (H : GR N q xss) (h1 : l.length ≤ q) (h2 : ∀ x, x ∈ l -> 0 ≤ x /\ x < N) : GR N q (xss ++ [l]) := fun y hy => by
  rcases List.mem_append.1 hy with a | a
  · exact H y a
  · simp only [List.mem_cons, List.not_mem_nil, or_false] at a; rw [a]; exact ⟨h1, h2⟩
theorem GR.set {N : Int} {q : Nat} {xss : List (List Int)} {l : List Int} (H : GR N q xss) (i : Nat) (h1 : l.length ≤ q) (h2 : ∀ x, x ∈ l -> 0 ≤ x /\ x < N) : GR N q (xss.set i l) := fun y hy => by
  rcases List.mem_or_eq_of_mem_set hy with a | a
  · exact H y a
  · rw [a]; exact ⟨h1, h2⟩
theorem GR.up {N : Int} {q r : Nat} {xss : List (List Int)} (H : GR N q xss) (h : q ≤ r) : GR N r xss := fun l hl => ⟨Nat.le_trans (H l hl).1 h, (H l hl).2⟩
theorem GR.graph {q : Nat} {xss : List (List Int)} (H : GR xss.length q xss) (hq : q ≤ 5) (h1 : 1 ≤ xss.length) (h2 : xss.length ≤ 8) : graphB xss = true := by
  rw [graphB_eq (inR_iff.2 ⟨by omega, by omega⟩), List.all_eq_true]
  intro l hl
  have := H l hl
  rw [Bool.and_eq_true, Bool.not_eq_true', decide_eq_false_iff_not, List.all_eq_true]
  exact ⟨by omega, fun x hx => inR_iff.2 (by have := this.2 x hx; omega)⟩
theorem cyc_GR {n : Nat} (hn : 1 ≤ n) (both : Bool) : GR n 2 (cycP n both) := by
  have key : ∀ p, GR n 2 (cycL' n both p) := by
    intro p
    induction p with
    | zero => exact GR.nil _ _
    | succ p ih =>
      rw [cycL']
      refine ih.snoc ?_ ?_
      · unfold cycR; split <;> simp
      · intro x hx
        unfold cycR at hx
        rcases List.mem_append.1 hx with a | a
        · simp only [List.mem_cons, List.not_mem_nil, or_false] at a
          rw [a]; exact ⟨Int.tmod_nonneg _ (by omega), Int.tmod_lt_of_pos _ (by omega)⟩
        · split at a
          · simp only [List.mem_cons, List.not_mem_nil, or_false] at a
            rw [a]; exact ⟨Int.tmod_nonneg _ (by omega), Int.tmod_lt_of_pos _ (by omega)⟩
          · cases a
  exact key n
theorem k_sureGraph {a n b : Nat} {h : Heap} {c : Sl} {i sd : Int} (V : IsVar h b [c.v, VI i, .int .u64 sd]) (hb : a ≤ b) (D : CurD a n h c i) (hn : n ≤ 1000000000) {most : Int} (hm1 : 1 ≤ most) (hm2 : most ≤ 8) (K : Value -> Heap -> Prop) (HK : ∀ (t : Sl) (xss : List (List Int)) (i' sd' : Int) h', OwX h' (Iv h.size h'.size) t xss -> GR xss.length 4 xss -> 1 ≤ xss.length -> (xss.length : Int) ≤ most -> IsVar h' b [c.v, VI i', .int .u64 sd'] -> CurD a (n + 100) h' c i' -> Fr (In [b]) h h' -> K (.agg #[t.v]) h') : callM Tryz.prog 144 #[VP b 0, VI most] h K := by
  have lb := V.lt
  refine v144 b c i sd most h K (.cons V (by simp) .nil) fun b2 h1 hb2 f1 hL1 => ?_
  have f1 := f1.in_nil
  have z1 := f1.size
  have l2 : b2 < h1.size := hL1.head.lt
  have fin : ∀ (h' : Heap), Fr (fun k => k = b ∨ h.size ≤ k) h h' -> Fr (In [b]) h h' := fun h' f => f.mono fun k hk hk2 => by
    rcases hk2 with e | e
    · simp [In, e]
    · omega
  have inb : ∀ {x y : Heap}, Fr (In [b]) x y -> Fr (fun k => k = b ∨ h.size ≤ k) x y := fun f => f.mono fun k _ hk => .inl (by simpa [In] using hk)
  refine k_pick hL1.tail.head hb (D.no f1) (by omega) most _ fun r i2 sd2 h2 r0 r1 V2 D2 f2 => ⟨c, i2, sd2, r, rfl, vcur hL1 1 rfl f2 V2, ?_⟩
  have hr := r1 hm1
  rw [w64_eq (1 + r) (by omega) (by omega)]
  have hL2 := vcur hL1 1 rfl f2 V2
  refine k_one V2 hb D2 (by omega) _ _ fun q i3 sd3 h3 V3 D3 f3 => ⟨c, i3, sd3, q, rfl, vcur hL2 1 rfl f3 V3, fun eq => ?_, fun eq => ?_⟩
  · have hL3 := vcur hL2 1 rfl f3 V3
    refine k_one V3 hb D3 (by omega) _ _ fun q4 i4 sd4 h4 V4 D4 f4 => ⟨c, i4, sd4, q4, rfl, vcur hL3 1 rfl f4 V4, ?_⟩
    have hL4 := vcur hL3 1 rfl f4 V4
    have en : (1 + r) = (((1 + r).toNat : Nat) : Int) := by omega
    rw [en]
    refine k_grCycle (1 + r).toNat (by omega) q4 _ fun t h5 o5 f5 => ⟨t, rfl, hL4.of_no f5, fun h6 f6 hL6 => ?_⟩
    have z2 := f2.size
    have z3 := f3.size
    have z4 := f4.size
    have z5 := f5.size
    have o6 : OwX h6 (Iv h4.size h5.size) t (cycP (1 + r).toNat q4) := OwR.fr o5 f6 fun k hk hk2 hk3 => by simp [In] at hk3; have := hk2.1; omega
    have z6 := f6.size
    have hl : (cycP (1 + r).toNat q4).length = (1 + r).toNat := cycL_length _ _ _
    refine HK t _ i4 sd4 h6 (OwR.ivs o6 (by omega) z6) ?_ (by omega) (by omega) hL6.tail.head ?_ (fin h6 ?_)
    · rw [hl]; exact (cyc_GR (by omega) q4).up (by omega)
    · exact (((D4.no f5).fr f6 fun k hk hk2 => by simp [In] at hk2; omega)).up (by omega)
    · exact ((((f1.of_no.trans (inb f2)).trans (inb f3)).trans (inb f4)).trans f5.of_no).trans (f6.mono fun k _ hk => .inr (by simp [In] at hk; omega))
  · intro b3 h8 hb3 f8 hL8
    have f8 := f8.in_nil
    have z2 := f2.size
    have z3 := f3.size
    have z8 := f8.size
    have l3 : b3 < h8.size := hL8.head.lt
    have f08 : Fr (fun k => k = b ∨ h.size ≤ k) h h8 := ((f1.of_no.trans (inb f2)).trans (inb f3)).trans f8.of_no
    refine ⟨fun m p x d i' sd' h' => 0 ≤ p /\ p + m = 1 + r /\ d = c /\ CurD a (n + 4 + 10 * p.toNat) h' c i' /\ (∃ rows, OwX h' (fun k => h8.size ≤ k) x rows /\ GR (1 + r) 3 rows /\ rows.length = p.toNat) /\ Fr (fun k => k = b ∨ h.size ≤ k) h h' /\ h8.size ≤ h'.size, ⟨(1 + r).toNat, by omega, by omega, rfl, (D3.no f8).up (by omega), ⟨[], OwR.nil _ _ _ _, GR.nil _ _, rfl⟩, f08, Nat.le_refl _⟩, ?_⟩
    rintro m p x d i9 sd9 h9 ⟨p0, p1, rfl, D9, ⟨rows, o9, g9, e9⟩, f9, z9⟩ hL9
    have hoff : ∀ (A B C : List Value) (q : Nat × List Value), q ∈ [(b3, A), (b2, B), (b, C)] -> q.1 < h8.size := fun A B C q hq => by
      simp only [List.mem_cons, List.not_mem_nil, or_false] at hq
      rcases hq with rfl | rfl | rfl <;> simp only <;> omega
    refine ⟨fun e => ?_, fun e => ?_⟩
    · simp only [decide_eq_true_eq] at e
      refine k_pick hL9.tail.tail.head hb D9 (by omega) 3 _ fun y i10 sd10 h10 y0 y1 V10 D10 f10 => ⟨d, i10, sd10, y, rfl, vcur hL9 2 rfl f10 V10, ?_⟩
      have y1 := y1 (by omega)
      rw [w64_eq (1 + y) (by omega) (by omega)]
      have z10 := f10.size
      have o10 := OwR.fr (OwR.toIv o9) f10 fun k hk hk2 hk3 => by simp [In] at hk3; have := hk2.1; omega
      refine ⟨fun m l k d' i' sd' h' => m = k.toNat /\ 0 ≤ k /\ d' = d /\ CurD a (n + 6 + 10 * p.toNat + 2 * (3 - k).toNat) h' d i' /\ (∃ ys, OwI h' (fun k => h9.size ≤ k) l ys /\ (∀ x, x ∈ ys -> 0 ≤ x /\ x < 1 + r) /\ (ys.length : Int) + k ≤ 3) /\ OwX h' (Iv h8.size h9.size) x rows /\ Fr (fun k => k = b ∨ h.size ≤ k) h h' /\ h9.size ≤ h'.size, ⟨(1 + y).toNat, rfl, by omega, rfl, D10.up (by omega), ⟨[], Ow.nil _ _ _ _, by simp, by simp; omega⟩, o10, f9.trans (inb f10), z10⟩, ?_⟩
      rintro m2 l k d' i11 sd11 h11 ⟨rfl, k0, rfl, D11, ⟨ys, q11, r11, e11⟩, o11, f11, z11⟩ hL11
      refine ⟨fun ek => ?_, fun ek => ?_⟩
      · simp only [decide_eq_true_eq] at ek
        refine k_pick hL11.tail.tail.head hb D11 (by omega) (1 + r) _ fun w i12 sd12 h12 w0 w1 V12 D12 f12 => ⟨d', i12, sd12, w, rfl, vcur hL11 2 rfl f12 V12, ?_⟩
        have w1 := w1 (by omega)
        have z12 := f12.size
        have q12 : OwI h12 (fun k => h9.size ≤ k) l ys := Ow.fr q11 f12 fun k hk hk3 => by have := (q11.foot hk).1; simp [In] at hk3; omega
        have hL12 := vcur hL11 2 rfl f12 V12
        refine eop_put (lo := h9.size) q12 (by omega) hL12 (fun q hq => by have := hoff _ _ _ q hq; omega) (by omega) _ fun u h14 o14 f14 V14 => ?_
        rw [w64_eq (k - 1) (by omega) (by omega)]
        have z14 := f14.size
        refine ⟨(k - 1).toNat, by omega, rfl, by omega, rfl, ?_, ⟨ys ++ [w], o14, ?_, by simp; omega⟩, ?_, ?_, by omega⟩
        · exact (D12.fr f14 fun k hk hk2 => by omega).up (by omega)
        · intro v hv
          rcases List.mem_append.1 hv with a | a
          · exact r11 v a
          · simp only [List.mem_cons, List.not_mem_nil, or_false] at a; omega
        · refine OwR.fr (OwR.fr o11 f12 fun k hk hk2 hk3 => by simp [In] at hk3; have := hk2.1; omega) f14 fun k hk hk2 hk3 => by have := hk2.2; omega
        · exact (f11.trans (inb f12)).trans (f14.mono fun k _ hk => .inr (by have := f9.size; omega))
      · simp only [decide_eq_false_iff_not] at ek
        have ek0 : k = 0 := by omega
        subst ek0
        refine ⟨fun y2 d2 i2' sd2' h' => d2 = d' /\ (∃ zs, OwI h' (fun k => h9.size ≤ k) y2 zs /\ (∀ x, x ∈ zs -> 0 ≤ x /\ x < 1 + r) /\ zs.length ≤ 3) /\ OwX h' (Iv h8.size h9.size) x rows /\ CurD a (n + 14 + 10 * p.toNat) h' d' i2' /\ Fr (fun k => k = b ∨ h.size ≤ k) h h' /\ h9.size ≤ h'.size, ?_, ?_⟩
        · refine k_one hL11.tail.tail.head hb D11 (by omega) 8 _ fun q15 i15 sd15 h15 V15 D15 f15 => ⟨d', i15, sd15, q15, rfl, vcur hL11 2 rfl f15 V15, fun _ => ?_, fun _ => ?_⟩
          · exact ⟨rfl, ⟨[], Ow.nil _ _ _ _, by simp, by simp⟩, OwR.fr o11 f15 fun k hk hk2 hk3 => by simp [In] at hk3; have := hk2.1; omega, D15.up (by omega), f11.trans (inb f15), by have := f15.size; omega⟩
          · exact ⟨rfl, ⟨ys, Ow.fr q11 f15 fun k hk hk3 => by have := (q11.foot hk).1; simp [In] at hk3; omega, r11, by omega⟩, OwR.fr o11 f15 fun k hk hk2 hk3 => by simp [In] at hk3; have := hk2.1; omega, D15.up (by omega), f11.trans (inb f15), by have := f15.size; omega⟩
        rintro y2 d2 i16 sd16 h16 ⟨rfl, ⟨zs, q16, r16, e16⟩, o16, D16, f16, z16⟩ hL16
        refine eop_putR (lo := h8.size) (m := h9.size) o16 q16 z9 z16 hL16 (fun q hq => hoff _ _ _ q hq) (by omega) _ fun u h18 o18 f18 V18 h19 f19 hL19 => ?_
        rw [w64_eq (p + 1) (by omega) (by omega)]
        have z18 := f18.size
        have z19 := f19.size
        refine ⟨m - 1, by omega, by omega, by omega, rfl, ?_, ⟨rows ++ [zs], OwR.fr o18 f19 fun k hk hk2 hk3 => by simp [In] at hk3; omega, g9.snoc e16 r16, by simp; omega⟩, ?_, by omega⟩
        · exact ((D16.fr f18 fun k hk hk2 => by omega).fr f19 fun k hk hk2 => by simp [In] at hk2; omega).up (by omega)
        · exact (f16.trans (f18.mono fun k _ hk => .inr (by omega))).trans (f19.mono fun k _ hk => .inr (by simp [In] at hk; omega))
    · simp only [decide_eq_false_iff_not] at e
      have hrl : (rows.length : Int) = 1 + r := by omega
      refine k_one hL9.tail.tail.head hb D9 (by omega) 2 _ fun q20 i20 sd20 h20 V20 D20 f20 => ⟨d, i20, sd20, q20, rfl, vcur hL9 2 rfl f20 V20, fun _ => ?_, fun _ => ?_⟩
      · have z20 := f20.size
        have o20 : OwX h20 (fun k => h8.size ≤ k) x rows := OwR.fr o9 f20 fun k hk hk2 hk3 => by simp [In] at hk3; omega
        have hL20 := vcur hL9 2 rfl f20 V20
        refine ⟨fun m2 j h' => 0 ≤ j /\ j + m2 = 1 + r /\ CurD a (n + 100) h' d i20 /\ (∃ rs, OwX h' (fun k => h8.size ≤ k) x rs /\ GR (1 + r) 4 rs /\ (rs.length : Int) = 1 + r /\ ∀ k (hk : k < rs.length), j ≤ (k : Int) -> rs[k].length ≤ 3) /\ Fr (fun k => k = b ∨ h.size ≤ k) h h' /\ h8.size ≤ h'.size, ⟨(1 + r).toNat, by omega, by omega, D20.up (by omega), ⟨rows, o20, g9.up (by omega), hrl, fun k hk _ => (g9 _ (List.getElem_mem hk)).1⟩, f9.trans (inb f20), by omega⟩, ?_⟩
        rintro m2 j h21 ⟨j0, j1, D21, ⟨rs, o21, g21, e21, s21⟩, f21, z21⟩ hL21
        have hxn : (x.n : Int) = 1 + r := by have := OwR.len o21; omega
        refine ⟨fun ej => ?_, fun ej => ?_⟩
        · simp only [decide_eq_true_eq] at ej
          have hj : j < (rs.length : Int) := by omega
          have hsj := s21 j.toNat (by omega) (by omega)
          obtain ⟨si, c1, c2⟩ := row_put o21 z21 j0 hj hL21 (fun q hq => hoff _ _ _ q hq) (by omega) ((w64 (j + 1)).tmod (1 + r))
          refine ⟨(OwR.rd o21).inb j0 hj, si, c1, by omega, c2 _ fun h24 o24 f24 V24 => ?_⟩
          rw [w64_eq (j + 1) (by omega) (by omega)] at o24 ⊢
          refine ⟨m2 - 1, by omega, by omega, by omega, D21.fr f24 fun k hk hk2 => by omega, ⟨_, o24, g21.set _ (by simp; omega) ?_, by simp; omega, fun k hk hk2 => ?_⟩, f21.trans (f24.mono fun k _ hk => .inr (by omega)), by have := f24.size; omega⟩
          · intro v hv
            rcases List.mem_append.1 hv with a | a
            · exact (g21 _ (List.getElem_mem _)).2 v a
            · simp only [List.mem_cons, List.not_mem_nil, or_false] at a
              rw [a]; exact ⟨Int.tmod_nonneg _ (by omega), Int.tmod_lt_of_pos _ (by omega)⟩
          · rw [List.getElem_set, if_neg (by omega)]
            exact s21 k (by simpa using hk) (by omega)
        · intro h25 f25 hL25
          have o25 : OwX h25 (fun k => h8.size ≤ k) x rs := OwR.fr o21 f25 fun k hk hk2 hk3 => by simp [In] at hk3; omega
          refine HK x rs i20 sd20 h25 (OwR.ivs (OwR.toIv o25) (by omega) (Nat.le_refl _)) (by rw [e21]; exact g21) (by omega) (by omega) hL25.tail.tail.head (D21.fr f25 fun k hk hk2 => by simp [In] at hk2; omega) (fin _ (f21.trans (f25.mono fun k _ hk => .inr (by simp [In] at hk; omega))))
      · intro h26 f26 hL26
        have z20 := f20.size
        have o26 : OwX h26 (fun k => h8.size ≤ k) x rows := OwR.fr (OwR.fr o9 f20 fun k hk hk2 hk3 => by simp [In] at hk3; omega) f26 fun k hk hk2 hk3 => by simp [In] at hk3; omega
        refine HK x rows i20 sd20 h26 (OwR.ivs (OwR.toIv o26) (by omega) (Nat.le_refl _)) (by rw [hrl]; exact g9.up (by omega)) (by omega) (by omega) hL26.tail.tail.head ((D20.fr f26 fun k hk hk2 => by simp [In] at hk2; omega).up (by omega)) (fin _ ((f9.trans (inb f20)).trans (f26.mono fun k _ hk => .inr (by simp [In] at hk; omega))))
theorem row_set {L : List (Nat × List Value)} {F : Nat -> Prop} {m : Nat} {h : Heap} {s x : Sl} {xss : List (List Int)} {ys : List Int} {i : Int} (O : OwX h (fun k => F k /\ k < m) s xss) (X : OwI h (fun k => m ≤ k) x ys) (hF : ∀ k, m ≤ k -> F k) (h0 : 0 ≤ i) (h1 : i < (xss.length : Int)) (hL : Vars h L) (hoff : ∀ p, p ∈ L -> ¬ F p.1) (R : Heap -> Prop) (HR : ∀ h', OwX h' F s (xss.set i.toNat ys) -> Fr F h h' -> Vars h' L -> R h') : InB s i /\ Writable h (s.at i 1) /\ Vars (hset h (s.at i 1) x.v) L /\ ∀ h3, h3 = hset h (s.at i 1) x.v -> Vars h3 L -> R h3 := by
  obtain ⟨si, c1, c2, _⟩ := O.inner h0 h1
  obtain ⟨i11, w11, o11, f11⟩ := O.outer2 h0 h1 c1 (Fr.refl _ _) (F' := F) (X.mono fun k _ hk => hF k hk) (fun k _ hk => hk.1) fun k hk => .inr fun hk2 => by have := (X.foot hk).1; have := hk2.2; omega
  have g11 : Fr F h _ := (O.ownF f11).mono fun k _ hk => hk.1
  have V11 := hL.fr g11 hoff
  exact ⟨i11, w11, V11, fun h3 e3 V3 => HR h3 (by rw [e3]; exact o11) (by rw [e3]; exact g11) V3⟩
theorem k_sureWalk {a n b : Nat} {h : Heap} {c : Sl} {i sd : Int} (V : IsVar h b [c.v, VI i, .int .u64 sd]) (hb : a ≤ b) (D : CurD a n h c i) (hn : n ≤ 1000000000) {S : Nat -> Prop} {g : Sl} {xss : List (List Int)} (G : RdR S h g xss) (hS : ¬ S b) (hl : xss.length ≤ 1000) (K : Value -> Heap -> Prop) (HK : ∀ (t : Sl) (rs : List Int) (p i' sd' : Int) h', OwI h' (Iv h.size h'.size) t rs -> rs.length = xss.length -> IsVar h' b [c.v, VI i', .int .u64 sd'] -> CurD a (n + 2 + 2 * xss.length) h' c i' -> Fr (In [b]) h h' -> K (.agg #[t.v, VI p]) h') : callM Tryz.prog 83 #[VP b 0, .agg #[g.v]] h K := by
  have lb := V.lt
  refine v83 b c i sd g h K (.cons V (by simp) .nil) fun b2 b3 h2 hb2 hb3 f2 hL2 => ?_
  have f2 := f2.in_nil
  have z2 := f2.size
  have l3 : b3 < h2.size := hL2.head.lt
  have l2 : b2 < h2.size := hL2.tail.head.lt
  have fin : ∀ (h' : Heap), Fr (fun k => k = b ∨ h.size ≤ k) h h' -> Fr (In [b]) h h' := fun h' f => f.mono fun k hk hk2 => by
    rcases hk2 with e | e
    · simp [In, e]
    · omega
  have inb : ∀ {x y : Heap}, Fr (In [b]) x y -> Fr (fun k => k = b ∨ h.size ≤ k) x y := fun f => f.mono fun k _ hk => .inl (by simpa [In] using hk)
  have G0 : RdR (fun k => S k /\ k < h.size) h g xss := G.lowS
  have gT : ∀ k, (S k /\ k < h.size) -> ¬ (k = b ∨ h.size ≤ k) := fun k hk hk2 => by
    rcases hk2 with e | e
    · subst e; exact hS hk.1
    · omega
  refine k_pick hL2.tail.tail.head hb (D.no f2) (by omega) _ _ fun r i3 sd3 h3 r0 r1 V3 D3 f3 => ⟨c, i3, sd3, r, rfl, vcur hL2 2 rfl f3 V3, fun b4 h5 hb4 f5 hL5 => ?_⟩
  have f5 := f5.in_nil
  have z3 := f3.size
  have z5 := f5.size
  have l4 : b4 < h5.size := hL5.head.lt
  have gn := G.len
  refine ⟨fun m p x y d i' sd' h' => 0 ≤ p /\ p + m = (xss.length : Int) /\ y = r /\ d = c /\ CurD a (n + 2 + 2 * p.toNat) h' c i' /\ (∃ rs, OwI h' (fun k => h5.size ≤ k) x rs /\ rs.length = p.toNat) /\ Fr (fun k => k = b ∨ h.size ≤ k) h h' /\ h5.size ≤ h'.size, ⟨xss.length, by omega, by omega, rfl, rfl, (D3.no f5).up (by omega), ⟨[], Ow.nil _ _ _ _, rfl⟩, (f2.of_no.trans (inb f3)).trans f5.of_no, Nat.le_refl _⟩, ?_⟩
  rintro m p x y d i6 sd6 h6 ⟨p0, p1, rfl, rfl, D6, ⟨rs, o6, e6⟩, f6, z6⟩ hL6
  have G6 := G0.fr f6 gT
  refine ⟨fun e => ?_, fun e => ?_⟩
  · simp only [decide_eq_true_eq] at e
    obtain ⟨si, c1, r6⟩ := G6.get p0 (by omega)
    refine ⟨G6.inb p0 (by omega), si, c1, fun w d2 i' sd' h' => d2 = d /\ CurD a (n + 2 + 2 * p.toNat + 2) h' d i' /\ OwI h' (fun k => h5.size ≤ k) x rs /\ Fr (fun k => k = b ∨ h.size ≤ k) h h' /\ h5.size ≤ h'.size, ⟨fun _ => ?_, fun _ => ⟨rfl, D6.up (by omega), o6, f6, z6⟩⟩, ?_⟩
    · refine k_pick hL6.tail.tail.tail.head hb D6 (by omega) _ _ fun w i7 sd7 h7 w0 w1 V7 D7 f7 => ⟨d, i7, sd7, w, rfl, vcur hL6 3 rfl f7 V7, rfl, D7, Ow.fr o6 f7 fun k hk hk3 => by have := (o6.foot hk).1; simp [In] at hk3; omega, f6.trans (inb f7), by have := f7.size; omega⟩
    rintro w d2 i8 sd8 h8 ⟨rfl, D8, o8, f8, z8⟩ hL8
    refine eop_put (lo := h5.size) o8 z8 hL8 (fun q hq => by
      simp only [List.mem_cons, List.not_mem_nil, or_false] at hq
      rcases hq with rfl | rfl | rfl | rfl <;> simp only <;> omega) (by omega) _ fun u h10 o10 f10 V10 h11 f11 hL11 => ?_
    rw [w64_eq (p + 1) (by omega) (by omega)]
    have z10 := f10.size
    have z11 := f11.size
    refine ⟨m - 1, by omega, by omega, by omega, rfl, rfl, ?_, ⟨rs ++ [w], Ow.fr o10 f11 fun k hk hk3 => by have := (o10.foot hk).1; simp [In] at hk3; omega, by simp; omega⟩, ?_, by omega⟩
    · exact ((D8.fr f10 fun k hk hk2 => by omega).fr f11 fun k hk hk2 => by simp [In] at hk2; omega).up (by omega)
    · exact (f8.trans (f10.mono fun k _ hk => .inr (by omega))).trans (f11.mono fun k _ hk => .inr (by simp [In] at hk; omega))
  · simp only [decide_eq_false_iff_not] at e
    intro h12 f12 hL12
    have o12 : OwI h12 (fun k => h5.size ≤ k) x rs := Ow.fr o6 f12 fun k hk hk3 => by have := (o6.foot hk).1; simp [In] at hk3; omega
    refine HK x rs y i6 sd6 h12 (Ow.ivs (Ow.toIv o12) (by omega) (Nat.le_refl _)) (by omega) hL12.tail.tail.tail.head ?_ (fin _ (f6.trans (f12.mono fun k _ hk => .inr (by simp [In] at hk; omega))))
    exact (D6.fr f12 fun k hk hk2 => by simp [In] at hk2; omega).up (by omega)
theorem int_set {L : List (Nat × List Value)} {F : Nat -> Prop} {h : Heap} {s : Sl} {xs : List Int} {i : Int} {v : Int} (O : OwI h F s xs) (h0 : 0 ≤ i) (h1 : i < (xs.length : Int)) (hL : Vars h L) (hoff : ∀ p, p ∈ L -> ¬ F p.1) (R : Heap -> Prop) (HR : ∀ h', OwI h' F s (xs.set i.toNat v) -> Fr F h h' -> Vars h' L -> R h') : InB s i /\ Writable h (s.at i 1) /\ Vars (hset h (s.at i 1) (VI v)) L /\ ∀ h3, h3 = hset h (s.at i 1) (VI v) -> Vars h3 L -> R h3 := by
  have on := O.rd.len
  simp only [List.length_map, Nat.mul_one] at on
  obtain ⟨w1, w2, w3⟩ := O.store1 h0 (by omega) (VI v)
  have g : Fr F h _ := w3.mono fun k _ hk => (O.foot hk).1
  have V := hL.fr g hoff
  exact ⟨O.rd.inb h0 (by simp; omega), w1, V, fun h3 e3 V3 => HR h3 (by rw [e3, OwI, List.map_set]; exact w2) (by rw [e3]; exact g) V3⟩
end Go.Proofs.YtkjkfjkapbpgiaaGreatDoor
