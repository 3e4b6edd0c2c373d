import Derived.Test.YtgiamamfnpklkaaHitsNearChancesU1
import Derived.Test.YtgiamamfnpklkaaM4
import Derived.Laws.StructEq
set_option linter.unusedVariables false
set_option linter.unusedSimpArgs false
namespace Go.Proofs.Ytgiamamfnpklkaa
open Go Go.Mx
@[reducible] def tI : TypeId := 3
@[reducible] def tIs : TypeId := 37
@[reducible] def tIss : TypeId := 24
theorem rIs : rowC Try.prog tIs = some (tI, 1, 8, [VI 0]) := by kernel_rfl
theorem rIss : rowC Try.prog tIss = some (tIs, 1, 24, [nilSl.v]) := by kernel_rfl
@[reducible] def OwI (h : Heap) (F : Nat -> Prop) (s : Sl) (xs : List Int) : Prop := Ow h F tI 1 s (xs.map VI)
@[reducible] def OwX (h : Heap) (F : Nat -> Prop) (s : Sl) (xss : List (List Int)) : Prop := OwR h F tIs tI s xss
theorem plainVI (xs : List Int) : (xs.map VI).all plainV = true := by simp [List.all_eq_true, plainV]
theorem k_impl_in (n lo hi : Int) (h : Heap) (K : Value -> Heap -> Prop) (H : K (VB (decide (lo ≤ n) && decide (n ≤ hi))) h) : callM Try.prog 71 #[VI n, VI lo, VI hi] h K := by
  refine v71 n lo hi h K ⟨fun e => ?_, fun e => ?_⟩
  · rw [e, Bool.true_and] at H; exact H
  · rw [e, Bool.false_and] at H; exact H
theorem k_spec_l1In (n lo hi : Int) (h : Heap) (K : Value -> Heap -> Prop) (H : K (VB (decide (lo ≤ n) && decide (n ≤ hi))) h) : callM Try.prog 73 #[VI n, VI lo, VI hi] h K := by
  refine v73 n lo hi h K ⟨fun e => ?_, fun e => ?_⟩
  · rw [e, Bool.true_and] at H; exact H
  · rw [e, Bool.false_and] at H; exact H
def inR (lo hi x : Int) : Bool := decide (lo ≤ x) && decide (x ≤ hi)
def graphB (g : List (List Int)) : Bool := inR 1 8 g.length && g.all fun l => !decide (5 < (l.length : Int)) && l.all (inR 0 ((g.length : Int) - 1))
theorem not_t {b : Bool} (h : (!b) = true) : b = false := by simpa using h
theorem not_f {b : Bool} (h : (!b) = false) : b = true := by simpa using h
theorem k_spec_l1All {S : Nat -> Prop} {h : Heap} {l : Sl} {xs : List Int} (H : RdI S h l xs) (lo hi_1 : Int) (K : Value -> Heap -> Prop) (HK : K (VB (xs.all (inR lo hi_1))) h) : callM Try.prog 108 #[l.v, VI lo, VI hi_1] h K := by
  refine v108 l lo hi_1 h K ?_
  refine ⟨fun n i h' => h' = h /\ 0 ≤ i /\ i + n = (xs.length : Int) /\ xs.all (inR lo hi_1) = (xs.drop i.toNat).all (inR lo hi_1), ⟨xs.length, rfl, by omega, by omega, by simp⟩, ?_⟩
  rintro n i _ ⟨rfl, h0, h1, h2⟩ hL
  refine ⟨fun e => ?_, fun e => ?_⟩
  · have hi := H.lt e
    refine ⟨H.inb h0 hi, _, H.get h0 hi, ?_⟩
    rw [drop_cons xs h0 hi, List.all_cons] at h2
    refine k_spec_l1In _ _ _ _ _ ⟨_, rfl, hL, fun e2 => ?_, fun e2 => ?_⟩
    · have e3 : inR lo hi_1 (xs[i.toNat]'(by omega)) = false := not_t e2
      rw [h2, e3] at HK
      exact HK
    · have e3 : inR lo hi_1 (xs[i.toNat]'(by omega)) = true := not_f e2
      rw [e3, Bool.true_and] at h2
      rw [H.succ h0 hi]
      exact ⟨n - 1, by omega, rfl, by omega, by omega, h2⟩
  · have hi := H.ge e
    rw [List.drop_of_length_le (by omega)] at h2
    rw [h2] at HK
    exact HK
theorem k_spec_grGood {S : Nat -> Prop} {h : Heap} {g : Sl} {xss : List (List Int)} (H : RdR S h g xss) : Ret Try.prog 120 #[.agg #[g.v]] h (VB (graphB xss)) := by
  intro K HK
  refine v120 g h K ?_
  intro b1 h1 hb1 hf1 hL1
  have f1 := hf1.in_nil
  have hlen := H.len
  refine k_spec_l1In _ _ _ _ _ ⟨_, rfl, hL1, fun e => ?_, fun e => ?_⟩
  · have e3 : inR 1 8 xss.length = false := by have := not_t e; rw [hlen] at this; exact this
    have : graphB xss = false := by unfold graphB; rw [e3]; rfl
    rw [← this]; exact HK _ f1
  · have e3 : inR 1 8 xss.length = true := by have := not_f e; rw [hlen] at this; exact this
    have hw : w64 ((g.n : Int) - 1) = (xss.length : Int) - 1 := by rw [hlen]; exact w64_eq _ (by omega) (by have := maxLen_lt H.big; omega)
    have hg : graphB xss = xss.all fun l => !decide (5 < (l.length : Int)) && l.all (inR 0 ((xss.length : Int) - 1)) := by unfold graphB; rw [e3]; rfl
    rw [hw]
    refine ⟨fun n i h' => Fr No h1 h' /\ 0 ≤ i /\ i + n = (xss.length : Int) /\ graphB xss = (xss.drop i.toNat).all (fun l => !decide (5 < (l.length : Int)) && l.all (inR 0 ((xss.length : Int) - 1))), ⟨xss.length, Fr.refl _ _, by omega, by omega, by simp [hg]⟩, ?_⟩
    rintro n i h3 ⟨f3, h0, h2, h4⟩ hL
    have H3 := (H.no f1).no f3
    refine ⟨fun e => ?_, fun e => ?_⟩
    · have hi := H.lt e
      obtain ⟨si, hc, Hi⟩ := H3.get h0 hi
      refine ⟨H3.inb h0 hi, si, hc, fun e5 => ?_, fun e5 => ?_⟩
      · rw [drop_cons xss h0 hi, List.all_cons] at h4
        rw [Hi.len] at e5
        rw [e5] at h4
        have h5 : graphB xss = false := by rw [h4]; rfl
        rw [← h5]; exact HK _ (f1.trans f3)
      · rw [drop_cons xss h0 hi, List.all_cons] at h4
        rw [Hi.len] at e5
        rw [e5] at h4
        refine k_spec_l1All Hi _ _ _ ⟨_, rfl, hL, fun e6 => ?_, fun e6 => ?_⟩
        · rw [not_t e6] at h4
          have h5 : graphB xss = false := by rw [h4]; rfl
          rw [← h5]; exact HK _ (f1.trans f3)
        · rw [not_f e6] at h4
          rw [H.succ h0 hi]
          exact ⟨n - 1, by omega, f3, by omega, by omega, by rw [h4]; rfl⟩
    · have hi := H.ge e
      rw [List.drop_of_length_le (by omega)] at h4
      have h5 : graphB xss = true := by rw [h4]; rfl
      rw [← h5]; exact HK _ (f1.trans f3)
theorem k_IndexFunc {S : Nat -> Prop} {h : Heap} {s : Sl} {xs : List Int} (H : RdI S h s xs) (f : Value) (p : Int -> Bool) (hf : ∀ (x : Int) (K : Value -> Heap -> Prop), K (VB (p x)) h -> callV Try.prog f [VI x] h K) (K : Value -> Heap -> Prop) (HK : ∀ r : Int, decide (0 ≤ r) = xs.any p -> K (VI r) h) : callM Try.prog 132 #[s.v, f] h K := by
  refine v132 s f h K ⟨fun n i h' => h' = h /\ 0 ≤ i /\ i + n = (xs.length : Int) /\ xs.any p = (xs.drop i.toNat).any p, ⟨xs.length, rfl, by omega, by omega, by simp⟩, ?_⟩
  rintro n i _ ⟨rfl, i0, i1, i2⟩ hL
  refine ⟨fun e => ?_, fun e => ?_⟩
  · have hi := H.lt e
    rw [drop_cons xs i0 hi, List.any_cons] at i2
    refine ⟨H.inb i0 hi, _, H.get i0 hi, hf _ _ ⟨_, rfl, .nil, fun e => ?_, fun e => ?_⟩⟩
    · rw [e, Bool.true_or] at i2
      exact HK _ (by rw [i2]; simpa using i0)
    · rw [e, Bool.false_or] at i2
      rw [H.succ i0 hi]
      exact ⟨n - 1, by omega, rfl, by omega, by omega, i2⟩
  · have hi := H.ge e
    rw [List.drop_of_length_le (by omega)] at i2
    exact HK _ (by rw [i2]; rfl)
theorem k_ContainsFunc {S : Nat -> Prop} {h : Heap} {s : Sl} {xs : List Int} (H : RdI S h s xs) (f : Value) (p : Int -> Bool) (hf : ∀ (x : Int) (K : Value -> Heap -> Prop), K (VB (p x)) h -> callV Try.prog f [VI x] h K) (K : Value -> Heap -> Prop) (HK : K (VB (xs.any p)) h) : callM Try.prog 96 #[s.v, f] h K := by
  refine v96 s f h K (k_IndexFunc H f p hf _ fun r hr => ⟨r, rfl, .nil, ?_⟩)
  rw [hr]; exact HK
theorem k_isGraph1 {h : Heap} {b : Nat} {n : Int} (x : Int) {L : List (Nat × List Value)} (hL : Vars h ((b, [VI n]) :: L)) (K : Value -> Heap -> Prop) (HK : K (VB (!inR 0 (w64 (n - 1)) x)) h) : callV Try.prog (.func (.func 138) #[] #[VP b 0]) [VI x] h K := by
  refine v138 x b n h K (.cons hL.head (by simp) .nil) ?_
  refine k_impl_in _ _ _ _ _ ⟨_, rfl, .cons hL.head (by simp) .nil, ?_⟩
  exact HK
theorem k_has1 {h : Heap} {b : Nat} {g : Sl} (x : Int) {L : List (Nat × List Value)} (hL : Vars h ((b, [g.v]) :: L)) (K : Value -> Heap -> Prop) (HK : K (VB (!inR 0 (w64 (g.n - 1)) x)) h) : callV Try.prog (.func (.func 114) #[] #[VP b 0]) [VI x] h K := by
  refine v114 x b g h K (.cons hL.head (by simp) .nil) ?_
  refine k_impl_in _ _ _ _ _ ⟨_, rfl, .cons hL.head (by simp) .nil, ?_⟩
  exact HK
theorem graphB_eq {xss : List (List Int)} (e3 : inR 1 8 xss.length = true) : graphB xss = xss.all fun l => !decide (5 < (l.length : Int)) && l.all (inR 0 ((xss.length : Int) - 1)) := by unfold graphB; rw [e3]; rfl
theorem graphB_no {xss : List (List Int)} (e3 : inR 1 8 xss.length = false) : graphB xss = false := by unfold graphB; rw [e3]; rfl
theorem any_not {xs : List Int} {p : Int -> Bool} : xs.any (fun x => !p x) = !xs.all p := by
  induction xs with
  | nil => rfl
  | cons x xs ih => simp only [List.any_cons, List.all_cons, ih, Bool.not_and]
theorem len_w64 {S : Nat -> Prop} {h : Heap} {g : Sl} {xss : List (List Int)} (H : RdR S h g xss) : w64 ((g.n : Int) - 1) = (xss.length : Int) - 1 := by
  rw [H.len]
  have h1 := maxLen_lt H.big
  have h2 := H.len
  exact w64_eq _ (by omega) (by omega)
theorem k_isGraph {S : Nat -> Prop} {h : Heap} {g : Sl} {xss : List (List Int)} (H : RdR S h g xss) : Ret Try.prog 113 #[.agg #[g.v]] h (VB (graphB xss)) := by
  intro K HK
  refine v113 g h K fun b1 b2 h1 hb1 hb2 hf1 hL1 => ?_
  have f1 := hf1.in_nil
  have hlen := H.len
  refine k_impl_in _ _ _ _ _ ⟨_, rfl, hL1, fun e => ?_, fun e => ?_⟩
  · have e3 : inR 1 8 xss.length = false := by have := not_t e; rw [hlen] at this; exact this
    rw [← graphB_no e3]; exact HK _ f1
  · have e3 : inR 1 8 xss.length = true := by have := not_f e; rw [hlen] at this; exact this
    have hg := graphB_eq e3
    refine ⟨fun n i x h' => h' = h1 /\ x = (g.n : Int) /\ 0 ≤ i /\ i + n = (xss.length : Int) /\ graphB xss = (xss.drop i.toNat).all (fun l => !decide (5 < (l.length : Int)) && l.all (inR 0 ((xss.length : Int) - 1))), ⟨xss.length, rfl, rfl, by omega, by omega, by simp [hg]⟩, ?_⟩
    rintro n i x _ ⟨rfl, rfl, h0, h2, h4⟩ hL
    have H3 := H.no f1
    refine ⟨fun e => ?_, fun e => ?_⟩
    · have hi := H.lt e
      obtain ⟨si, hc, Hi⟩ := H3.get h0 hi
      rw [drop_cons xss h0 hi, List.all_cons] at h4
      refine ⟨H3.inb h0 hi, si, hc, fun e5 => ?_, fun e5 => ?_⟩
      · rw [Hi.len] at e5
        rw [e5] at h4
        have h5 : graphB xss = false := by rw [h4]; rfl
        rw [← h5]; exact HK _ f1
      · rw [Hi.len] at e5
        rw [e5] at h4
        refine k_ContainsFunc Hi _ _ (fun x K HK => k_isGraph1 x hL K HK) _ ?_
        refine ⟨_, _, rfl, hL, fun e6 => ?_, fun e6 => ?_⟩
        · rw [any_not, len_w64 H] at e6
          rw [not_t e6] at h4
          have h5 : graphB xss = false := by rw [h4]; rfl
          rw [← h5]; exact HK _ f1
        · rw [any_not, len_w64 H] at e6
          rw [not_f e6] at h4
          rw [H.succ h0 hi]
          exact ⟨n - 1, by omega, rfl, rfl, by omega, by omega, by rw [h4]; rfl⟩
    · have hi := H.ge e
      rw [List.drop_of_length_le (by omega)] at h4
      have h5 : graphB xss = true := by rw [h4]; rfl
      rw [← h5]; exact HK _ f1
theorem k_has {S S' : Nat -> Prop} {h : Heap} {g s : Sl} {xss : List (List Int)} {ps : List Int} (H : RdR S h g xss) (Hp : RdI S' h s ps) : Ret Try.prog 63 #[.agg #[g.v], s.v] h (VB (graphB xss && ps.all (inR 0 ((xss.length : Int) - 1)))) := by
  intro K HK
  refine v63 g s h K fun b1 h1 hb1 f1 hL1 => ?_
  have f1 := f1.in_nil
  refine k_isGraph (H.no f1) _ fun h2 f2 => ⟨_, rfl, hL1.of_no f2, fun e => ?_, fun e => ?_⟩
  · rw [e, Bool.true_and] at HK
    have hL2 := hL1.of_no f2
    refine k_ContainsFunc ((Hp.no f1).no f2) _ _ (fun x K HK => k_has1 x hL2 K HK) _ ?_
    refine ⟨_, _, rfl, hL2, ?_⟩
    rw [any_not, len_w64 H, Bool.not_not]
    exact HK _ (f1.trans f2)
  · rw [e, Bool.false_and] at HK
    exact HK _ (f1.trans f2)
theorem k_spec_grPlace {S : Nat -> Prop} {h : Heap} {g : Sl} {xss : List (List Int)} (H : RdR S h g xss) (p : Int) : Ret Try.prog 72 #[.agg #[g.v], VI p] h (VB (graphB xss && inR 0 ((xss.length : Int) - 1) p)) := by
  intro K HK
  refine v72 g p h K fun b1 h1 hb1 f1 hL1 => ?_
  have f1 := f1.in_nil
  refine k_spec_grGood (H.no f1) _ fun h2 f2 => ⟨_, rfl, hL1.of_no f2, fun e => ?_, fun e => ?_⟩
  · rw [e, Bool.true_and] at HK
    refine k_spec_l1In _ _ _ _ _ ⟨_, rfl, hL1.of_no f2, ?_⟩
    rw [len_w64 H]
    exact HK _ (f1.trans f2)
  · rw [e, Bool.false_and] at HK
    exact HK _ (f1.trans f2)
theorem k_spec_l1Most (a b : Int) (h : Heap) (K : Value -> Heap -> Prop) (HK : K (VI (max a b)) h) : callM Try.prog 126 #[VI a, VI b] h K := by
  refine v126 a b h K ⟨fun e => ?_, fun e => ?_⟩
  · simp only [decide_eq_true_eq] at e
    rw [Int.max_eq_left (by omega)] at HK
    exact HK
  · simp only [decide_eq_false_iff_not] at e
    rw [Int.max_eq_right (by omega)] at HK
    exact HK
def rotB (l : List Int) (r : Int) : Bool := inR 0 (max ((l.length : Int) - 1) 0) r
def walkB (g : List (List Int)) (rs : List Int) (p : Int) : Bool := graphB g && inR 0 ((g.length : Int) - 1) p && decide (rs.length = g.length) && (g.zip rs).all fun q => rotB q.1 q.2
theorem walkB_no1 {g : List (List Int)} {rs : List Int} {p : Int} (e : (graphB g && inR 0 ((g.length : Int) - 1) p) = false) : walkB g rs p = false := by unfold walkB; rw [e]; rfl
theorem walkB_no2 {g : List (List Int)} {rs : List Int} {p : Int} (e : ¬ rs.length = g.length) : walkB g rs p = false := by unfold walkB; rw [decide_eq_false e]; simp
theorem walkB_eq {g : List (List Int)} {rs : List Int} {p : Int} (e : (graphB g && inR 0 ((g.length : Int) - 1) p) = true) (e2 : rs.length = g.length) : walkB g rs p = (g.zip rs).all fun q => rotB q.1 q.2 := by unfold walkB; rw [e, decide_eq_true e2]; rfl
theorem zip_drop (g : List (List Int)) (rs : List Int) {i : Int} (h0 : 0 ≤ i) (h1 : i < (g.length : Int)) (h2 : i < (rs.length : Int)) : (g.zip rs).drop i.toNat = (g[i.toNat]'(by omega), rs[i.toNat]'(by omega)) :: (g.zip rs).drop (i + 1).toNat := by
  have := drop_cons (g.zip rs) h0 (by simp; omega)
  simpa using this
theorem len_w64I {S : Nat -> Prop} {h : Heap} {g : Sl} {xs : List Int} (H : RdI S h g xs) : w64 ((g.n : Int) - 1) = (xs.length : Int) - 1 := by
  rw [H.len]
  have h1 := maxLen_lt (RdV.big H)
  have h2 := H.len
  exact w64_eq _ (by omega) (by omega)
theorem k_isWalk {S S' : Nat -> Prop} {h : Heap} {g s : Sl} {xss : List (List Int)} {rs : List Int} (G : RdR S h g xss) (H : RdI S' h s rs) (p : Int) : Ret Try.prog 139 #[.agg #[g.v], .agg #[s.v, VI p]] h (VB (walkB xss rs p)) := by
  intro K HK
  refine v139 g s p h K fun b1 b2 h1 hb1 hb2 f1 hL1 => ?_
  have f1 := f1.in_nil
  refine eop_lit rIs (fun k => h1.size ≤ k) (fun _ h => h) 1 (by omega) [VI p] rfl rfl fun t h2 n2 c2 o2 f2 l2 _ => ⟨t, rfl, hL1.of_no f2, ?_⟩
  have o2 : RdI (fun k => h1.size ≤ k) h2 t [p] := o2.rdF
  refine k_has ((G.no f1).no f2) o2 _ fun h3 f3 => ⟨_, rfl, (hL1.of_no f2).of_no f3, fun e => ?_, fun e => ?_⟩
  all_goals simp only [List.all_cons, List.all_nil, Bool.and_true] at e
  · rw [← walkB_no1 (rs := rs) (not_t e)]; exact HK _ ((f1.no_trans f2).no_trans f3)
  · have f13 := (f1.no_trans f2).no_trans f3
    rw [G.len, H.len]
    refine ⟨fun e2 => ?_, fun e2 => ?_⟩
    · have e3 := not_t e2
      simp only [decide_eq_false_iff_not] at e3
      rw [← walkB_no2 (g := xss) (rs := rs) (p := p) (by omega)]; exact HK _ f13
    · have e3 := not_f e2
      simp only [decide_eq_true_eq] at e3
      have e4 := walkB_eq (not_f e) (rs := rs) (by omega)
      have G3 := G.no f13
      have H3 := H.no f13
      refine ⟨fun n i h' => h' = h3 /\ 0 ≤ i /\ i + n = (xss.length : Int) /\ walkB xss rs p = ((xss.zip rs).drop i.toNat).all fun q => rotB q.1 q.2, ⟨xss.length, rfl, by omega, by omega, by simpa using e4⟩, ?_⟩
      rintro n i _ ⟨rfl, i0, i1, i2⟩ hL
      refine ⟨fun e5 => ?_, fun e5 => ?_⟩
      · have hi : i < (rs.length : Int) := by simpa using e5
        have hi' : i < (xss.length : Int) := by omega
        obtain ⟨si, c1, c2⟩ := G3.get i0 hi'
        rw [zip_drop xss rs i0 hi' hi, List.all_cons] at i2
        refine ⟨H3.inb i0 hi, _, H3.get i0 hi, G3.inb i0 hi', si, c1, ?_⟩
        rw [len_w64I c2]
        refine pop_max _ _ _ _ ⟨_, rfl, k_impl_in _ _ _ _ _ ⟨_, rfl, hL, fun e6 => ?_, fun e6 => ?_⟩⟩
        · have e7 : rotB (xss[i.toNat]'(by omega)) (rs[i.toNat]'(by omega)) = false := not_t e6
          simp only at i2
          rw [e7] at i2
          have e8 : walkB xss rs p = false := by rw [i2]; rfl
          rw [← e8]; exact HK _ f13
        · have e7 : rotB (xss[i.toNat]'(by omega)) (rs[i.toNat]'(by omega)) = true := not_f e6
          simp only at i2
          rw [e7, Bool.true_and] at i2
          rw [H.succ i0 hi]
          exact ⟨n - 1, by omega, rfl, by omega, by omega, i2⟩
      · have hi : ¬ i < (rs.length : Int) := by simpa using e5
        rw [List.drop_of_length_le (by simp; omega)] at i2
        have e8 : walkB xss rs p = true := by rw [i2]; rfl
        rw [← e8]; exact HK _ f13
theorem k_spec_waGood {S S' : Nat -> Prop} {h : Heap} {g s : Sl} {xss : List (List Int)} {rs : List Int} (G : RdR S h g xss) (H : RdI S' h s rs) (p : Int) : Ret Try.prog 125 #[.agg #[g.v], .agg #[s.v, VI p]] h (VB (walkB xss rs p)) := by
  intro K HK
  refine v125 g s p h K fun b1 b2 h1 hb1 hb2 f1 hL1 => ?_
  have f1 := f1.in_nil
  refine k_spec_grPlace (G.no f1) p _ fun h3 f3 => ⟨_, rfl, hL1.of_no f3, fun e => ?_, fun e => ?_⟩
  · rw [← walkB_no1 (rs := rs) (not_t e)]; exact HK _ (f1.no_trans f3)
  · have f13 := f1.no_trans f3
    rw [G.len, H.len]
    refine ⟨fun e2 => ?_, fun e2 => ?_⟩
    · have e3 := not_t e2
      simp only [decide_eq_false_iff_not] at e3
      rw [← walkB_no2 (g := xss) (rs := rs) (p := p) (by omega)]; exact HK _ f13
    · have e3 := not_f e2
      simp only [decide_eq_true_eq] at e3
      have e4 := walkB_eq (not_f e) (rs := rs) (by omega)
      have G3 := G.no f13
      have H3 := H.no f13
      refine ⟨fun n i h' => h' = h3 /\ 0 ≤ i /\ i + n = (xss.length : Int) /\ walkB xss rs p = ((xss.zip rs).drop i.toNat).all fun q => rotB q.1 q.2, ⟨xss.length, rfl, by omega, by omega, by simpa using e4⟩, ?_⟩
      rintro n i _ ⟨rfl, i0, i1, i2⟩ hL
      refine ⟨fun e5 => ?_, fun e5 => ?_⟩
      · have hi' : i < (xss.length : Int) := by simpa using e5
        have hi : i < (rs.length : Int) := by omega
        obtain ⟨si, c1, c2⟩ := G3.get i0 hi'
        rw [zip_drop xss rs i0 hi' hi, List.all_cons] at i2
        refine ⟨G3.inb i0 hi', si, c1, H3.inb i0 hi, _, H3.get i0 hi, ?_⟩
        rw [len_w64I c2]
        refine k_spec_l1Most _ _ _ _ ⟨_, rfl, hL, H3.get i0 hi, ?_⟩
        rw [Int.max_comm]
        refine k_spec_l1In _ _ _ _ _ ⟨_, rfl, hL, fun e6 => ?_, fun e6 => ?_⟩
        · have e7 : rotB (xss[i.toNat]'(by omega)) (rs[i.toNat]'(by omega)) = false := not_t e6
          simp only at i2
          rw [e7] at i2
          have e8 : walkB xss rs p = false := by rw [i2]; rfl
          rw [← e8]; exact HK _ f13
        · have e7 : rotB (xss[i.toNat]'(by omega)) (rs[i.toNat]'(by omega)) = true := not_f e6
          simp only at i2
          rw [e7, Bool.true_and] at i2
          rw [G.succ i0 hi']
          exact ⟨n - 1, by omega, rfl, by omega, by omega, i2⟩
      · have hi : ¬ i < (xss.length : Int) := by simpa using e5
        rw [List.drop_of_length_le (by simp; omega)] at i2
        have e8 : walkB xss rs p = true := by rw [i2]; rfl
        rw [← e8]; exact HK _ f13
theorem nil_of_none {S : Nat -> Prop} {h : Heap} {s : Sl} {xs : List Int} (H : RdI S h s xs) (hn : s.a = none) : xs = [] := by
  cases xs with
  | nil => rfl
  | cons x xs =>
    obtain ⟨a, ha, _⟩ := RdV.cell H 0 (by simp)
    rw [hn] at ha
    cases ha
theorem k_Clone {S : Nat -> Prop} {h : Heap} {s : Sl} {xs : List Int} (H : RdI S h s xs) (hn : xs.length ≤ 1000000000) (K : Value -> Heap -> Prop) (HK : ∀ t h', OwI h' (Iv h.size h'.size) t xs -> Fr No h h' -> K t.v h') : callM Try.prog 117 #[s.v] h K := by
  refine v117 s h K (pop_isnil rIs _ _ ⟨_, rfl, fun e => ?_, fun e => ?_⟩)
  · have : xs = [] := nil_of_none H (by simpa using e)
    subst this
    exact HK nilSl h (Ow.nil _ _ _ _) (Fr.refl _ _)
  · refine eop_lit rIs (fun k => h.size ≤ k) (fun _ h => h) 0 (by omega) [] rfl rfl fun t h1 n1 c1 o1 f1 l1 _ => ⟨t, rfl, .nil, ?_⟩
    refine eop_append rIs o1 (fun k hk => Nat.le_trans f1.size hk) (H.no f1) (plainVI _) (by have := H.len; omega) fun t' h2 n2 o2 f2 l2 => ⟨t', rfl, .nil, ?_⟩
    exact HK t' h2 (Ow.toIv (by simpa using o2)) (f1.fresh f2 l1)
theorem k_l1Own {S : Nat -> Prop} {h : Heap} {s : Sl} {xs : List Int} (H : RdI S h s xs) (hn : xs.length ≤ 1000000000) (K : Value -> Heap -> Prop) (HK : ∀ t h', OwI h' (Iv h.size h'.size) t xs -> Fr No h h' -> K t.v h') : callM Try.prog 121 #[s.v] h K := by
  refine v121 s h K ?_
  refine eop_lit rIs (fun k => h.size ≤ k) (fun _ h => h) 0 (by omega) [] rfl rfl fun t h1 n1 c1 o1 f1 l1 _ => ⟨t, rfl, .nil, ?_⟩
  refine eop_append rIs o1 (fun k hk => Nat.le_trans f1.size hk) (H.no f1) (plainVI _) (by have := H.len; omega) fun t' h2 n2 o2 f2 l2 => ⟨t', rfl, .nil, ?_⟩
  exact HK t' h2 (Ow.toIv (by simpa using o2)) (f1.fresh f2 l1)
theorem inR_iff {lo hi x : Int} : inR lo hi x = true ↔ lo ≤ x /\ x ≤ hi := by simp [inR]
theorem graph_len {g : List (List Int)} (h : graphB g = true) : 1 ≤ g.length /\ g.length ≤ 8 := by
  unfold graphB at h
  rw [Bool.and_eq_true, inR_iff] at h
  omega
theorem graph_mem {g : List (List Int)} (h : graphB g = true) {l : List Int} (hl : l ∈ g) : l.length ≤ 5 /\ ∀ x, x ∈ l -> 0 ≤ x /\ x < (g.length : Int) := by
  unfold graphB at h
  rw [Bool.and_eq_true] at h
  have := List.all_eq_true.1 h.2 l hl
  rw [Bool.and_eq_true] at this
  obtain ⟨h1, h2⟩ := this
  simp only [Bool.not_eq_true', decide_eq_false_iff_not] at h1
  refine ⟨by omega, fun x hx => ?_⟩
  have := List.all_eq_true.1 h2 x hx
  rw [inR_iff] at this
  omega
theorem getD_get {g : List (List Int)} {i : Nat} (h : i < g.length) : g.getD i [] = g[i] := by simp [List.getD, List.getElem?_eq_getElem h]
theorem tmod_nat {k n : Int} (h0 : 0 ≤ k) (hn : 0 ≤ n) : Int.tmod k n = ((k.toNat % n.toNat : Nat) : Int) := by
  obtain ⟨a, rfl⟩ := Int.eq_ofNat_of_zero_le h0
  obtain ⟨b, rfl⟩ := Int.eq_ofNat_of_zero_le hn
  rfl
abbrev St := List Int × Int
def stepP (g : List (List Int)) (w : St) : Option St :=
  if (g.getD w.2.toNat []).length = 0 then none
  else some (w.1.set w.2.toNat ((((w.1.getD w.2.toNat 0).toNat + 1) % (g.getD w.2.toNat []).length : Nat) : Int), (g.getD w.2.toNat []).getD (((w.1.getD w.2.toNat 0).toNat + 1) % (g.getD w.2.toNat []).length) 0)
structure WOK (g : List (List Int)) (w : St) : Prop where
  graph : graphB g = true
  len : w.1.length = g.length
  lo : 0 ≤ w.2
  hi : w.2 < (g.length : Int)
  rot : ∀ i (h : i < w.1.length) (h' : i < g.length), 0 ≤ w.1[i] /\ w.1[i] ≤ max ((g[i].length : Int) - 1) 0
theorem wok_of {g : List (List Int)} {rs : List Int} {p : Int} (h : walkB g rs p = true) : WOK g (rs, p) := by
  unfold walkB at h
  simp only [Bool.and_eq_true, decide_eq_true_eq] at h
  obtain ⟨⟨⟨h1, h2⟩, h3⟩, h4⟩ := h
  rw [inR_iff] at h2
  refine ⟨h1, h3, h2.1, by simp only; omega, fun i a b => ?_⟩
  have := List.all_eq_true.1 h4 (g[i], rs[i]) (by
    rw [show (g[i], rs[i]) = (g.zip rs)[i]'(by simp only [List.length_zip]; simp only at a; omega) by simp]
    exact List.getElem_mem _)
  unfold rotB at this
  rw [inR_iff] at this
  exact this
theorem stepP_none {g : List (List Int)} {w : St} (W : WOK g w) (hp : w.2.toNat < g.length) : (g[w.2.toNat]).length = 0 -> stepP g w = none := fun h => by
  unfold stepP
  rw [getD_get hp, if_pos h]
theorem getD_getI {xs : List Int} {i : Nat} (h : i < xs.length) : xs.getD i 0 = xs[i] := by simp [List.getD, List.getElem?_eq_getElem h]
theorem stepP_some {g : List (List Int)} {w : St} (W : WOK g w) (hp : w.2.toNat < g.length) (hr : w.2.toNat < w.1.length) (h : (g[w.2.toNat]).length ≠ 0) :
    stepP g w = some (w.1.set w.2.toNat ((((w.1[w.2.toNat]).toNat + 1) % (g[w.2.toNat]).length : Nat) : Int), (g[w.2.toNat])[((w.1[w.2.toNat]).toNat + 1) % (g[w.2.toNat]).length]'(Nat.mod_lt _ (by omega))) := by
  unfold stepP
  rw [getD_get hp, if_neg h, getD_getI hr, getD_getI (Nat.mod_lt _ (by omega))]
theorem WOK.step {g : List (List Int)} {w w' : St} (W : WOK g w) (h : stepP g w = some w') : WOK g w' := by
  have hp : w.2.toNat < g.length := by have := W.hi; have := W.lo; omega
  have hr : w.2.toNat < w.1.length := by rw [W.len]; exact hp
  by_cases h0 : (g[w.2.toNat]).length = 0
  · rw [stepP_none W hp h0] at h; cases h
  · rw [stepP_some W hp hr h0] at h
    have hm := Nat.mod_lt ((w.1[w.2.toNat]).toNat + 1) (show 0 < (g[w.2.toNat]).length by omega)
    simp only [Option.some.injEq] at h
    subst h
    have hmem := (graph_mem W.graph (List.getElem_mem hp)).2 _ (List.getElem_mem hm)
    refine ⟨W.graph, by simpa using W.len, hmem.1, hmem.2, fun i a b => ?_⟩
    simp only [List.length_set] at a
    simp only [List.getElem_set]
    split
    · rename_i e
      subst e
      omega
    · exact W.rot i a b
theorem k_stepF {F S : Nat -> Prop} {b : Nat} {h : Heap} {g w : Sl} {xss : List (List Int)} {s : St} (G : RdR S h g xss) (V : IsVar h b [w.v, VI s.2]) (H : OwI h F w s.1) (hS : ∀ k, S k -> ¬ F k) (hFb : F b) (hbw : ¬ w.own b) (W : WOK xss s) (K : Value -> Heap -> Prop)
    (HN : stepP xss s = none -> ∀ h', Fr No h h' -> K (VB false) h') (HS : ∀ s', stepP xss s = some s' -> ∀ h', OwI h' F w s'.1 -> IsVar h' b [w.v, VI s'.2] -> Fr F h h' -> K (VB true) h') :
    callM Try.prog 124 #[.agg #[g.v], VP b 0] h K := by
  have hp : s.2.toNat < xss.length := by have := W.hi; have := W.lo; omega
  have hr : s.2.toNat < s.1.length := by rw [W.len]; exact hp
  have hlo := W.lo
  refine v124 g b w s.2 h K (.cons V (by simp) .nil) ⟨G.inb W.lo W.hi, fun b2 h1 hb2 f1 hL1 => ?_⟩
  have f1 := f1.in_nil
  obtain ⟨si, c1, c2⟩ := (G.no f1).get W.lo W.hi
  have H1 := Ow.no H f1
  have hn1 : w.n = s.1.length := RdI.len H.rdF
  refine ⟨si, c1, fun e => ?_, fun e => ?_⟩
  · simp only [decide_eq_true_eq] at e
    exact HN (stepP_none W hp (by have := c2.len; omega)) h1 f1
  · simp only [decide_eq_false_iff_not] at e
    have h0 : (xss[s.2.toNat]'hp).length ≠ 0 := by have := c2.len; omega
    have hst := stepP_some W hp hr h0
    have hm := Nat.mod_lt ((s.1[s.2.toNat]'hr).toNat + 1) (show 0 < (xss[s.2.toNat]'hp).length by omega)
    have hrot := W.rot _ hr hp
    have hbig := (graph_mem W.graph (List.getElem_mem hp)).1
    have hw : w64 (s.1[s.2.toNat]'hr + 1) = s.1[s.2.toNat]'hr + 1 := w64_eq _ (by omega) (by omega)
    have hm2 : Int.tmod (s.1[s.2.toNat]'hr + 1) (si.n : Int) = ((((s.1[s.2.toNat]'hr).toNat + 1) % (xss[s.2.toNat]'hp).length : Nat) : Int) := by
      rw [tmod_nat (by omega) (by omega), c2.len]
      congr 2
      omega
    have R1 : RdI F h1 w s.1 := H1.rdF
    refine ⟨R1.inb hlo (by omega), _, R1.get hlo (by omega), by omega, R1.inb hlo (by omega), ?_⟩
    rw [hw, hm2]
    obtain ⟨w1, w2, w3⟩ := H1.store1 hlo (by omega) (VI ((((s.1[s.2.toNat]'hr).toNat + 1) % (xss[s.2.toNat]'hp).length : Nat) : Int))
    have w3' : Fr F h1 _ := w3.mono fun k _ hk => (H1.foot hk).1
    have hbl := V.lt
    have hL2 := hL1.fr w3 fun p hp => by
      simp only [List.mem_cons, List.not_mem_nil, or_false] at hp
      rcases hp with rfl | rfl
      · exact fun hk => by have := (H.foot hk).2; simp only at this; omega
      · exact hbw
    refine ⟨w1, hL2, fun h2 e2 _ => ?_⟩
    subst e2
    rw [← List.map_set] at w2
    have R2 : RdI F _ w _ := w2.rdF
    have c2' := RdI.fr c2 w3' hS
    have hv : hcell (hset h1 (w.at s.2 1) (VI ((((s.1[s.2.toNat]'hr).toNat + 1) % (xss[s.2.toNat]'hp).length : Nat) : Int))) (w.at s.2 1) = some (VI ((((s.1[s.2.toNat]'hr).toNat + 1) % (xss[s.2.toNat]'hp).length : Nat) : Int)) := by
      have := R2.get (i := s.2) hlo (by simp; omega)
      simpa using this
    have hq := c2'.get (i := ((((s.1[s.2.toNat]'hr).toNat + 1) % (xss[s.2.toNat]'hp).length : Nat) : Int)) (by omega) (by omega)
    simp only [Int.toNat_natCast] at hq
    refine ⟨R2.inb hlo (by simp; omega), _, hv, c2'.inb (by omega) (by omega), _, hq, fun h3 f3 hL3 => ?_⟩
    have f3' : Fr F _ h3 := f3.mono fun k _ hk => by simp only [In, List.mem_cons, List.not_mem_nil, or_false] at hk; subst hk; exact hFb
    refine HS _ hst h3 ?_ ?_ ((f1.of_no.trans w3').trans f3')
    · exact Ow.fr w2 f3 fun k hk hk2 => by
        simp only [In, List.mem_cons, List.not_mem_nil, or_false] at hk2
        subst hk2
        exact hbw hk
    · exact hL3.tail.head
structure Rn where
  s : St
  ps : List Int
  vs : List Int
  us : List (List Int)
def bump (l : List Int) (i : Nat) : List Int := l.set i (l.getD i 0 + 1)
structure RnOK (g : List (List Int)) (m : Nat) (r : Rn) : Prop where
  w : WOK g r.s
  ps : r.ps.length = m + 1
  vs : r.vs.length = g.length
  us : r.us.length = g.length
  row : ∀ i (h : i < r.us.length) (h' : i < g.length), r.us[i].length = g[i].length
  vb : ∀ x, x ∈ r.vs -> 0 ≤ x /\ x ≤ m
  ub : ∀ l, l ∈ r.us -> ∀ x, x ∈ l -> 0 ≤ x /\ x ≤ m
theorem bump_length (l : List Int) (i : Nat) : (bump l i).length = l.length := by simp [bump]
theorem bump_mem {l : List Int} {i m : Nat} (h : ∀ x, x ∈ l -> 0 ≤ x /\ x ≤ (m : Int)) : ∀ x, x ∈ bump l i -> 0 ≤ x /\ x ≤ ((m + 1 : Nat) : Int) := by
  intro x hx
  unfold bump at hx
  rcases List.mem_or_eq_of_mem_set hx with hx | rfl
  · have := h x hx; omega
  · by_cases hi : i < l.length
    · rw [getD_getI hi]
      have := h _ (List.getElem_mem hi)
      omega
    · rw [show l.getD i 0 = 0 by simp [List.getD, List.getElem?_eq_none (by omega : l.length ≤ i)]]
      omega
theorem RnOK.step {g : List (List Int)} {m : Nat} {r : Rn} (R : RnOK g m r) {s' : St} (hs : stepP g r.s = some s') : RnOK g (m + 1) ⟨s', r.ps ++ [s'.2], bump r.vs s'.2.toNat, r.us.set r.s.2.toNat (bump (r.us.getD r.s.2.toNat []) (s'.1.getD r.s.2.toNat 0).toNat)⟩ := by
  have hp : r.s.2.toNat < r.us.length := by rw [R.us]; have := R.w.hi; have := R.w.lo; omega
  refine ⟨R.w.step hs, by simp [R.ps], by simp [bump_length, R.vs], by simp [R.us], fun i a b => ?_, bump_mem R.vb, fun l hl => ?_⟩
  · simp only [List.length_set] at a
    simp only [List.getElem_set]
    split
    · rename_i e
      subst e
      rw [bump_length, getD_get hp]
      exact R.row _ a b
    · exact R.row i a b
  · rcases List.mem_or_eq_of_mem_set hl with hl | rfl
    · exact fun x hx => by have := R.ub l hl x hx; omega
    · rw [getD_get hp]
      exact bump_mem (R.ub _ (List.getElem_mem hp))
theorem eop_putI {L : List (Nat × List Value)} {F : Nat -> Prop} {h : Heap} {o : Sl} {xs : List Int} {x : Int} (O : OwI h F o xs) (hF : ∀ k, h.size ≤ k -> F k) (hL : Vars h L) (hoff : ∀ p, p ∈ L -> ¬ F p.1) (hb : xs.length ≤ 1000000) (R : Sl -> Heap -> Prop) (HR : ∀ t h', OwI h' F t (xs ++ [x]) -> Fr F h h' -> Vars h' L -> R t h') : eop Try.prog (Instr.buildSlice tIs 1 #[(0, VI x)]) h fun rv h1 => ∃ t : Sl, rv = t.v /\ Vars h1 L /\ eop Try.prog (appS tIs tIs tIs o.v t.v) h1 fun rv2 h2 => ∃ t2 : Sl, rv2 = t2.v /\ Vars h2 L /\ R t2 h2 := by
  refine eop_lit rIs (fun k => h.size ≤ k) (fun _ h => h) 1 (by omega) [VI x] rfl rfl fun t h1 n1 c1 o1 f1 m1 _ => ⟨t, rfl, hL.of_no f1, ?_⟩
  have z1 := f1.size
  have O1 : OwI h1 F o xs := Ow.no O f1
  have on := O1.rd.len
  have tn := o1.rd.len
  simp only [List.length_map, Nat.mul_one, List.length_cons, List.length_nil] at on tn
  refine eop_append rIs O1 (fun k hk => hF k (by omega)) o1.rd (plainVI [x]) (by omega) fun s' h2 n2 o2 f2 d2 => ?_
  have g2 : Fr F h1 h2 := f2.mono fun k _ hk => (O1.foot hk).1
  have V2 : Vars h2 L := (hL.of_no f1).fr g2 hoff
  exact ⟨s', rfl, V2, HR s' h2 (by rw [OwI, List.map_append]; exact o2) (f1.of_no.trans g2) V2⟩
theorem k_IndexI {S : Nat -> Prop} {h : Heap} {s : Sl} {xs : List Int} (H : RdI S h s xs) (v : Int) (K : Value -> Heap -> Prop) (HN : v ∉ xs -> K (VI (-1)) h) (HS : ∀ i : Nat, i < xs.length -> xs.getD i 0 = v -> (∀ j, j < i -> xs.getD j 0 ≠ v) -> K (VI i) h) : callM Try.prog 116 #[s.v, VI v] h K := by
  refine v116 s v h K ⟨fun n i h' => h' = h /\ 0 ≤ i /\ i + n = (xs.length : Int) /\ ∀ j : Nat, (j : Int) < i -> xs.getD j 0 ≠ v, ⟨xs.length, rfl, by omega, by omega, fun j hj => by omega⟩, ?_⟩
  rintro n i _ ⟨rfl, i0, i1, i2⟩ hL
  refine ⟨fun e => ?_, fun e => ?_⟩
  · have hi := H.lt e
    refine ⟨H.inb i0 hi, _, H.get i0 hi, fun e => ?_, fun e => ?_⟩
    · simp only [decide_eq_true_eq] at e
      have := HS i.toNat (by omega) (by rw [getD_getI (by omega)]; exact e.symm) fun j hj => i2 j (by omega)
      rwa [show ((i.toNat : Nat) : Int) = i by omega] at this
    · simp only [decide_eq_false_iff_not] at e
      rw [H.succ i0 hi]
      refine ⟨n - 1, by omega, rfl, by omega, by omega, fun j hj => ?_⟩
      by_cases hj2 : (j : Int) < i
      · exact i2 j hj2
      · have : j = i.toNat := by omega
        subst this
        rw [getD_getI (by omega)]
        exact fun h => e h.symm
  · have hi := H.ge e
    refine HN fun hm => ?_
    obtain ⟨j, hj, e2⟩ := List.getElem_of_mem hm
    exact i2 j (by omega) (by rw [getD_getI hj]; exact e2)
section
variable {g : List (List Int)} {rs : List Int} {a : Int}
end
theorem pop_and {P : Program} {t : TypeId} {K : Value -> Prop} (k : IntKind) (a b : Int) (H : K (.int k (bits .and k a b))) : pop P (binA .and t (.int k a) (.int k b)) K :=
  .mk' (fun w => by simp [binA, eqGuard, binOp, intBits_and, bind, Sem.bind, pure, Sem.run]) H
theorem pop_shr {P : Program} {t : TypeId} {K : Value -> Prop} (k : IntKind) (a b : Int) (hb : 0 ≤ b) (H : K (.int k (a.fdiv (2 ^ (min b.toNat k.bits))))) : pop P (binA .shr t (.int k a) (.int k b)) K :=
  .mk' (fun w => by simp [binA, eqGuard, binOp, Op.shift, show ¬ b < 0 by omega, bind, Sem.bind, pure, Sem.run]) H
theorem rop_conv {P : Program} {src dst : TypeId} {k k' : IntKind} (hs : P.underlying src = some (.int k)) (hd : P.underlying dst = some (.int k')) {h : Heap} {K : Value -> Prop} (n : Int) (H : K (.int k' (k'.wrap n))) : rop P (convert src dst (.int k n)) h K := by
  have hk : P.intKind dst = k' := by simp [Program.intKind, hd]
  refine ⟨_, fun w hw => run_convert_int w src dst k n (by simp [hs]) (by rw [hk]; exact hd), ?_⟩
  rw [hk]
  exact H
theorem cut_zero {s : Sl} (h : s.n ≤ s.c) : s.cut 1 0 s.n s.c = s := by
  obtain ⟨a, n, c⟩ := s
  unfold Sl.cut
  cases a with
  | none => simp
  | some a => simp [at_add0]
theorem eop_copy {P : Program} {t t2 e ty : TypeId} {bs : Nat} {z : List Value} (T : rowC P t = some (e, 1, bs, z)) {h : Heap} {F S : Nat -> Prop} {s x : Sl} {vs us : List Value} (H : Ow h F e 1 s vs) (X : RdV S h 1 x us) (hp : us.all plainV = true) (l m : Nat) (hl : l ≤ s.n) (hm : m = min x.n (s.n - l))
    {K : Value -> Heap -> Prop} (HK : ∀ h', Ow h' F e 1 s (vs.take l ++ us.take m ++ vs.drop (l + m)) -> Fr s.own h h' -> K (VI m) h') : eop P (Builtin.copy_ #[t, t2] ty #[(s.cut 1 l s.n s.c).v, x.v]) h K := by
  obtain ⟨hu, i, zv, hi, hsz, rfl, hz, hzc, hzl, _, hbs, hb64, hsz8⟩ := rowC_spec T
  refine ⟨fun w hw => ?_⟩
  subst hw
  have hs1 : (P.info? e).map (·.size) = some 1 := by rw [hi]; simp [hsz]
  have hvl := H.len
  have hul := X.len
  by_cases h0 : m = 0
  · subst h0
    have hr := run_copy_none (P := P) w t t2 ty e (s.cut 1 l s.n s.c).a x.a (s.cut 1 l s.n s.c).n (s.cut 1 l s.n s.c).c x.n x.c hu hs1 (by simp only [Sl.cut]; exact hm.symm)
    refine ⟨_, w, hr, Same.refl w, HK w.heap ?_ (Fr.refl _ _)⟩
    simpa using H
  · rcases H.out with ⟨rfl, rfl⟩ | ⟨g, o, cur, ha, hF, hg, h1, h2, h3, h4⟩
    · simp [nilSl] at hm; omega
    · obtain ⟨a, hxa, _, _⟩ := X.cell 0 (by omega)
      have hcl : s.c ≠ l := by omega
      have hda : (s.cut 1 l s.n s.c).a = some ⟨g, o + l, none⟩ := by simp [Sl.cut, hcl, ha, add_mk]
      have hr := run_copy_row (P := P) w t t2 ty e g (o + l) (s.n - l) (s.c - l) a x.n x.c cur e (us.take m) hu hs1 hg (by rw [List.length_take, hm]; simp only [Nat.min_def]; split <;> split <;> omega) (fun j v hj => by
        obtain ⟨hjl, rfl⟩ := List.getElem?_eq_some_iff.1 hj
        have hjl2 : j < us.length := by simp at hjl; omega
        obtain ⟨a', ha', _, hc⟩ := X.cell j hjl2
        rw [hxa] at ha'
        obtain rfl : a = a' := by simpa using ha'
        simp only [List.getElem_take]
        exact hc) (by simp; omega) (fun u hu => by
        have := List.all_eq_true.1 hp u (List.mem_of_mem_take hu)
        cases u <;> simp [plainV] at this <;> rfl)
      have hml : (us.take m).length = m := by simp; omega
      rw [hml] at hr
      have hv : (s.cut 1 l s.n s.c).v = .slice (some ⟨g, o + l, none⟩) (s.n - l) (s.c - l) := by simp only [Sl.v, hda]; rfl
      have hxv : x.v = .slice (some a) x.n x.c := by simp only [Sl.v, hxa]
      rw [← hv, ← hxv] at hr
      refine ⟨_, _, hr, ⟨rfl, rfl, rfl⟩, HK _ ⟨?_, .inr ⟨g, o, _, ha, hF, setRow_heap w g cur _ e _ hg, h1, h2, ?_, ?_⟩⟩ ⟨by simp [World.setRow], fun k _ hk => setRow_other w g k _ (fun e => hk (by simp [Sl.own, ha, e]))⟩⟩
      · simp; omega
      · simp; omega
      · have hol : (cur.toList.take (o + l)).length = o + l := by simp; omega
        simp only [Nat.mul_one] at h4 hvl ⊢
        have e1 : (cur.toList.take (o + l) ++ us.take m ++ cur.toList.drop (o + l + m)).drop o = vs.take l ++ us.take m ++ cur.toList.drop (o + l + m) := by
          rw [List.append_assoc, List.drop_append_of_le_length (by omega), List.drop_take, show o + l - o = l by omega, ← h4, List.take_take, Nat.min_eq_left hl, List.append_assoc]
        (try simp only [List.toList_toArray])
        rw [e1, List.take_append, List.take_of_length_le (by simp; omega)]
        congr 1
        have e2 : (vs.take l ++ us.take m).length = l + m := by simp; omega
        rw [e2, ← h4, List.drop_take, List.drop_drop, Nat.add_assoc]
theorem eop_copy0 {P : Program} {t t2 e ty : TypeId} {bs : Nat} {z : List Value} (T : rowC P t = some (e, 1, bs, z)) {h : Heap} {F S : Nat -> Prop} {s x : Sl} {vs us : List Value} (H : Ow h F e 1 s vs) (X : RdV S h 1 x us) (hp : us.all plainV = true) (m : Nat) (hm : m = min x.n s.n)
    {K : Value -> Heap -> Prop} (HK : ∀ h', Ow h' F e 1 s (us.take m ++ vs.drop m) -> Fr s.own h h' -> K (VI m) h') : eop P (Builtin.copy_ #[t, t2] ty #[s.v, x.v]) h K := by
  have := eop_copy (t2 := t2) (ty := ty) T H X hp 0 m (by omega) (by simpa using hm) (K := K) fun h' o f => HK h' (by simpa using o) f
  rw [cut_zero H.cap.1] at this
  exact this
theorem mul_small (a n : Int) (ha : a = 1) (h0 : 0 ≤ n) (h1 : n ≤ 8) : bits .and .u64 a 4294967295 = 1 /\ bits .and .u64 n 4294967295 = n /\ bits .and .u64 0 4294967295 = 0 := by
  subst ha
  refine ⟨by decide, ?_, by decide⟩
  have : n = 0 ∨ n = 1 ∨ n = 2 ∨ n = 3 ∨ n = 4 ∨ n = 5 ∨ n = 6 ∨ n = 7 ∨ n = 8 := by omega
  rcases this with rfl | rfl | rfl | rfl | rfl | rfl | rfl | rfl | rfl <;> decide
theorem u64_small {n : Int} (h0 : 0 ≤ n) (h1 : n < 18446744073709551616) : IntKind.u64.wrap n = n := by
  simp only [IntKind.wrap, IntKind.bits, IntKind.signed]
  simp
  omega
theorem fdiv_small {n : Int} (h0 : 0 ≤ n) (h1 : n < 4294967296) : n.fdiv (2 ^ (min (32 : Int).toNat IntKind.u64.bits)) = 0 := by
  have e : (2 : Int) ^ (min (32 : Int).toNat IntKind.u64.bits) = 4294967296 := by decide
  rw [e, Int.fdiv_eq_ediv_of_nonneg _ (by omega)]
  omega
theorem k_Mul64 (n : Int) (h0 : 0 ≤ n) (h1 : n ≤ 8) (h : Heap) (K : Value -> Heap -> Prop) (HK : K (.tuple #[.int .u64 0, .int .u64 n]) h) : callM Try.prog 143 #[.int .u64 1, .int .u64 n] h K := by
  obtain ⟨m1, m2, m3⟩ := mul_small 1 n rfl h0 h1
  refine v143 1 n h K (pop_and _ _ _ ⟨1, by rw [m1], pop_shr _ _ _ (by omega) ⟨0, by rw [fdiv_small (by omega) (by omega)], pop_and _ _ _ ⟨n, by rw [m2], pop_shr _ _ _ (by omega) ⟨0, by rw [fdiv_small (by omega) (by omega)], ?_⟩⟩⟩⟩)
  have u0 : IntKind.u64.wrap 0 = 0 := u64_small (by omega) (by omega)
  have un : IntKind.u64.wrap n = n := u64_small h0 (by omega)
  simp only [Int.one_mul, Int.zero_mul, Int.mul_zero, Int.zero_add, Int.add_zero, u0, un]
  refine pop_shr _ _ _ (by omega) ⟨0, by rw [fdiv_small (by omega) (by omega)], ?_⟩
  simp only [Int.one_mul, Int.zero_mul, Int.mul_zero, Int.zero_add, Int.add_zero, u0, un]
  refine pop_and _ _ _ ⟨0, by rw [m3], pop_shr _ _ _ (by omega) ⟨0, by rw [fdiv_small (by omega) (by omega)], ?_⟩⟩
  simp only [Int.one_mul, Int.zero_mul, Int.mul_zero, Int.zero_add, Int.add_zero, u0, un]
  refine pop_shr _ _ _ (by omega) ⟨0, by rw [fdiv_small (by omega) (by omega)], ?_⟩
  simp only [Int.one_mul, Int.zero_mul, Int.mul_zero, Int.zero_add, Int.add_zero, u0, un]
  exact HK
theorem k_Mul (n : Int) (h0 : 0 ≤ n) (h1 : n ≤ 8) (h : Heap) (K : Value -> Heap -> Prop) (HK : K (.tuple #[.int .u64 0, .int .u64 n]) h) : callM Try.prog 141 #[.int .u64 1, .int .u64 n] h K :=
  v141 1 n h K (k_Mul64 n h0 h1 h _ ⟨_, _, rfl, .nil, HK⟩)
theorem k_Repeat {S : Nat -> Prop} {h : Heap} {x : Sl} (v : Int) (X : RdI S h x [v]) (n : Nat) (h1 : 1 ≤ n) (h8 : n ≤ 8) (K : Value -> Heap -> Prop) (HK : ∀ t h', OwI h' (Iv h.size h'.size) t (List.replicate n v) -> Fr No h h' -> K t.v h') : callM Try.prog 137 #[x.v, VI n] h K := by
  have hx1 : x.n = 1 := by have := X.len; simpa using this
  refine v137 x n h K ⟨fun h' => h' = h, ⟨fun e => by simp only [decide_eq_true_eq] at e; omega, fun _ => rfl⟩, ?_⟩
  rintro _ rfl _
  refine rop_conv (k := .i64) (k' := .u64) (show Try.prog.underlying 3 = some (.int .i64) from by kernel_rfl) (show Try.prog.underlying 132 = some (.int .u64) from by kernel_rfl) _ ⟨1, by rw [hx1]; rfl, rop_conv (k := .i64) (k' := .u64) (show Try.prog.underlying 3 = some (.int .i64) from by kernel_rfl) (show Try.prog.underlying 132 = some (.int .u64) from by kernel_rfl) _ ⟨n, by rw [u64_small (by omega) (by omega)], ?_⟩⟩
  refine k_Mul n (by omega) (by omega) _ _ ⟨_, _, rfl, .nil, ⟨fun h' => h' = _, ⟨fun e => by simp at e, fun _ => ⟨fun e => by simp only [decide_eq_true_eq] at e; omega, fun _ => rfl⟩⟩, ?_⟩⟩
  rintro _ rfl _
  refine rop_conv (k := .u64) (k' := .i64) (show Try.prog.underlying 132 = some (.int .u64) from by kernel_rfl) (show Try.prog.underlying 3 = some (.int .i64) from by kernel_rfl) _ ⟨n, by rw [show IntKind.i64.wrap (n : Int) = n from w64_eq n (by omega) (by omega)], ?_⟩
  refine eop_make rIs (fun k => _ ≤ k) (fun _ h => h) .i64 .i64 n n (Nat.le_refl _) (by omega) fun t h1' n1 c1 o1 f1 m1 _ => ⟨t, rfl, .nil, ?_⟩
  have e1 : (List.replicate n [VI 0]).flatten = (List.replicate n (0 : Int)).map VI := by simp [List.flatten_replicate_singleton]
  rw [e1] at o1
  have r1 := RdI.no X f1
  have z1 := f1.size
  refine eop_copy0 (P := Try.prog) rIs o1 r1 (plainVI _) 1 (by omega) fun h2 o2 f2 => ⟨1, rfl, .nil, ?_⟩
  have e2 : ([v].map VI).take 1 ++ ((List.replicate n (0 : Int)).map VI).drop 1 = (List.replicate 1 v ++ List.replicate (n - 1) 0).map VI := by simp
  rw [e2] at o2
  refine ⟨fun q m h' => ∃ m' : Nat, m = m' /\ 1 ≤ m' /\ m' ≤ n /\ q = n - m' /\ OwI h' (fun k => _ ≤ k) t (List.replicate m' v ++ List.replicate (n - m') 0) /\ Fr t.own h1' h', ⟨n - 1, 1, rfl, Nat.le_refl _, h1, rfl, o2, f2⟩, ?_⟩
  rintro q m h3 ⟨m, rfl, q1, q2, rfl, o3, f3⟩ hL
  refine ⟨fun e => ?_, fun e => ?_⟩
  · simp only [decide_eq_true_eq] at e
    have htn : t.n = n := n1
    refine pop_cut_l rIs .i64 (by omega) (by omega) ⟨_, rfl, pop_cut_h rIs .i64 (by omega) (by omega) ⟨_, rfl, ?_⟩⟩
    simp only [Int.toNat_natCast]
    have r3 : RdI t.own h3 t _ := o3.rd
    have rb := RdI.cut r3 (l := 0) (m := m) (by omega) (by simp; try omega)
    rw [List.drop_zero, Nat.sub_zero, List.take_left' (by simp)] at rb
    refine eop_copy (P := Try.prog) rIs o3 rb (plainVI _) m (min m (n - m)) (by omega) (by simp [Sl.cut, htn]) fun h4 o4 f4 => ⟨_, rfl, .nil, ?_⟩
    have e4 : ((List.replicate m v ++ List.replicate (n - m) 0).map VI).take m ++ ((List.replicate m v).map VI).take (min m (n - m)) ++ ((List.replicate m v ++ List.replicate (n - m) 0).map VI).drop (m + min m (n - m)) = (List.replicate (m + min m (n - m)) v ++ List.replicate (n - (m + min m (n - m))) 0).map VI := by
      rw [← List.map_take, ← List.map_take, ← List.map_drop, ← List.map_append, ← List.map_append]
      congr 1
      rw [List.take_left' (by simp), List.take_replicate, List.drop_append, List.drop_of_length_le (by simp), List.nil_append, List.length_replicate, List.drop_replicate, List.replicate_append_replicate]
      congr 2
      · omega
      · omega
    rw [e4] at o4
    rw [w64_eq _ (by omega) (by omega)]
    exact ⟨n - (m + min m (n - m)), by omega, m + min m (n - m), by omega, by omega, by omega, rfl, o4, f3.trans f4⟩
  · simp only [decide_eq_false_iff_not] at e
    have htn : t.n = n := n1
    obtain rfl : m = n := by omega
    rw [Nat.sub_self, List.replicate_zero, List.append_nil] at o3
    exact HK t h3 (Ow.toIv o3) (f1.fresh f3 m1)
def bfsIn (x : Int) : List Int -> List Int × List Int -> List Int × List Int
  | [], s => s
  | q :: qs, s => bfsIn x qs (if s.1.getD q.toNat 0 < 0 then (s.1.set q.toNat (s.1.getD x.toNat 0 + 1), s.2 ++ [q]) else s)
def bfsP (g : List (List Int)) : Nat -> List Int -> List Int -> List Int
  | 0, far, _ => far
  | _ + 1, far, [] => far
  | f + 1, far, x :: rest => bfsP g f (bfsIn x (g.getD x.toNat []) (far, [])).1 (rest ++ (bfsIn x (g.getD x.toNat []) (far, [])).2)
def farP (g : List (List Int)) (p : Int) : List Int := bfsP g g.length ((List.replicate g.length (-1)).set p.toNat 0) [p]
def negs (l : List Int) : Nat := (l.filter fun x => decide (x < 0)).length
theorem negs_set {l : List Int} {i : Nat} {v : Int} (h : i < l.length) (h1 : l[i] < 0) (h2 : 0 ≤ v) : negs (l.set i v) + 1 = negs l := by
  induction l generalizing i with
  | nil => simp at h
  | cons x xs ih =>
    cases i with
    | zero =>
      simp only [List.getElem_cons_zero] at h1
      simp only [negs, List.set_cons_zero, List.filter_cons, show ¬ v < 0 by omega, h1, decide_true, decide_false, if_true, Bool.false_eq_true, if_false, List.length_cons]
    | succ i =>
      have := ih (by simpa using h) (by simpa using h1)
      simp only [negs, List.set_cons_succ, List.filter_cons] at this ⊢
      split <;> (try simp only [List.length_cons]) <;> simp_all <;> omega
structure BOK (n : Nat) (far : List Int) : Prop where
  len : far.length = n
  lo : ∀ v, v ∈ far -> -1 ≤ v
  hi : ∀ v, v ∈ far -> v + negs far ≤ n
theorem BOK.step {n : Nat} {far : List Int} (B : BOK n far) {x q : Int} (hx : x.toNat < n) (hq : q.toNat < n) (hn : far.getD q.toNat 0 < 0) : BOK n (far.set q.toNat (far.getD x.toNat 0 + 1)) /\ negs (far.set q.toNat (far.getD x.toNat 0 + 1)) + 1 = negs far := by
  have hl := B.len
  rw [getD_getI (by omega)] at hn
  rw [getD_getI (show x.toNat < far.length by omega)]
  have h1 := B.lo _ (List.getElem_mem (show x.toNat < far.length by omega))
  have h2 := B.hi _ (List.getElem_mem (show x.toNat < far.length by omega))
  have h3 := negs_set (show q.toNat < far.length by omega) hn (v := far[x.toNat]'(by omega) + 1) (by omega)
  refine ⟨⟨by simp [hl], fun v hv => ?_, fun v hv => ?_⟩, h3⟩
  · rcases List.mem_or_eq_of_mem_set hv with hv | rfl
    · exact B.lo v hv
    · omega
  · rcases List.mem_or_eq_of_mem_set hv with hv | rfl
    · have := B.hi v hv; omega
    · omega
theorem bok0 {n p : Nat} (hp : p < n) : BOK n ((List.replicate n (-1)).set p 0) /\ negs ((List.replicate n (-1)).set p 0) + 1 = n := by
  have h1 : negs (List.replicate n (-1)) = n := by
    unfold negs
    rw [List.filter_replicate_of_pos (by decide)]
    simp
  have h2 := negs_set (l := List.replicate n (-1)) (i := p) (v := 0) (by simpa using hp) (by simp) (by omega)
  refine ⟨⟨by simp, fun v hv => ?_, fun v hv => ?_⟩, by omega⟩
  · rcases List.mem_or_eq_of_mem_set hv with hv | rfl
    · simp only [List.mem_replicate] at hv; omega
    · omega
  · rcases List.mem_or_eq_of_mem_set hv with hv | rfl
    · simp only [List.mem_replicate] at hv; omega
    · omega
theorem gq_mem {g : List (List Int)} (hg : graphB g = true) {x : Nat} (hx : x < g.length) {i : Nat} (hi : i < (g[x]).length) : 0 ≤ (g[x])[i] /\ (g[x])[i] < (g.length : Int) := (graph_mem hg (List.getElem_mem hx)).2 _ (List.getElem_mem hi)
theorem k_grFar {S : Nat -> Prop} {h : Heap} {g : Sl} {xss : List (List Int)} (G : RdR S h g xss) (hg : graphB xss = true) {p : Int} (h0 : 0 ≤ p) (h1 : p < (xss.length : Int)) (K : Value -> Heap -> Prop) (HK : ∀ t h', OwI h' (Iv h.size h'.size) t (farP xss p) -> (farP xss p).length = xss.length -> Fr No h h' -> K t.v h') : callM Try.prog 115 #[.agg #[g.v], VI p] h K := by
  refine v115 g p h K fun b1 h2 hb1 f2 hL2 => ?_
  generalize hR : farP xss p = R at HK
  have f2 := f2.in_nil
  have l1 : b1 < h2.size := hL2.head.lt
  have z2 := f2.size
  have hgl := graph_len hg
  refine eop_make rIs (fun k => h2.size ≤ k) (fun _ h => h) .i64 .i64 g.n g.n (Nat.le_refl _) (by rw [G.len]; omega) fun t h3 n3 c3 o3 f3 m3 _ => ⟨t, rfl, hL2.of_no f3, ?_⟩
  have o3 : OwI h3 (Iv h2.size h3.size) t (List.replicate xss.length 0) := by
    have e : (List.replicate g.n [VI 0]).flatten = (List.replicate xss.length (0 : Int)).map VI := by rw [G.len]; simp [List.flatten_replicate_singleton]
    rw [e] at o3; exact Ow.toIv o3
  have z3 := f3.size
  have f03 := f2.no_trans f3
  have htn : t.n = xss.length := by rw [n3, G.len]
  have hL3 := hL2.of_no f3
  refine ⟨fun n i h' => 0 ≤ i /\ i + n = (xss.length : Int) /\ OwI h' (Iv h2.size h3.size) t (List.replicate i.toNat (-1) ++ List.replicate n 0) /\ Fr (Iv h2.size h3.size) h3 h', ⟨xss.length, by omega, by omega, by simpa using o3, Fr.refl _ _⟩, ?_⟩
  rintro n i h4 ⟨i0, i1, o4, f4⟩ hL4
  refine ⟨fun e => ?_, fun e => ?_⟩
  · simp only [decide_eq_true_eq] at e
    obtain ⟨w1, w2, w3⟩ := o4.store1 i0 (by omega) (VI (-1))
    have w3' : Fr (Iv h2.size h3.size) h4 _ := w3.mono fun _ _ hk => (o4.foot hk).1
    have hL5 := hL4.iv w3' ⟨.inl l1, trivial⟩
    refine ⟨o4.inb i0 (by omega), w1, hL5, fun h5 e5 _ => ?_⟩
    subst e5
    rw [w64_eq _ (by omega) (by omega)]
    refine ⟨n - 1, by omega, by omega, by omega, ?_, f4.trans w3'⟩
    rw [← List.map_set] at w2
    have e6 : (List.replicate i.toNat (-1 : Int) ++ List.replicate n 0).set i.toNat (-1) = List.replicate (i + 1).toNat (-1) ++ List.replicate (n - 1) 0 := by
      rw [List.set_append_right _ _ (by simp), List.length_replicate, Nat.sub_self, toNat_succ i0, List.replicate_succ', List.append_assoc]
      obtain ⟨m, rfl⟩ : ∃ m, n = m + 1 := ⟨n - 1, by omega⟩
      simp [List.replicate_succ]
    rw [e6] at w2
    exact w2
  simp only [decide_eq_false_iff_not] at e
  obtain rfl : n = 0 := by omega
  have ei : i.toNat = xss.length := by omega
  rw [ei, List.replicate_zero, List.append_nil] at o4
  obtain ⟨w1, w2, w3⟩ := o4.store1 h0 (by omega) (VI 0)
  have w3' : Fr (Iv h2.size h3.size) h4 _ := w3.mono fun _ _ hk => (o4.foot hk).1
  have hL5 := hL4.iv w3' ⟨.inl l1, trivial⟩
  refine ⟨o4.inb h0 (by omega), w1, hL5, fun h5 e5 _ => ?_⟩
  subst e5
  rw [← List.map_set] at w2
  have f05 : Fr No h _ := (f03.ivFresh f4 (by omega)).ivFresh w3' (by omega)
  have z4 := f4.size
  have z5 := w3'.size
  refine eop_lit rIs (fun k => _ ≤ k) (fun _ h => h) 1 (by omega) [VI p] rfl rfl fun u h6 n6 c6 o6 f6 m6 _ => ⟨u, rfl, hL5.of_no f6, ?_⟩
  have z6 := f6.size
  have f06 := f05.no_trans f6
  have w6 := Ow.no w2 f6
  obtain ⟨B0, N0⟩ := bok0 (n := xss.length) (p := p.toNat) (by omega)
  refine ⟨fun n x k h' => ∃ (far dn pend : List Int), 0 ≤ k /\ k = dn.length /\ n = pend.length + negs far /\ dn.length + n = xss.length /\ BOK xss.length far /\ (∀ y, y ∈ pend -> 0 ≤ y /\ y < (xss.length : Int)) /\ OwI h' (Iv h2.size h3.size) t far /\ OwI h' (fun k => h3.size ≤ k) x (dn ++ pend) /\ Fr No h h' /\ h3.size ≤ h'.size /\ R = bfsP xss n far pend,
    ⟨xss.length, (List.replicate xss.length (-1)).set p.toNat 0, [], [p], by omega, rfl, by simp only [List.length_cons, List.length_nil]; omega, by simp, B0, fun y hy => by simp at hy; omega, w6, by show Ow _ _ _ _ _ _; simpa using o6.mono (F' := fun k => h3.size ≤ k) fun k _ hk => by omega, f06, by omega, hR.symm⟩, ?_⟩
  rintro n x k h7 ⟨far, dn, pend, k0, rfl, rfl, hdn, B, hp, o7, q7, f7, z7, eq⟩ hL7
  have rq : RdI (fun k => h3.size ≤ k) h7 x (dn ++ pend) := q7.rdF
  refine ⟨fun e => ?_, fun e => ?_⟩
  · have hk := rq.lt e
    rw [List.length_append] at hk
    obtain ⟨y, rest, rfl⟩ : ∃ y rest, pend = y :: rest := by
      cases pend with
      | nil => simp at hk
      | cons y rest => exact ⟨y, rest, rfl⟩
    have hy := hp y List.mem_cons_self
    have hyl : y.toNat < xss.length := by omega
    have hdl : (dn.length : Int) < ((dn ++ y :: rest).length : Int) := by simp only [List.length_append, List.length_cons]; omega
    have eg : ∀ hh, (dn ++ y :: rest)[(dn.length : Int).toNat]'hh = y := by intro hh; simp
    have c0 := rq.get k0 hdl
    rw [eg] at c0
    obtain ⟨gi, c1, r1⟩ := G.get hy.1 hy.2
    have hfuel : (y :: rest).length + negs far = (rest.length + negs far) + 1 := by simp only [List.length_cons]; omega
    rw [hfuel, bfsP, getD_get hyl] at eq
    refine ⟨rq.inb k0 hdl, _, c0, (G.no f7).inb hy.1 hy.2, gi, hcell_fr c1 f7 (fun h => h), ?_⟩
    generalize hF : bfsIn y (xss[y.toNat]'hyl) (far, []) = Fin at eq
    refine ⟨fun m x' j h' => ∃ (far' new : List Int), 0 ≤ j /\ j + m = ((xss[y.toNat]'hyl).length : Int) /\ BOK xss.length far' /\ new.length + negs far' = negs far /\ (∀ y, y ∈ new -> 0 ≤ y /\ y < (xss.length : Int)) /\ OwI h' (Iv h2.size h3.size) t far' /\ OwI h' (fun k => h3.size ≤ k) x' (dn ++ y :: rest ++ new) /\ Fr No h h' /\ h3.size ≤ h'.size /\ Fin = bfsIn y ((xss[y.toNat]'hyl).drop j.toNat) (far', new),
      ⟨(xss[y.toNat]'hyl).length, far, [], by omega, by omega, B, by simp, fun y hy => by simp at hy, o7, by simpa using q7, f7, z7, by simpa using hF.symm⟩, ?_⟩
    rintro m x' j h8 ⟨far', new, j0, j1, B', hnw, hnm, o8, q8, f8, z8, eF⟩ hL8
    have r1' : RdI S h8 gi (xss[y.toNat]'hyl) := RdI.no r1 f8
    have rq8 : RdI (fun k => h3.size ≤ k) h8 x' (dn ++ y :: rest ++ new) := q8.rdF
    have ro8 : RdI (Iv h2.size h3.size) h8 t far' := o8.rdI
    have hfl := B'.len
    refine ⟨fun e2 => ?_, fun e2 => ?_⟩
    · have hj := r1'.lt e2
      rw [drop_cons _ j0 hj, bfsIn] at eF
      have hq := gq_mem hg hyl (show j.toNat < (xss[y.toNat]'hyl).length by omega)
      refine ⟨r1'.inb j0 hj, _, r1'.get j0 hj, ro8.inb hq.1 (by omega), _, ro8.get hq.1 (by omega), fun e3 => ?_, fun e3 => ?_⟩
      · simp only [decide_eq_true_eq] at e3
        have e3' : far'.getD ((xss[y.toNat]'hyl)[j.toNat]'(by omega)).toNat 0 < 0 := by rw [getD_getI (by omega)]; exact e3
        obtain ⟨B2, N2⟩ := B'.step (x := y) (by omega) (by omega) e3'
        simp only [e3', if_true] at eF
        have hyv := B'.hi _ (List.getElem_mem (show y.toNat < far'.length by omega))
        have hyv2 := B'.lo _ (List.getElem_mem (show y.toNat < far'.length by omega))
        have hdl8 : (dn.length : Int) < ((dn ++ y :: rest ++ new).length : Int) := by simp only [List.length_append, List.length_cons]; omega
        have eg8 : ∀ hh, (dn ++ y :: rest ++ new)[(dn.length : Int).toNat]'hh = y := by intro hh; simp
        have c8 := rq8.get k0 hdl8
        rw [eg8] at c8
        obtain ⟨w1, w2, w3⟩ := o8.store1 hq.1 (by have := ro8.len; omega) (VI (far'[y.toNat]'(by omega) + 1))
        have w3' : Fr (Iv h2.size h3.size) h8 _ := w3.mono fun _ _ hk => (o8.foot hk).1
        have hL9 := hL8.iv w3' ⟨.inl l1, trivial⟩
        refine ⟨rq8.inb k0 hdl8, _, c8, ro8.inb hy.1 (by omega), _, ro8.get hy.1 (by omega), ro8.inb hq.1 (by omega), ?_⟩
        rw [w64_eq _ (by omega) (by omega)]
        refine ⟨w1, hL9, fun h9 e9 _ => ?_⟩
        subst e9
        rw [← List.map_set] at w2
        have z9 := w3'.size
        have q9 := Ow.fr q8 w3' fun k hk hk2 => by have h1 := (q8.foot hk).1; have := hk2.2; (try simp only at h1); omega
        refine eop_lit rIs (fun k => _ ≤ k) (fun _ h => h) 1 (by omega) [VI ((xss[y.toNat]'hyl)[j.toNat]'(by omega))] rfl rfl fun v h10 n10 c10 o10 f10 m10 _ => ⟨v, rfl, hL9.of_no f10, ?_⟩
        have z10 := f10.size
        have r10 : RdI v.own h10 v [(xss[y.toNat]'hyl)[j.toNat]'(by omega)] := o10.rd
        have hxl := rq8.len
        simp only [List.length_append, List.length_cons] at hxl hdn hk
        refine eop_append rIs (Ow.no q9 f10) (fun k hk => by omega) r10 (plainVI _) (by have := r10.len; simp at this; omega) fun w h11 n11 o11 f11 d11 => ⟨w, rfl, (hL9.of_no f10).fr f11 (fun p hp hk => by
          simp only [List.mem_cons, List.not_mem_nil, or_false] at hp
          subst hp
          have := (q8.foot hk).1
          simp only at this
          omega), ?_⟩
        have z11 := f11.size
        rw [← List.map_append] at o11
        rw [r1'.succ j0 hj]
        refine ⟨m - 1, by omega, far'.set ((xss[y.toNat]'hyl)[j.toNat]'(by omega)).toNat (far'.getD y.toNat 0 + 1), new ++ [(xss[y.toNat]'hyl)[j.toNat]'(by omega)], by omega, by omega, B2, by simp only [List.length_append, List.length_cons, List.length_nil]; omega, fun z hz => ?_, ?_, ?_, ?_, by omega, eF⟩
        · rcases List.mem_append.1 hz with hz | hz
          · exact hnm z hz
          · simp only [List.mem_cons, List.not_mem_nil, or_false] at hz
            rw [hz]; exact hq
        · rw [getD_getI (show y.toNat < far'.length by omega)]
          exact (Ow.no w2 f10).fr f11 fun k hk hk2 => by have h1 := (q8.foot hk2).1; have := (o8.foot hk).1.2; (try simp only at h1); omega
        · rw [← List.append_assoc]
          exact o11
        · exact (((f8.ivFresh w3' (by omega)).no_trans f10).fresh f11 fun k hk => by have h1 := (q8.foot hk).1; (try simp only at h1); omega)
      · simp only [decide_eq_false_iff_not] at e3
        have e3' : ¬ far'.getD ((xss[y.toNat]'hyl)[j.toNat]'(by omega)).toNat 0 < 0 := by rw [getD_getI (by omega)]; exact e3
        simp only [e3', if_false] at eF
        rw [r1'.succ j0 hj]
        exact ⟨m - 1, by omega, far', new, by omega, by omega, B', hnw, hnm, o8, q8, f8, z8, eF⟩
    · have hj := r1'.ge e2
      rw [List.drop_of_length_le (by omega), bfsIn] at eF
      subst eF
      simp only [List.length_cons] at hdn
      rw [w64_eq _ (by omega) (by omega)]
      refine ⟨rest.length + negs far, by simp only [List.length_cons]; omega, far', dn ++ [y], rest ++ new, by omega, by simp, by simp only [List.length_append]; omega, by simp only [List.length_append, List.length_cons, List.length_nil]; omega, B', fun z hz => ?_, o8, by simpa using q8, f8, z8, ?_⟩
      · rcases List.mem_append.1 hz with hz | hz
        · exact hp z (List.mem_cons_of_mem _ hz)
        · exact hnm z hz
      · exact eq
  · have hk := rq.ge e
    rw [List.length_append] at hk
    obtain rfl : pend = [] := List.eq_nil_of_length_eq_zero (by omega)
    have e9 : R = far := by
      rw [eq]
      simp only [List.length_nil, Nat.zero_add]
      cases negs far <;> rfl
    subst e9
    exact HK t h7 (Ow.ivs o7 (by omega) (by omega)) B.len f7
theorem k_lengths {S : Nat -> Prop} {h : Heap} {g : Sl} {xss : List (List Int)} (G : RdR S h g xss) (hg : graphB xss = true) {p : Int} (h0 : 0 ≤ p) (h1 : p < (xss.length : Int)) (K : Value -> Heap -> Prop) (HK : ∀ t h', OwI h' (Iv h.size h'.size) t (farP xss p) -> (farP xss p).length = xss.length -> Fr No h h' -> K t.v h') : callM Try.prog 110 #[.agg #[g.v], VI p] h K := by
  refine v110 g p h K fun b1 h1' hb1 f1 hL1 => ?_
  generalize hR : farP xss p = R at HK
  have f1 := f1.in_nil
  have l1 : b1 < h1'.size := hL1.head.lt
  have z1 := f1.size
  have hgl := graph_len hg
  refine eop_lit rIs (fun k => h1'.size ≤ k) (fun _ h => h) 1 (by omega) [VI (-1)] rfl rfl fun m1 h2 n2 c2 o2 f2 _ _ => ⟨m1, rfl, hL1.of_no f2, ?_⟩
  have r2 : RdI (fun k => h1'.size ≤ k) h2 m1 [-1] := o2.rdF
  have z2 := f2.size
  have hL2 := hL1.of_no f2
  rw [G.len]
  refine k_Repeat (-1) r2 xss.length (by omega) (by omega) _ fun t h3 o3 f3 => ⟨t, rfl, hL2.of_no f3, ?_⟩
  have z3 := f3.size
  have f03 := (f1.no_trans f2).no_trans f3
  have hL3 := hL2.of_no f3
  have htn : t.n = xss.length := by have := RdI.len (Ow.rdF o3 : RdI _ h3 t _); simpa using this
  obtain ⟨w1, w2, w3⟩ := o3.store1 h0 (by omega) (VI 0)
  have w3' : Fr (Iv h2.size h3.size) h3 _ := w3.mono fun _ _ hk => (o3.foot hk).1
  have hL5 := hL3.iv w3' ⟨.inl (by omega), trivial⟩
  refine ⟨o3.inb h0 (by omega), w1, hL5, fun h5 e5 _ => ?_⟩
  subst e5
  rw [← List.map_set] at w2
  have f05 : Fr No h _ := f03.ivFresh w3' (by omega)
  have z5 := w3'.size
  refine eop_lit rIs (fun k => _ ≤ k) (fun _ h => h) 1 (by omega) [VI p] rfl rfl fun u h6 n6 c6 o6 f6 m6 _ => ⟨u, rfl, hL5.of_no f6, ?_⟩
  have z6 := f6.size
  have f06 := f05.no_trans f6
  have w6 := Ow.no w2 f6
  obtain ⟨B0, N0⟩ := bok0 (n := xss.length) (p := p.toNat) (by omega)
  refine ⟨fun n x h' => ∃ (far pend : List Int), n = pend.length + negs far /\ n ≤ xss.length /\ BOK xss.length far /\ (∀ y, y ∈ pend -> 0 ≤ y /\ y < (xss.length : Int)) /\ OwI h' (Iv h2.size h3.size) t far /\ OwI h' (fun k => h3.size ≤ k) x pend /\ Fr No h h' /\ h3.size ≤ h'.size /\ R = bfsP xss n far pend,
    ⟨xss.length, (List.replicate xss.length (-1)).set p.toNat 0, [p], by simp only [List.length_cons, List.length_nil]; omega, Nat.le_refl _, B0, fun y hy => by simp at hy; omega, w6, by show Ow _ _ _ _ _ _; simpa using o6.mono (F' := fun k => h3.size ≤ k) fun k _ hk => by omega, f06, by omega, hR.symm⟩, ?_⟩
  rintro n x h7 ⟨far, pend, rfl, hdn, B, hp, o7, q7, f7, z7, eq⟩ hL7
  have rq : RdI (fun k => h3.size ≤ k) h7 x pend := q7.rdF
  have hxl := rq.len
  refine ⟨fun e => ?_, fun e => ?_⟩
  · simp only [decide_eq_true_eq] at e
    obtain ⟨y, rest, rfl⟩ : ∃ y rest, pend = y :: rest := by
      cases pend with
      | nil => simp at hxl; omega
      | cons y rest => exact ⟨y, rest, rfl⟩
    have hy := hp y List.mem_cons_self
    have hyl : y.toNat < xss.length := by omega
    have hdl : (0 : Int) < ((y :: rest).length : Int) := by simp only [List.length_cons]; omega
    have eg : ∀ hh, (y :: rest)[(0 : Int).toNat]'hh = y := by intro hh; simp
    have c0 := rq.get (Int.le_refl 0) hdl
    rw [eg] at c0
    obtain ⟨gi, c1, r1⟩ := G.get hy.1 hy.2
    have hfuel : (y :: rest).length + negs far = (rest.length + negs far) + 1 := by simp only [List.length_cons]; omega
    rw [hfuel, bfsP, getD_get hyl] at eq
    refine ⟨rq.inb (Int.le_refl 0) hdl, _, c0, (G.no f7).inb hy.1 hy.2, gi, hcell_fr c1 f7 (fun h => h), ?_⟩
    generalize hF : bfsIn y (xss[y.toNat]'hyl) (far, []) = Fin at eq
    refine ⟨fun m x' j h' => ∃ (far' new : List Int), 0 ≤ j /\ j + m = ((xss[y.toNat]'hyl).length : Int) /\ BOK xss.length far' /\ new.length + negs far' = negs far /\ (∀ y, y ∈ new -> 0 ≤ y /\ y < (xss.length : Int)) /\ OwI h' (Iv h2.size h3.size) t far' /\ OwI h' (fun k => h3.size ≤ k) x' (y :: rest ++ new) /\ Fr No h h' /\ h3.size ≤ h'.size /\ Fin = bfsIn y ((xss[y.toNat]'hyl).drop j.toNat) (far', new),
      ⟨(xss[y.toNat]'hyl).length, far, [], by omega, by omega, B, by simp, fun y hy => by simp at hy, o7, by simpa using q7, f7, z7, by simpa using hF.symm⟩, ?_⟩
    rintro m x' j h8 ⟨far', new, j0, j1, B', hnw, hnm, o8, q8, f8, z8, eF⟩ hL8
    have r1' : RdI S h8 gi (xss[y.toNat]'hyl) := RdI.no r1 f8
    have rq8 : RdI (fun k => h3.size ≤ k) h8 x' (y :: rest ++ new) := q8.rdF
    have ro8 : RdI (Iv h2.size h3.size) h8 t far' := o8.rdI
    have hfl := B'.len
    have hxl8 := rq8.len
    simp only [List.length_append, List.length_cons] at hxl8 hdn
    refine ⟨fun e2 => ?_, fun e2 => ?_⟩
    · have hj := r1'.lt e2
      rw [drop_cons _ j0 hj, bfsIn] at eF
      have hq := gq_mem hg hyl (show j.toNat < (xss[y.toNat]'hyl).length by omega)
      refine ⟨r1'.inb j0 hj, _, r1'.get j0 hj, ro8.inb hq.1 (by omega), _, ro8.get hq.1 (by omega), fun e3 => ?_, fun e3 => ?_⟩
      · simp only [decide_eq_true_eq] at e3
        have e3' : far'.getD ((xss[y.toNat]'hyl)[j.toNat]'(by omega)).toNat 0 < 0 := by rw [getD_getI (by omega)]; exact e3
        obtain ⟨B2, N2⟩ := B'.step (x := y) (by omega) (by omega) e3'
        simp only [e3', if_true] at eF
        have hyv := B'.hi _ (List.getElem_mem (show y.toNat < far'.length by omega))
        have hyv2 := B'.lo _ (List.getElem_mem (show y.toNat < far'.length by omega))
        have hdl8 : (0 : Int) < ((y :: rest ++ new).length : Int) := by simp only [List.length_append, List.length_cons]; omega
        have eg8 : ∀ hh, (y :: rest ++ new)[(0 : Int).toNat]'hh = y := by intro hh; simp
        have c8 := rq8.get (Int.le_refl 0) hdl8
        rw [eg8] at c8
        obtain ⟨w1, w2, w3⟩ := o8.store1 hq.1 (by have := ro8.len; omega) (VI (far'[y.toNat]'(by omega) + 1))
        have w3' : Fr (Iv h2.size h3.size) h8 _ := w3.mono fun _ _ hk => (o8.foot hk).1
        have hL9 := hL8.iv w3' ⟨.inl (by omega), trivial⟩
        refine ⟨rq8.inb (Int.le_refl 0) hdl8, _, c8, ro8.inb hy.1 (by omega), _, ro8.get hy.1 (by omega), ro8.inb hq.1 (by omega), ?_⟩
        rw [w64_eq _ (by omega) (by omega)]
        refine ⟨w1, hL9, fun h9 e9 _ => ?_⟩
        subst e9
        rw [← List.map_set] at w2
        have z9 := w3'.size
        have q9 := Ow.fr q8 w3' fun k hk hk2 => by have h1 := (q8.foot hk).1; have := hk2.2; (try simp only at h1); omega
        refine eop_lit rIs (fun k => _ ≤ k) (fun _ h => h) 1 (by omega) [VI ((xss[y.toNat]'hyl)[j.toNat]'(by omega))] rfl rfl fun v h10 n10 c10 o10 f10 m10 _ => ⟨v, rfl, hL9.of_no f10, ?_⟩
        have z10 := f10.size
        have r10 : RdI v.own h10 v [(xss[y.toNat]'hyl)[j.toNat]'(by omega)] := o10.rd
        refine eop_append rIs (Ow.no q9 f10) (fun k hk => by omega) r10 (plainVI _) (by have := r10.len; simp at this; omega) fun w h11 n11 o11 f11 d11 => ⟨w, rfl, (hL9.of_no f10).fr f11 (fun p hp hk => by
          simp only [List.mem_cons, List.not_mem_nil, or_false] at hp
          subst hp
          have := (q8.foot hk).1
          simp only at this
          omega), ?_⟩
        have z11 := f11.size
        rw [← List.map_append] at o11
        rw [r1'.succ j0 hj]
        refine ⟨m - 1, by omega, far'.set ((xss[y.toNat]'hyl)[j.toNat]'(by omega)).toNat (far'.getD y.toNat 0 + 1), new ++ [(xss[y.toNat]'hyl)[j.toNat]'(by omega)], by omega, by omega, B2, by simp only [List.length_append, List.length_cons, List.length_nil]; omega, fun z hz => ?_, ?_, ?_, ?_, by omega, eF⟩
        · rcases List.mem_append.1 hz with hz | hz
          · exact hnm z hz
          · simp only [List.mem_cons, List.not_mem_nil, or_false] at hz
            rw [hz]; exact hq
        · rw [getD_getI (show y.toNat < far'.length by omega)]
          exact (Ow.no w2 f10).fr f11 fun k hk hk2 => by have h1 := (q8.foot hk2).1; have := (o8.foot hk).1.2; (try simp only at h1); omega
        · rw [← List.append_assoc]
          exact o11
        · exact (((f8.ivFresh w3' (by omega)).no_trans f10).fresh f11 fun k hk => by have h1 := (q8.foot hk).1; (try simp only at h1); omega)
      · simp only [decide_eq_false_iff_not] at e3
        have e3' : ¬ far'.getD ((xss[y.toNat]'hyl)[j.toNat]'(by omega)).toNat 0 < 0 := by rw [getD_getI (by omega)]; exact e3
        simp only [e3', if_false] at eF
        rw [r1'.succ j0 hj]
        exact ⟨m - 1, by omega, far', new, by omega, by omega, B', hnw, hnm, o8, q8, f8, z8, eF⟩
    · have hj := r1'.ge e2
      rw [List.drop_of_length_le (by omega), bfsIn] at eF
      subst eF
      refine pop_cut_l rIs .i64 (by omega) (by omega) ⟨_, rfl, ?_⟩
      have qc := q8.cut (l := 1) (m := x'.n) (by omega) (Nat.le_refl _)
      have ec : (((y :: rest ++ new).map VI).drop (1 * 1)).take ((x'.n - 1) * 1) = (rest ++ new).map VI := by
        rw [List.take_of_length_le (by simp; omega)]
        rfl
      rw [ec] at qc
      refine ⟨rest.length + negs far, by simp only [List.length_cons]; omega, far', rest ++ new, by simp only [List.length_append]; omega, by omega, B', fun z hz => ?_, o8, qc, f8, z8, ?_⟩
      · rcases List.mem_append.1 hz with hz | hz
        · exact hp z (List.mem_cons_of_mem _ hz)
        · exact hnm z hz
      · exact eq
  · simp only [decide_eq_false_iff_not] at e
    obtain rfl : pend = [] := List.eq_nil_of_length_eq_zero (by omega)
    have e9 : R = far := by
      rw [eq]
      simp only [List.length_nil, Nat.zero_add]
      cases negs far <;> rfl
    subst e9
    exact HK t h7 (Ow.ivs o7 (by omega) (by omega)) B.len f7
structure CurD (a n : Nat) (h : Heap) (c : Sl) (i : Int) : Prop where
  code : ∃ vs, RdV (fun k => k < a) h 1 c vs /\ ∀ v, v ∈ vs -> ∃ m : Int, v = Value.int .u8 m /\ 0 ≤ m /\ m ≤ 255
  lo : 0 ≤ i
  hi : i ≤ (n : Int)
theorem CurD.fr {a n : Nat} {h h' : Heap} {c : Sl} {i : Int} {T : Nat -> Prop} (D : CurD a n h c i) (f : Fr T h h') (hT : ∀ k, k < a -> ¬ T k) : CurD a n h' c i := by
  obtain ⟨vs, h1, h2⟩ := D.code
  exact ⟨⟨vs, h1.fr f hT, h2⟩, D.lo, D.hi⟩
theorem CurD.no {a n : Nat} {h h' : Heap} {c : Sl} {i : Int} (D : CurD a n h c i) (f : Fr No h h') : CurD a n h' c i := D.fr f fun _ _ h => h
theorem CurD.up {a n m : Nat} {h : Heap} {c : Sl} {i : Int} (D : CurD a n h c i) (hm : n ≤ m) : CurD a m h c i := ⟨D.code, D.lo, by have := D.hi; omega⟩
theorem u64_rng (x : Int) : 0 ≤ IntKind.wrap .u64 x /\ IntKind.wrap .u64 x < 18446744073709551616 := by
  rw [IntKind.wrap_u64]; omega
theorem and255 {x : Int} (h0 : 0 ≤ x) (h1 : x < 18446744073709551616) : 0 ≤ bits .and .u64 x 255 /\ bits .and .u64 x 255 ≤ 255 := by
  have e := u64_and_nat x.toNat 255 (by omega) (by omega)
  rw [show ((x.toNat : Nat) : Int) = x by omega] at e
  have : x.toNat &&& 255 ≤ 255 := Nat.and_le_right
  rw [show ((255 : Nat) : Int) = 255 from rfl] at e
  rw [e]; omega
theorem vcur {h h' : Heap} {L : List (Nat × List Value)} (H : Vars h L) (i : Nat) {b : Nat} {cs cs' : List Value} (hi : nthL L i = some (b, cs)) (f : Fr (In [b]) h h') (V : IsVar h' b cs') : Vars h' (setL L i cs') :=
  H.set hi (f.mono fun k _ hk => by simpa [In] using hk) V
theorem k_next_ {a n b : Nat} {h : Heap} {c : Sl} {i sd : Int} (V : IsVar h b [c.v, VI i, .int .u64 sd]) (hb : a ≤ b) (D : CurD a n h c i) (hn : n ≤ 1000000000000) (K : Value -> Heap -> Prop) (HK : ∀ (x i' sd' : Int) h', 0 ≤ x -> x ≤ 255 -> IsVar h' b [c.v, VI i', .int .u64 sd'] -> CurD a (n + 1) h' c i' -> Fr (In [b]) h h' -> K (VI x) h') : callM Try.prog 119 #[VP b 0] h K := by
  have h0 := D.lo
  have h1 := D.hi
  have lb := V.lt
  have fin : ∀ (x i' sd' : Int) (h1 h2 h' : Heap), 0 ≤ x -> x ≤ 255 -> 0 ≤ i' -> i' ≤ (n : Int) + 1 -> Fr No h h1 -> Fr (In [b]) h1 h2 -> Fr (In [b]) h2 h' -> IsVar h' b [c.v, VI i', .int .u64 sd'] -> K (VI x) h' := fun x i' sd' h1 h2 h' x0 x1 i0 i1 f1 f2 f3 V' => by
    have f := (f1.of_no.trans f2).trans f3
    obtain ⟨vs, d1, d2⟩ := D.code
    exact HK x i' sd' h' x0 x1 V' ⟨⟨vs, d1.fr f fun k hk hk2 => by simp [In] at hk2; omega, d2⟩, i0, by omega⟩ f
  refine v119 b c i sd h K (.cons V (by simp) .nil) ⟨fun x h' => 0 ≤ x /\ x ≤ 255 /\ h' = h, ⟨fun e => ?_, fun e => ⟨by omega, by omega, rfl⟩⟩, ?_⟩
  · obtain ⟨vs, d1, d2⟩ := D.code
    have hl := d1.len
    simp only [decide_eq_true_eq] at e
    have hi : i < (vs.length : Int) := by omega
    obtain ⟨m, e1, m0, m1⟩ := d2 _ (List.getElem_mem (show i.toNat < vs.length by omega))
    refine ⟨d1.inb h0 hi, m, by rw [d1.get h0 hi, e1], rop_conv (show Try.prog.underlying _ = some (.int .u8) from by kernel_rfl) (show Try.prog.underlying _ = some (.int .i64) from by kernel_rfl) m ⟨m, ?_, m0, m1, rfl⟩⟩
    show Value.int .i64 (w64 m) = VI m
    rw [w64_eq _ (by omega) (by omega)]
  · rintro x hh ⟨x0, x1, rfl⟩ hL h2 f2 hL2
    rw [w64_eq (i + 1) (by omega) (by omega)]
    refine rop_conv (show Try.prog.underlying _ = some (.int .i64) from by kernel_rfl) (show Try.prog.underlying _ = some (.int .u64) from by kernel_rfl) x ⟨_, rfl, fun e h3 f3 hL3 => ?_, fun e => ?_⟩
    · exact fin x _ _ hh h2 h3 x0 x1 (by omega) (by omega) (Fr.refl _ _) f2 f3 hL3.head
    · refine pop_shr .u64 _ 40 (by omega) ⟨_, rfl, pop_and .u64 _ 255 ⟨_, rfl, fun h3 f3 hL3 => ?_⟩⟩
      have hw := u64_rng (IntKind.wrap .u64 (IntKind.wrap .u64 (sd * 6364136223846793005) + IntKind.wrap .u64 x) + 1442695040888963407)
      have hd : 0 ≤ (IntKind.wrap .u64 (IntKind.wrap .u64 (IntKind.wrap .u64 (sd * 6364136223846793005) + IntKind.wrap .u64 x) + 1442695040888963407)).fdiv (2 ^ (min (40 : Int).toNat IntKind.u64.bits)) /\ (IntKind.wrap .u64 (IntKind.wrap .u64 (IntKind.wrap .u64 (sd * 6364136223846793005) + IntKind.wrap .u64 x) + 1442695040888963407)).fdiv (2 ^ (min (40 : Int).toNat IntKind.u64.bits)) < 18446744073709551616 := by
        rw [show (2 : Int) ^ (min (40 : Int).toNat IntKind.u64.bits) = 1099511627776 from rfl, Int.fdiv_eq_ediv_of_nonneg _ (by omega)]
        omega
      have ha := and255 hd.1 hd.2
      refine rop_conv (show Try.prog.underlying _ = some (.int .u64) from by kernel_rfl) (show Try.prog.underlying _ = some (.int .i64) from by kernel_rfl) _ ⟨_, rfl, ?_⟩
      rw [show IntKind.i64.wrap (bits .and .u64 ((IntKind.wrap .u64 (IntKind.wrap .u64 (IntKind.wrap .u64 (sd * 6364136223846793005) + IntKind.wrap .u64 x) + 1442695040888963407)).fdiv (2 ^ (min (40 : Int).toNat IntKind.u64.bits))) 255) = bits .and .u64 ((IntKind.wrap .u64 (IntKind.wrap .u64 (IntKind.wrap .u64 (sd * 6364136223846793005) + IntKind.wrap .u64 x) + 1442695040888963407)).fdiv (2 ^ (min (40 : Int).toNat IntKind.u64.bits))) 255 from w64_eq _ (by omega) (by omega)]
      exact fin _ _ _ hh h2 h3 ha.1 ha.2 (by omega) (by omega) (Fr.refl _ _) f2 f3 hL3.head
theorem k_pick {a n b : Nat} {h : Heap} {c : Sl} {i sd : Int} (V : IsVar h b [c.v, VI i, .int .u64 sd]) (hb : a ≤ b) (D : CurD a n h c i) (hn : n ≤ 100000000000) (m : Int) (K : Value -> Heap -> Prop) (HK : ∀ (x i' sd' : Int) h', 0 ≤ x -> (1 ≤ m -> x < m) -> IsVar h' b [c.v, VI i', .int .u64 sd'] -> CurD a (n + 2) h' c i' -> Fr (In [b]) h h' -> K (VI x) h') : callM Try.prog 70 #[VP b 0, VI m] h K := by
  refine v70 b c i sd m h K (.cons V (by simp) .nil) ⟨fun e => ?_, fun e => ?_⟩
  · simp only [decide_eq_true_eq] at e
    exact HK 0 i sd h (by omega) (fun _ => by omega) V (D.up (by omega)) (Fr.refl _ _)
  simp only [decide_eq_false_iff_not] at e
  refine k_next_ V hb D (by omega) _ fun x i1 sd1 h1 x0 x1 V1 D1 f1 => ⟨c, i1, sd1, x, rfl, .cons V1 (by simp) .nil, fun y d i2 sd2 h2 => 0 ≤ y /\ d = c /\ CurD a (n + 2) h2 c i2 /\ Fr (In [b]) h h2, ⟨fun e2 => ?_, fun e2 => ⟨x0, rfl, D1.up (by omega), f1⟩⟩, ?_⟩
  · refine k_next_ V1 hb D1 (by omega) _ fun x' i2 sd2 h2 x0' x1' V2 D2 f2 => ⟨c, i2, sd2, x', rfl, .cons V2 (by simp) .nil, ?_⟩
    rw [w64_eq (x * 256) (by omega) (by omega), w64_eq _ (by omega) (by omega)]
    exact ⟨by omega, rfl, D2, f1.trans f2⟩
  · rintro y d i2 sd2 h2 ⟨y0, rfl, D2, f2⟩ hL2
    exact ⟨by omega, HK _ i2 sd2 h2 (Int.tmod_nonneg _ y0) (fun _ => Int.tmod_lt_of_pos _ (by omega)) hL2.head D2 f2⟩
theorem k_one {a n b : Nat} {h : Heap} {c : Sl} {i sd : Int} (V : IsVar h b [c.v, VI i, .int .u64 sd]) (hb : a ≤ b) (D : CurD a n h c i) (hn : n ≤ 100000000000) (m : Int) (K : Value -> Heap -> Prop) (HK : ∀ (x : Bool) (i' sd' : Int) h', IsVar h' b [c.v, VI i', .int .u64 sd'] -> CurD a (n + 2) h' c i' -> Fr (In [b]) h h' -> K (VB x) h') : callM Try.prog 106 #[VP b 0, VI m] h K := by
  refine v106 b c i sd m h K (.cons V (by simp) .nil) ?_
  exact k_pick V hb D hn m _ fun x i1 sd1 h1 x0 x1 V1 D1 f1 => ⟨c, i1, sd1, x, rfl, .cons V1 (by simp) .nil, HK _ i1 sd1 h1 V1 D1 f1⟩
theorem k_among {a n b : Nat} {h : Heap} {c : Sl} {i sd : Int} (V : IsVar h b [c.v, VI i, .int .u64 sd]) (hb : a ≤ b) (D : CurD a n h c i) (hn : n ≤ 100000000000) {S : Nat -> Prop} {s : Sl} {xs : List Int} (R : RdI S h s xs) (hS : ¬ S b) (hne : xs ≠ []) (K : Value -> Heap -> Prop) (HK : ∀ (x i' sd' : Int) h', x ∈ xs -> IsVar h' b [c.v, VI i', .int .u64 sd'] -> CurD a (n + 2) h' c i' -> Fr (In [b]) h h' -> K (VI x) h') : callM Try.prog 107 #[VP b 0, s.v] h K := by
  refine v107 b c i sd s h K (.cons V (by simp) .nil) ?_
  have hl := R.len
  have hp := List.length_pos_iff.2 hne
  refine k_pick V hb D hn _ _ fun x i1 sd1 h1 x0 x1 V1 D1 f1 => ⟨c, i1, sd1, x, rfl, .cons V1 (by simp) .nil, ?_⟩
  have R1 := R.fr f1 fun k hk hk2 => by simp [In] at hk2; subst hk2; exact hS hk
  have hx : x < (xs.length : Int) := by have := x1 (by omega); omega
  exact ⟨R1.inb x0 hx, _, R1.get x0 hx, HK _ i1 sd1 h1 (List.getElem_mem _) V1 D1 f1⟩
theorem eop_put {L : List (Nat × List Value)} {lo : Nat} {h : Heap} {o : Sl} {xs : List Int} {x : Int} (O : OwI h (fun k => lo ≤ k) o xs) (hlo : lo ≤ h.size) (hL : Vars h L) (hoff : ∀ p, p ∈ L -> p.1 < lo) (hb : xs.length ≤ 1000000) (R : Sl -> Heap -> Prop) (HR : ∀ t h', OwI h' (fun k => lo ≤ k) t (xs ++ [x]) -> Fr (fun k => lo ≤ k) h h' -> Vars h' L -> R t h') : eop Try.prog (Instr.buildSlice tIs 1 #[(0, VI x)]) h fun rv h1 => ∃ t : Sl, rv = t.v /\ Vars h1 L /\ eop Try.prog (appS tIs tIs tIs o.v t.v) h1 fun rv2 h2 => ∃ t2 : Sl, rv2 = t2.v /\ Vars h2 L /\ R t2 h2 := by
  refine eop_lit rIs (fun k => h.size ≤ k) (fun _ h => h) 1 (by omega) [VI x] rfl rfl fun t h1 n1 c1 o1 f1 m1 _ => ⟨t, rfl, hL.of_no f1, ?_⟩
  have z1 := f1.size
  have O1 : OwI h1 (fun k => lo ≤ k) o xs := Ow.no O f1
  have on := O1.rd.len
  have tn := o1.rd.len
  simp only [List.length_map, Nat.mul_one, List.length_cons, List.length_nil] at on tn
  refine eop_append rIs O1 (fun k hk => by omega) o1.rd (plainVI [x]) (by omega) fun s' h2 n2 o2 f2 d2 => ?_
  have g2 : Fr (fun k => lo ≤ k) h1 h2 := f2.mono fun k _ hk => (O1.foot hk).1
  have V2 : Vars h2 L := (hL.of_no f1).fr g2 fun p hp hk => by have := hoff p hp; omega
  exact ⟨s', rfl, V2, HR s' h2 (by rw [OwI, List.map_append]; exact o2) (f1.of_no.trans g2) V2⟩
theorem eop_putR {L : List (Nat × List Value)} {lo m : Nat} {h : Heap} {s x : Sl} {xss : List (List Int)} {ys : List Int} (O : OwX h (Iv lo m) s xss) (X : OwI h (fun k => m ≤ k) x ys) (hlo : lo ≤ m) (hm : m ≤ h.size) (hL : Vars h L) (hoff : ∀ p, p ∈ L -> p.1 < lo) (hb : xss.length ≤ 1000000) (R : Sl -> Heap -> Prop) (HR : ∀ t h', OwX h' (fun k => lo ≤ k) t (xss ++ [ys]) -> Fr (fun k => lo ≤ k) h h' -> Vars h' L -> R t h') : eop Try.prog (Instr.buildSlice tIss 1 #[(0, x.v)]) h fun rv h1 => ∃ t : Sl, rv = t.v /\ Vars h1 L /\ eop Try.prog (appS tIss tIss tIss s.v t.v) h1 fun rv2 h2 => ∃ t2 : Sl, rv2 = t2.v /\ Vars h2 L /\ R t2 h2 := by
  refine eop_lit rIss (fun k => h.size ≤ k) (fun _ h => h) 1 (by omega) [x.v] rfl rfl fun t h1 n1 c1 o1 f1 m1 _ => ⟨t, rfl, hL.of_no f1, ?_⟩
  have z1 := f1.size
  refine OwR.snoc rIss (OwR.no O f1) (F' := fun k => lo ≤ k) (fun k _ hk => hk.1) (fun k hk => by omega) ((Ow.no X f1).mono fun k _ hk => Nat.le_trans hlo hk) (fun k hk hk2 => by have := (X.foot hk).1; have := hk2.2; omega) o1.rd (by omega) fun y h2 o2 f2 => ?_
  have g2 : Fr (fun k => lo ≤ k) h1 h2 := f2.mono fun k _ hk => hk.1
  have V2 : Vars h2 L := (hL.of_no f1).fr g2 fun p hp hk => by have := hoff p hp; omega
  exact ⟨y, rfl, V2, HR y h2 o2 (f1.of_no.trans g2) V2⟩
def cycR (n : Int) (both : Bool) (p : Int) : List Int := [(p + 1).tmod n] ++ (if both then [(p + n - 1).tmod n] else [])
def cycL' (n : Int) (both : Bool) : Nat -> List (List Int)
  | 0 => []
  | p + 1 => cycL' n both p ++ [cycR n both p]
theorem cycL_length (n : Int) (both : Bool) : ∀ p, (cycL' n both p).length = p
  | 0 => rfl
  | p + 1 => by rw [cycL', List.length_append, cycL_length n both p]; rfl
def cycP (n : Nat) (both : Bool) : List (List Int) := cycL' n both n
theorem k_grCycle {h : Heap} (n : Nat) (hn : n ≤ 1000) (both : Bool) (K : Value -> Heap -> Prop) (HK : ∀ t h', OwX h' (Iv h.size h'.size) t (cycP n both) -> Fr No h h' -> K (.agg #[t.v]) h') : callM Try.prog 135 #[VI n, VB both] h K := by
  refine v135 n both h K fun b1 b2 h3 hb1 hb2 f3 hL3 => ?_
  have f3 := f3.in_nil
  have z3 := f3.size
  have l2 : b2 < h3.size := hL3.head.lt
  have l1 : b1 < h3.size := hL3.tail.head.lt
  refine ⟨fun m p x h' => 0 ≤ p /\ p + m = (n : Int) /\ OwX h' (fun k => h3.size ≤ k) x (cycL' n both p.toNat) /\ Fr (fun k => h.size ≤ k) h h' /\ h3.size ≤ h'.size, ⟨n, by omega, by omega, OwR.nil _ _ _ _, f3.of_no, Nat.le_refl _⟩, ?_⟩
  rintro m p x h4 ⟨p0, p1, o4, f4, z4⟩ hL4
  refine ⟨fun e => ?_, fun e => ?_⟩
  · simp only [decide_eq_true_eq] at e
    refine ⟨by omega, ?_⟩
    rw [w64_eq (p + 1) (by omega) (by omega), w64_eq (p + n) (by omega) (by omega), w64_eq (p + n - 1) (by omega) (by omega)]
    have o4i := OwR.toIv o4
    refine eop_lit rIs (fun k => h4.size ≤ k) (fun _ h => h) 1 (by omega) [VI ((p + 1).tmod n)] rfl rfl fun t h5 n5 c5 o5 f5 m5 _ => ⟨t, rfl, hL4.of_no f5, fun y h' => OwI h' (fun k => h4.size ≤ k) y (cycR n both p) /\ OwX h' (Iv h3.size h4.size) x (cycL' n both p.toNat) /\ Fr (fun k => h.size ≤ k) h h' /\ h4.size ≤ h'.size, ⟨fun eb => ⟨by omega, ?_⟩, fun eb => ⟨?_, OwR.no o4i f5, f4.trans f5.of_no, f5.size⟩⟩, ?_⟩
    · refine eop_put (lo := h4.size) (xs := [(p + 1).tmod n]) o5 f5.size (hL4.of_no f5) (fun q hq => by
        simp only [List.mem_cons, List.not_mem_nil, or_false] at hq
        rcases hq with rfl | rfl <;> simp only <;> omega) (by simp) _ fun u h6 o6 f6 V6 => ⟨?_, OwR.fr (OwR.no o4i f5) f6 fun k hk hk2 hk3 => by have := hk2.2; omega, (f4.trans f5.of_no).trans (f6.mono fun k _ hk => by have := f4.size; omega), by have := f5.size; have := f6.size; omega⟩
      unfold cycR
      rw [if_pos eb]; exact o6
    · unfold cycR
      rw [if_neg (by rw [eb]; simp)]
      exact o5
    rintro y h8 ⟨o8, q8, f8, z8⟩ hL8
    refine eop_putR (lo := h3.size) (m := h4.size) q8 o8 z4 z8 hL8 (fun q hq => by
      simp only [List.mem_cons, List.not_mem_nil, or_false] at hq
      rcases hq with rfl | rfl <;> simp only <;> omega) (by rw [cycL_length]; omega) _ fun u h10 o10 f10 V10 h11 f11 hL11 => ?_
    refine ⟨m - 1, by omega, by omega, by omega, ?_, (f8.trans (f10.mono fun k _ hk => by omega)).trans (f11.mono fun k _ hk => by simp [In] at hk; omega), by have := f10.size; have := f11.size; omega⟩
    have ep : (p + 1).toNat = p.toNat + 1 := by omega
    rw [ep, cycL', show ((p.toNat : Nat) : Int) = p by omega]
    exact OwR.fr o10 f11 fun k hk hk2 hk3 => by simp [In] at hk3; omega
  · simp only [decide_eq_false_iff_not] at e
    intro h12 f12 hL12
    have ep : p.toNat = n := by omega
    rw [ep] at o4
    have g12 : Fr (fun k => h.size ≤ k) h4 h12 := f12.mono fun k _ hk => by simp [In] at hk; omega
    have o12 : OwX h12 (fun k => h3.size ≤ k) x (cycL' n both n) := OwR.fr o4 f12 fun k hk hk2 hk3 => by simp [In] at hk3; omega
    exact HK x h12 (OwR.ivs (OwR.toIv o12) z3 (Nat.le_refl _)) ((f4.trans g12).mono fun k hk hk2 => absurd hk2 (by omega))
theorem row_put {L : List (Nat × List Value)} {lo : Nat} {h : Heap} {s : Sl} {xss : List (List Int)} {i : Int} (O : OwX h (fun k => lo ≤ k) s xss) (hlo : lo ≤ h.size) (h0 : 0 ≤ i) (h1 : i < (xss.length : Int)) (hL : Vars h L) (hoff : ∀ p, p ∈ L -> p.1 < lo) (hb : (xss[i.toNat]'(by omega)).length ≤ 1000000) (x : Int) : ∃ si : Sl, hcell h (s.at i 1) = some si.v /\ ∀ R : Heap -> Prop, (∀ h', OwX h' (fun k => lo ≤ k) s (xss.set i.toNat (xss[i.toNat]'(by omega) ++ [x])) -> Fr (fun k => lo ≤ k) h h' -> Vars h' L -> R h') -> eop Try.prog (Instr.buildSlice tIs 1 #[(0, VI x)]) h fun rv h1 => ∃ t : Sl, rv = t.v /\ Vars h1 L /\ hcell h1 (s.at i 1) = some si.v /\ eop Try.prog (appS tIs tIs tIs si.v t.v) h1 fun rv2 h2 => ∃ t2 : Sl, rv2 = t2.v /\ Vars h2 L /\ InB s i /\ Writable h2 (s.at i 1) /\ Vars (hset h2 (s.at i 1) t2.v) L /\ ∀ h3, h3 = hset h2 (s.at i 1) t2.v -> Vars h3 L -> R h3 := by
  have Oi := OwR.toIv O
  obtain ⟨si, c1, c2, _⟩ := Oi.inner h0 h1
  refine ⟨si, c1, fun R HR => ?_⟩
  refine eop_lit rIs (fun k => h.size ≤ k) (fun _ h => h) 1 (by omega) [VI x] rfl rfl fun t h9 n9 c9 o9 f9 m9 _ => ⟨t, rfl, hL.of_no f9, hcell_fr c1 f9 (fun h => h), ?_⟩
  have s9 := f9.size
  have O9 := OwR.no Oi f9
  have c2' : OwI h9 (fun k => lo ≤ k) si (xss[i.toNat]'(by omega)) := (Ow.no c2 f9).mono fun k _ hk => hk.1
  have on := c2'.rd.len
  have tn := o9.rd.len
  simp only [List.length_map, Nat.mul_one, List.length_cons, List.length_nil] at on tn
  refine eop_append rIs c2' (fun k hk => by omega) o9.rd (plainVI [x]) (by omega) fun w h10 n10 o10 f10 d10 => ?_
  have g10 : Fr (fun k => lo ≤ k) h9 h10 := f10.mono fun k _ hk => (c2'.foot hk).1
  have V10 : Vars h10 L := (hL.of_no f9).fr g10 fun p hp hk => by have := hoff p hp; omega
  have o10' : OwI h10 (fun k => lo ≤ k) w (xss[i.toNat]'(by omega) ++ [x]) := by rw [OwI, List.map_append]; exact o10
  obtain ⟨i11, w11, o11, f11⟩ := O9.outer2 h0 h1 (hcell_fr c1 f9 fun h => h) f10 (F' := fun k => lo ≤ k) o10' (fun k _ hk => hk.1) fun k hk => (d10 k hk).imp id fun hk2 hk3 => by have := hk3.2; omega
  have g11 : Fr (fun k => lo ≤ k) h10 _ := (O9.ownF f11).mono fun k _ hk => hk.1
  have V11 := V10.fr g11 fun p hp hk => by have := hoff p hp; omega
  exact ⟨w, rfl, V10, i11, w11, V11, fun h3 e3 V3 => HR h3 (by rw [e3]; exact o11) (by rw [e3]; exact (f9.of_no.trans g10).trans g11) V3⟩
def GR (N : Int) (q : Nat) (xss : List (List Int)) : Prop := ∀ l, l ∈ xss -> l.length ≤ q /\ ∀ x, x ∈ l -> 0 ≤ x /\ x < N
theorem GR.nil (N : Int) (q : Nat) : GR N q [] := fun l hl => by cases hl
theorem GR.snoc {N : Int} {q : Nat} {xss : List (List Int)} {l : List Int} (H : GR N q xss) (h1 : l.length ≤ q) (h2 : ∀ x, x ∈ l -> 0 ≤ x /\ x < N) : GR N q (xss ++ [l]) := fun y hy => by
  rcases List.mem_append.1 hy with a | a
  · exact H y a
  · simp only [List.mem_cons, List.not_mem_nil, or_false] at a; rw [a]; exact ⟨h1, h2⟩
theorem GR.set {N : Int} {q : Nat} {xss : List (List Int)} {l : List Int} (H : GR N q xss) (i : Nat) (h1 : l.length ≤ q) (h2 : ∀ x, x ∈ l -> 0 ≤ x /\ x < N) : GR N q (xss.set i l) := fun y hy => by
  rcases List.mem_or_eq_of_mem_set hy with a | a
  · exact H y a
  · rw [a]; exact ⟨h1, h2⟩
theorem GR.up {N : Int} {q r : Nat} {xss : List (List Int)} (H : GR N q xss) (h : q ≤ r) : GR N r xss := fun l hl => ⟨Nat.le_trans (H l hl).1 h, (H l hl).2⟩
theorem GR.graph {q : Nat} {xss : List (List Int)} (H : GR xss.length q xss) (hq : q ≤ 5) (h1 : 1 ≤ xss.length) (h2 : xss.length ≤ 8) : graphB xss = true := by
  rw [graphB_eq (inR_iff.2 ⟨by omega, by omega⟩), List.all_eq_true]
  intro l hl
  have := H l hl
  rw [Bool.and_eq_true, Bool.not_eq_true', decide_eq_false_iff_not, List.all_eq_true]
  exact ⟨by omega, fun x hx => inR_iff.2 (by have := this.2 x hx; omega)⟩
theorem cyc_GR {n : Nat} (hn : 1 ≤ n) (both : Bool) : GR n 2 (cycP n both) := by
  have key : ∀ p, GR n 2 (cycL' n both p) := by
    intro p
    induction p with
    | zero => exact GR.nil _ _
    | succ p ih =>
      rw [cycL']
      refine ih.snoc ?_ ?_
      · unfold cycR; split <;> simp
      · intro x hx
        unfold cycR at hx
        rcases List.mem_append.1 hx with a | a
        · simp only [List.mem_cons, List.not_mem_nil, or_false] at a
          rw [a]; exact ⟨Int.tmod_nonneg _ (by omega), Int.tmod_lt_of_pos _ (by omega)⟩
        · split at a
          · simp only [List.mem_cons, List.not_mem_nil, or_false] at a
            rw [a]; exact ⟨Int.tmod_nonneg _ (by omega), Int.tmod_lt_of_pos _ (by omega)⟩
          · cases a
  exact key n
theorem k_sureGraph {a n b : Nat} {h : Heap} {c : Sl} {i sd : Int} (V : IsVar h b [c.v, VI i, .int .u64 sd]) (hb : a ≤ b) (D : CurD a n h c i) (hn : n ≤ 1000000000) {most : Int} (hm1 : 1 ≤ most) (hm2 : most ≤ 8) (K : Value -> Heap -> Prop) (HK : ∀ (t : Sl) (xss : List (List Int)) (i' sd' : Int) h', OwX h' (Iv h.size h'.size) t xss -> GR xss.length 4 xss -> 1 ≤ xss.length -> (xss.length : Int) ≤ most -> IsVar h' b [c.v, VI i', .int .u64 sd'] -> CurD a (n + 100) h' c i' -> Fr (In [b]) h h' -> K (.agg #[t.v]) h') : callM Try.prog 118 #[VP b 0, VI most] h K := by
  have lb := V.lt
  refine v118 b c i sd most h K (.cons V (by simp) .nil) fun b2 h1 hb2 f1 hL1 => ?_
  have f1 := f1.in_nil
  have z1 := f1.size
  have l2 : b2 < h1.size := hL1.head.lt
  have fin : ∀ (h' : Heap), Fr (fun k => k = b ∨ h.size ≤ k) h h' -> Fr (In [b]) h h' := fun h' f => f.mono fun k hk hk2 => by
    rcases hk2 with e | e
    · simp [In, e]
    · omega
  have inb : ∀ {x y : Heap}, Fr (In [b]) x y -> Fr (fun k => k = b ∨ h.size ≤ k) x y := fun f => f.mono fun k _ hk => .inl (by simpa [In] using hk)
  refine k_pick hL1.tail.head hb (D.no f1) (by omega) most _ fun r i2 sd2 h2 r0 r1 V2 D2 f2 => ⟨c, i2, sd2, r, rfl, vcur hL1 1 rfl f2 V2, ?_⟩
  have hr := r1 hm1
  rw [w64_eq (1 + r) (by omega) (by omega)]
  have hL2 := vcur hL1 1 rfl f2 V2
  refine k_one V2 hb D2 (by omega) _ _ fun q i3 sd3 h3 V3 D3 f3 => ⟨c, i3, sd3, q, rfl, vcur hL2 1 rfl f3 V3, fun eq => ?_, fun eq => ?_⟩
  · have hL3 := vcur hL2 1 rfl f3 V3
    refine k_one V3 hb D3 (by omega) _ _ fun q4 i4 sd4 h4 V4 D4 f4 => ⟨c, i4, sd4, q4, rfl, vcur hL3 1 rfl f4 V4, ?_⟩
    have hL4 := vcur hL3 1 rfl f4 V4
    have en : (1 + r) = (((1 + r).toNat : Nat) : Int) := by omega
    rw [en]
    refine k_grCycle (1 + r).toNat (by omega) q4 _ fun t h5 o5 f5 => ⟨t, rfl, hL4.of_no f5, fun h6 f6 hL6 => ?_⟩
    have z2 := f2.size
    have z3 := f3.size
    have z4 := f4.size
    have z5 := f5.size
    have o6 : OwX h6 (Iv h4.size h5.size) t (cycP (1 + r).toNat q4) := OwR.fr o5 f6 fun k hk hk2 hk3 => by simp [In] at hk3; have := hk2.1; omega
    have z6 := f6.size
    have hl : (cycP (1 + r).toNat q4).length = (1 + r).toNat := cycL_length _ _ _
    refine HK t _ i4 sd4 h6 (OwR.ivs o6 (by omega) z6) ?_ (by omega) (by omega) hL6.tail.head ?_ (fin h6 ?_)
    · rw [hl]; exact (cyc_GR (by omega) q4).up (by omega)
    · exact (((D4.no f5).fr f6 fun k hk hk2 => by simp [In] at hk2; omega)).up (by omega)
    · exact ((((f1.of_no.trans (inb f2)).trans (inb f3)).trans (inb f4)).trans f5.of_no).trans (f6.mono fun k _ hk => .inr (by simp [In] at hk; omega))
  · intro b3 h8 hb3 f8 hL8
    have f8 := f8.in_nil
    have z2 := f2.size
    have z3 := f3.size
    have z8 := f8.size
    have l3 : b3 < h8.size := hL8.head.lt
    have f08 : Fr (fun k => k = b ∨ h.size ≤ k) h h8 := ((f1.of_no.trans (inb f2)).trans (inb f3)).trans f8.of_no
    refine ⟨fun m p x d i' sd' h' => 0 ≤ p /\ p + m = 1 + r /\ d = c /\ CurD a (n + 4 + 10 * p.toNat) h' c i' /\ (∃ rows, OwX h' (fun k => h8.size ≤ k) x rows /\ GR (1 + r) 3 rows /\ rows.length = p.toNat) /\ Fr (fun k => k = b ∨ h.size ≤ k) h h' /\ h8.size ≤ h'.size, ⟨(1 + r).toNat, by omega, by omega, rfl, (D3.no f8).up (by omega), ⟨[], OwR.nil _ _ _ _, GR.nil _ _, rfl⟩, f08, Nat.le_refl _⟩, ?_⟩
    rintro m p x d i9 sd9 h9 ⟨p0, p1, rfl, D9, ⟨rows, o9, g9, e9⟩, f9, z9⟩ hL9
    have hoff : ∀ (A B C : List Value) (q : Nat × List Value), q ∈ [(b3, A), (b2, B), (b, C)] -> q.1 < h8.size := fun A B C q hq => by
      simp only [List.mem_cons, List.not_mem_nil, or_false] at hq
      rcases hq with rfl | rfl | rfl <;> simp only <;> omega
    refine ⟨fun e => ?_, fun e => ?_⟩
    · simp only [decide_eq_true_eq] at e
      refine k_pick hL9.tail.tail.head hb D9 (by omega) 3 _ fun y i10 sd10 h10 y0 y1 V10 D10 f10 => ⟨d, i10, sd10, y, rfl, vcur hL9 2 rfl f10 V10, ?_⟩
      have y1 := y1 (by omega)
      rw [w64_eq (1 + y) (by omega) (by omega)]
      have z10 := f10.size
      have o10 := OwR.fr (OwR.toIv o9) f10 fun k hk hk2 hk3 => by simp [In] at hk3; have := hk2.1; omega
      refine ⟨fun m l k d' i' sd' h' => m = k.toNat /\ 0 ≤ k /\ d' = d /\ CurD a (n + 6 + 10 * p.toNat + 2 * (3 - k).toNat) h' d i' /\ (∃ ys, OwI h' (fun k => h9.size ≤ k) l ys /\ (∀ x, x ∈ ys -> 0 ≤ x /\ x < 1 + r) /\ (ys.length : Int) + k ≤ 3) /\ OwX h' (Iv h8.size h9.size) x rows /\ Fr (fun k => k = b ∨ h.size ≤ k) h h' /\ h9.size ≤ h'.size, ⟨(1 + y).toNat, rfl, by omega, rfl, D10.up (by omega), ⟨[], Ow.nil _ _ _ _, by simp, by simp; omega⟩, o10, f9.trans (inb f10), z10⟩, ?_⟩
      rintro m2 l k d' i11 sd11 h11 ⟨rfl, k0, rfl, D11, ⟨ys, q11, r11, e11⟩, o11, f11, z11⟩ hL11
      refine ⟨fun ek => ?_, fun ek => ?_⟩
      · simp only [decide_eq_true_eq] at ek
        refine k_pick hL11.tail.tail.head hb D11 (by omega) (1 + r) _ fun w i12 sd12 h12 w0 w1 V12 D12 f12 => ⟨d', i12, sd12, w, rfl, vcur hL11 2 rfl f12 V12, ?_⟩
        have w1 := w1 (by omega)
        have z12 := f12.size
        have q12 : OwI h12 (fun k => h9.size ≤ k) l ys := Ow.fr q11 f12 fun k hk hk3 => by have := (q11.foot hk).1; simp [In] at hk3; omega
        have hL12 := vcur hL11 2 rfl f12 V12
        refine eop_put (lo := h9.size) q12 (by omega) hL12 (fun q hq => by have := hoff _ _ _ q hq; omega) (by omega) _ fun u h14 o14 f14 V14 => ?_
        rw [w64_eq (k - 1) (by omega) (by omega)]
        have z14 := f14.size
        refine ⟨(k - 1).toNat, by omega, rfl, by omega, rfl, ?_, ⟨ys ++ [w], o14, ?_, by simp; omega⟩, ?_, ?_, by omega⟩
        · exact (D12.fr f14 fun k hk hk2 => by omega).up (by omega)
        · intro v hv
          rcases List.mem_append.1 hv with a | a
          · exact r11 v a
          · simp only [List.mem_cons, List.not_mem_nil, or_false] at a; omega
        · refine OwR.fr (OwR.fr o11 f12 fun k hk hk2 hk3 => by simp [In] at hk3; have := hk2.1; omega) f14 fun k hk hk2 hk3 => by have := hk2.2; omega
        · exact (f11.trans (inb f12)).trans (f14.mono fun k _ hk => .inr (by have := f9.size; omega))
      · simp only [decide_eq_false_iff_not] at ek
        have ek0 : k = 0 := by omega
        subst ek0
        refine ⟨fun y2 d2 i2' sd2' h' => d2 = d' /\ (∃ zs, OwI h' (fun k => h9.size ≤ k) y2 zs /\ (∀ x, x ∈ zs -> 0 ≤ x /\ x < 1 + r) /\ zs.length ≤ 3) /\ OwX h' (Iv h8.size h9.size) x rows /\ CurD a (n + 14 + 10 * p.toNat) h' d' i2' /\ Fr (fun k => k = b ∨ h.size ≤ k) h h' /\ h9.size ≤ h'.size, ?_, ?_⟩
        · refine k_one hL11.tail.tail.head hb D11 (by omega) 8 _ fun q15 i15 sd15 h15 V15 D15 f15 => ⟨d', i15, sd15, q15, rfl, vcur hL11 2 rfl f15 V15, fun _ => ?_, fun _ => ?_⟩
          · exact ⟨rfl, ⟨[], Ow.nil _ _ _ _, by simp, by simp⟩, OwR.fr o11 f15 fun k hk hk2 hk3 => by simp [In] at hk3; have := hk2.1; omega, D15.up (by omega), f11.trans (inb f15), by have := f15.size; omega⟩
          · exact ⟨rfl, ⟨ys, Ow.fr q11 f15 fun k hk hk3 => by have := (q11.foot hk).1; simp [In] at hk3; omega, r11, by omega⟩, OwR.fr o11 f15 fun k hk hk2 hk3 => by simp [In] at hk3; have := hk2.1; omega, D15.up (by omega), f11.trans (inb f15), by have := f15.size; omega⟩
        rintro y2 d2 i16 sd16 h16 ⟨rfl, ⟨zs, q16, r16, e16⟩, o16, D16, f16, z16⟩ hL16
        refine eop_putR (lo := h8.size) (m := h9.size) o16 q16 z9 z16 hL16 (fun q hq => hoff _ _ _ q hq) (by omega) _ fun u h18 o18 f18 V18 h19 f19 hL19 => ?_
        rw [w64_eq (p + 1) (by omega) (by omega)]
        have z18 := f18.size
        have z19 := f19.size
        refine ⟨m - 1, by omega, by omega, by omega, rfl, ?_, ⟨rows ++ [zs], OwR.fr o18 f19 fun k hk hk2 hk3 => by simp [In] at hk3; omega, g9.snoc e16 r16, by simp; omega⟩, ?_, by omega⟩
        · exact ((D16.fr f18 fun k hk hk2 => by omega).fr f19 fun k hk hk2 => by simp [In] at hk2; omega).up (by omega)
        · exact (f16.trans (f18.mono fun k _ hk => .inr (by omega))).trans (f19.mono fun k _ hk => .inr (by simp [In] at hk; omega))
    · simp only [decide_eq_false_iff_not] at e
      have hrl : (rows.length : Int) = 1 + r := by omega
      refine k_one hL9.tail.tail.head hb D9 (by omega) 2 _ fun q20 i20 sd20 h20 V20 D20 f20 => ⟨d, i20, sd20, q20, rfl, vcur hL9 2 rfl f20 V20, fun _ => ?_, fun _ => ?_⟩
      · have z20 := f20.size
        have o20 : OwX h20 (fun k => h8.size ≤ k) x rows := OwR.fr o9 f20 fun k hk hk2 hk3 => by simp [In] at hk3; omega
        have hL20 := vcur hL9 2 rfl f20 V20
        refine ⟨fun m2 j h' => 0 ≤ j /\ j + m2 = 1 + r /\ CurD a (n + 100) h' d i20 /\ (∃ rs, OwX h' (fun k => h8.size ≤ k) x rs /\ GR (1 + r) 4 rs /\ (rs.length : Int) = 1 + r /\ ∀ k (hk : k < rs.length), j ≤ (k : Int) -> rs[k].length ≤ 3) /\ Fr (fun k => k = b ∨ h.size ≤ k) h h' /\ h8.size ≤ h'.size, ⟨(1 + r).toNat, by omega, by omega, D20.up (by omega), ⟨rows, o20, g9.up (by omega), hrl, fun k hk _ => (g9 _ (List.getElem_mem hk)).1⟩, f9.trans (inb f20), by omega⟩, ?_⟩
        rintro m2 j h21 ⟨j0, j1, D21, ⟨rs, o21, g21, e21, s21⟩, f21, z21⟩ hL21
        have hxn : (x.n : Int) = 1 + r := by have := OwR.len o21; omega
        refine ⟨fun ej => ?_, fun ej => ?_⟩
        · simp only [decide_eq_true_eq] at ej
          have hj : j < (rs.length : Int) := by omega
          have hsj := s21 j.toNat (by omega) (by omega)
          obtain ⟨si, c1, c2⟩ := row_put o21 z21 j0 hj hL21 (fun q hq => hoff _ _ _ q hq) (by omega) ((w64 (j + 1)).tmod (1 + r))
          refine ⟨(OwR.rd o21).inb j0 hj, si, c1, by omega, c2 _ fun h24 o24 f24 V24 => ?_⟩
          rw [w64_eq (j + 1) (by omega) (by omega)] at o24 ⊢
          refine ⟨m2 - 1, by omega, by omega, by omega, D21.fr f24 fun k hk hk2 => by omega, ⟨_, o24, g21.set _ (by simp; omega) ?_, by simp; omega, fun k hk hk2 => ?_⟩, f21.trans (f24.mono fun k _ hk => .inr (by omega)), by have := f24.size; omega⟩
          · intro v hv
            rcases List.mem_append.1 hv with a | a
            · exact (g21 _ (List.getElem_mem _)).2 v a
            · simp only [List.mem_cons, List.not_mem_nil, or_false] at a
              rw [a]; exact ⟨Int.tmod_nonneg _ (by omega), Int.tmod_lt_of_pos _ (by omega)⟩
          · rw [List.getElem_set, if_neg (by omega)]
            exact s21 k (by simpa using hk) (by omega)
        · intro h25 f25 hL25
          have o25 : OwX h25 (fun k => h8.size ≤ k) x rs := OwR.fr o21 f25 fun k hk hk2 hk3 => by simp [In] at hk3; omega
          refine HK x rs i20 sd20 h25 (OwR.ivs (OwR.toIv o25) (by omega) (Nat.le_refl _)) (by rw [e21]; exact g21) (by omega) (by omega) hL25.tail.tail.head (D21.fr f25 fun k hk hk2 => by simp [In] at hk2; omega) (fin _ (f21.trans (f25.mono fun k _ hk => .inr (by simp [In] at hk; omega))))
      · intro h26 f26 hL26
        have z20 := f20.size
        have o26 : OwX h26 (fun k => h8.size ≤ k) x rows := OwR.fr (OwR.fr o9 f20 fun k hk hk2 hk3 => by simp [In] at hk3; omega) f26 fun k hk hk2 hk3 => by simp [In] at hk3; omega
        refine HK x rows i20 sd20 h26 (OwR.ivs (OwR.toIv o26) (by omega) (Nat.le_refl _)) (by rw [hrl]; exact g9.up (by omega)) (by omega) (by omega) hL26.tail.tail.head ((D20.fr f26 fun k hk hk2 => by simp [In] at hk2; omega).up (by omega)) (fin _ ((f9.trans (inb f20)).trans (f26.mono fun k _ hk => .inr (by simp [In] at hk; omega))))
theorem row_set {L : List (Nat × List Value)} {F : Nat -> Prop} {m : Nat} {h : Heap} {s x : Sl} {xss : List (List Int)} {ys : List Int} {i : Int} (O : OwX h (fun k => F k /\ k < m) s xss) (X : OwI h (fun k => m ≤ k) x ys) (hF : ∀ k, m ≤ k -> F k) (h0 : 0 ≤ i) (h1 : i < (xss.length : Int)) (hL : Vars h L) (hoff : ∀ p, p ∈ L -> ¬ F p.1) (R : Heap -> Prop) (HR : ∀ h', OwX h' F s (xss.set i.toNat ys) -> Fr F h h' -> Vars h' L -> R h') : InB s i /\ Writable h (s.at i 1) /\ Vars (hset h (s.at i 1) x.v) L /\ ∀ h3, h3 = hset h (s.at i 1) x.v -> Vars h3 L -> R h3 := by
  obtain ⟨si, c1, c2, _⟩ := O.inner h0 h1
  obtain ⟨i11, w11, o11, f11⟩ := O.outer2 h0 h1 c1 (Fr.refl _ _) (F' := F) (X.mono fun k _ hk => hF k hk) (fun k _ hk => hk.1) fun k hk => .inr fun hk2 => by have := (X.foot hk).1; have := hk2.2; omega
  have g11 : Fr F h _ := (O.ownF f11).mono fun k _ hk => hk.1
  have V11 := hL.fr g11 hoff
  exact ⟨i11, w11, V11, fun h3 e3 V3 => HR h3 (by rw [e3]; exact o11) (by rw [e3]; exact g11) V3⟩
theorem k_sureWalk {a n b : Nat} {h : Heap} {c : Sl} {i sd : Int} (V : IsVar h b [c.v, VI i, .int .u64 sd]) (hb : a ≤ b) (D : CurD a n h c i) (hn : n ≤ 1000000000) {S : Nat -> Prop} {g : Sl} {xss : List (List Int)} (G : RdR S h g xss) (hS : ¬ S b) (hl : xss.length ≤ 1000) (K : Value -> Heap -> Prop) (HK : ∀ (t : Sl) (rs : List Int) (p i' sd' : Int) h', OwI h' (Iv h.size h'.size) t rs -> rs.length = xss.length -> IsVar h' b [c.v, VI i', .int .u64 sd'] -> CurD a (n + 2 + 2 * xss.length) h' c i' -> Fr (In [b]) h h' -> K (.agg #[t.v, VI p]) h') : callM Try.prog 122 #[VP b 0, .agg #[g.v]] h K := by
  have lb := V.lt
  refine v122 b c i sd g h K (.cons V (by simp) .nil) fun b2 b3 h2 hb2 hb3 f2 hL2 => ?_
  have f2 := f2.in_nil
  have z2 := f2.size
  have l3 : b3 < h2.size := hL2.head.lt
  have l2 : b2 < h2.size := hL2.tail.head.lt
  have fin : ∀ (h' : Heap), Fr (fun k => k = b ∨ h.size ≤ k) h h' -> Fr (In [b]) h h' := fun h' f => f.mono fun k hk hk2 => by
    rcases hk2 with e | e
    · simp [In, e]
    · omega
  have inb : ∀ {x y : Heap}, Fr (In [b]) x y -> Fr (fun k => k = b ∨ h.size ≤ k) x y := fun f => f.mono fun k _ hk => .inl (by simpa [In] using hk)
  have G0 : RdR (fun k => S k /\ k < h.size) h g xss := G.lowS
  have gT : ∀ k, (S k /\ k < h.size) -> ¬ (k = b ∨ h.size ≤ k) := fun k hk hk2 => by
    rcases hk2 with e | e
    · subst e; exact hS hk.1
    · omega
  refine k_pick hL2.tail.tail.head hb (D.no f2) (by omega) _ _ fun r i3 sd3 h3 r0 r1 V3 D3 f3 => ⟨c, i3, sd3, r, rfl, vcur hL2 2 rfl f3 V3, fun b4 h5 hb4 f5 hL5 => ?_⟩
  have f5 := f5.in_nil
  have z3 := f3.size
  have z5 := f5.size
  have l4 : b4 < h5.size := hL5.head.lt
  have gn := G.len
  refine ⟨fun m p x y d i' sd' h' => 0 ≤ p /\ p + m = (xss.length : Int) /\ y = r /\ d = c /\ CurD a (n + 2 + 2 * p.toNat) h' c i' /\ (∃ rs, OwI h' (fun k => h5.size ≤ k) x rs /\ rs.length = p.toNat) /\ Fr (fun k => k = b ∨ h.size ≤ k) h h' /\ h5.size ≤ h'.size, ⟨xss.length, by omega, by omega, rfl, rfl, (D3.no f5).up (by omega), ⟨[], Ow.nil _ _ _ _, rfl⟩, (f2.of_no.trans (inb f3)).trans f5.of_no, Nat.le_refl _⟩, ?_⟩
  rintro m p x y d i6 sd6 h6 ⟨p0, p1, rfl, rfl, D6, ⟨rs, o6, e6⟩, f6, z6⟩ hL6
  have G6 := G0.fr f6 gT
  refine ⟨fun e => ?_, fun e => ?_⟩
  · simp only [decide_eq_true_eq] at e
    obtain ⟨si, c1, r6⟩ := G6.get p0 (by omega)
    refine ⟨G6.inb p0 (by omega), si, c1, fun w d2 i' sd' h' => d2 = d /\ CurD a (n + 2 + 2 * p.toNat + 2) h' d i' /\ OwI h' (fun k => h5.size ≤ k) x rs /\ Fr (fun k => k = b ∨ h.size ≤ k) h h' /\ h5.size ≤ h'.size, ⟨fun _ => ?_, fun _ => ⟨rfl, D6.up (by omega), o6, f6, z6⟩⟩, ?_⟩
    · refine k_pick hL6.tail.tail.tail.head hb D6 (by omega) _ _ fun w i7 sd7 h7 w0 w1 V7 D7 f7 => ⟨d, i7, sd7, w, rfl, vcur hL6 3 rfl f7 V7, rfl, D7, Ow.fr o6 f7 fun k hk hk3 => by have := (o6.foot hk).1; simp [In] at hk3; omega, f6.trans (inb f7), by have := f7.size; omega⟩
    rintro w d2 i8 sd8 h8 ⟨rfl, D8, o8, f8, z8⟩ hL8
    refine eop_put (lo := h5.size) o8 z8 hL8 (fun q hq => by
      simp only [List.mem_cons, List.not_mem_nil, or_false] at hq
      rcases hq with rfl | rfl | rfl | rfl <;> simp only <;> omega) (by omega) _ fun u h10 o10 f10 V10 h11 f11 hL11 => ?_
    rw [w64_eq (p + 1) (by omega) (by omega)]
    have z10 := f10.size
    have z11 := f11.size
    refine ⟨m - 1, by omega, by omega, by omega, rfl, rfl, ?_, ⟨rs ++ [w], Ow.fr o10 f11 fun k hk hk3 => by have := (o10.foot hk).1; simp [In] at hk3; omega, by simp; omega⟩, ?_, by omega⟩
    · exact ((D8.fr f10 fun k hk hk2 => by omega).fr f11 fun k hk hk2 => by simp [In] at hk2; omega).up (by omega)
    · exact (f8.trans (f10.mono fun k _ hk => .inr (by omega))).trans (f11.mono fun k _ hk => .inr (by simp [In] at hk; omega))
  · simp only [decide_eq_false_iff_not] at e
    intro h12 f12 hL12
    have o12 : OwI h12 (fun k => h5.size ≤ k) x rs := Ow.fr o6 f12 fun k hk hk3 => by have := (o6.foot hk).1; simp [In] at hk3; omega
    refine HK x rs y i6 sd6 h12 (Ow.ivs (Ow.toIv o12) (by omega) (Nat.le_refl _)) (by omega) hL12.tail.tail.tail.head ?_ (fin _ (f6.trans (f12.mono fun k _ hk => .inr (by simp [In] at hk; omega))))
    exact (D6.fr f12 fun k hk hk2 => by simp [In] at hk2; omega).up (by omega)
theorem int_set {L : List (Nat × List Value)} {F : Nat -> Prop} {h : Heap} {s : Sl} {xs : List Int} {i : Int} {v : Int} (O : OwI h F s xs) (h0 : 0 ≤ i) (h1 : i < (xs.length : Int)) (hL : Vars h L) (hoff : ∀ p, p ∈ L -> ¬ F p.1) (R : Heap -> Prop) (HR : ∀ h', OwI h' F s (xs.set i.toNat v) -> Fr F h h' -> Vars h' L -> R h') : InB s i /\ Writable h (s.at i 1) /\ Vars (hset h (s.at i 1) (VI v)) L /\ ∀ h3, h3 = hset h (s.at i 1) (VI v) -> Vars h3 L -> R h3 := by
  have on := O.rd.len
  simp only [List.length_map, Nat.mul_one] at on
  obtain ⟨w1, w2, w3⟩ := O.store1 h0 (by omega) (VI v)
  have g : Fr F h _ := w3.mono fun k _ hk => (O.foot hk).1
  have V := hL.fr g hoff
  exact ⟨O.rd.inb h0 (by simp; omega), w1, V, fun h3 e3 V3 => HR h3 (by rw [e3, OwI, List.map_set]; exact w2) (by rw [e3]; exact g) V3⟩
theorem cell_keep {S T : Nat -> Prop} {h h' : Heap} {s : Sl} {xss : List (List Int)} {i : Int} (R : RdR S h s xss) (h0 : 0 ≤ i) (h1 : i < (xss.length : Int)) (f : Fr T h h') (hd : ∀ k, S k -> ¬ T k) {v : Value} (c : hcell h (s.at i 1) = some v) : hcell h' (s.at i 1) = some v := by
  obtain ⟨ss, e, V, _⟩ := R.out
  obtain ⟨a, ha, hs, _⟩ := V.cell i.toNat (by simp; omega)
  refine hcell_fr c f ?_
  rw [at_one ha, add_block]
  exact hd _ hs
theorem slv_inj {a b : Sl} (h : some a.v = some b.v) : a = b := by
  cases a; cases b; simp [Sl.v] at h; simp [h]
theorem row_putF {L : List (Nat × List Value)} {F : Nat -> Prop} {h : Heap} {s si : Sl} {xss : List (List Int)} {i : Int} (O : OwX h F s xss) (hF : ∀ k, h.size ≤ k -> F k) (h0 : 0 ≤ i) (h1 : i < (xss.length : Int)) (c0 : hcell h (s.at i 1) = some si.v) (hL : Vars h L) (hoff : ∀ p, p ∈ L -> ¬ F p.1) (hb : (xss[i.toNat]'(by omega)).length ≤ 1000000) (x : Int) (R : Heap -> Prop) (HR : ∀ h', OwX h' F s (xss.set i.toNat (xss[i.toNat]'(by omega) ++ [x])) -> Fr F h h' -> Vars h' L -> R h') : eop Try.prog (Instr.buildSlice tIs 1 #[(0, VI x)]) h fun rv h1 => ∃ t : Sl, rv = t.v /\ Vars h1 L /\ hcell h1 (s.at i 1) = some si.v /\ eop Try.prog (appS tIs tIs tIs si.v t.v) h1 fun rv2 h2 => ∃ t2 : Sl, rv2 = t2.v /\ Vars h2 L /\ InB s i /\ Writable h2 (s.at i 1) /\ Vars (hset h2 (s.at i 1) t2.v) L /\ ∀ h3, h3 = hset h2 (s.at i 1) t2.v -> Vars h3 L -> R h3 := by
  have Oi : OwX h (fun k => F k /\ k < h.size) s xss := O.mono fun k hk hk2 => ⟨hk2, hk⟩
  obtain ⟨sj, c1, c2, _⟩ := Oi.inner h0 h1
  have : sj = si := slv_inj (c1.symm.trans c0)
  subst this
  refine eop_lit rIs (fun k => h.size ≤ k) (fun _ h => h) 1 (by omega) [VI x] rfl rfl fun t h9 n9 c9 o9 f9 m9 _ => ⟨t, rfl, hL.of_no f9, hcell_fr c1 f9 (fun h => h), ?_⟩
  have s9 := f9.size
  have O9 := OwR.no Oi f9
  have c2' : OwI h9 F sj (xss[i.toNat]'(by omega)) := (Ow.no c2 f9).mono fun k _ hk => hk.1
  have on := c2'.rd.len
  have tn := o9.rd.len
  simp only [List.length_map, Nat.mul_one, List.length_cons, List.length_nil] at on tn
  refine eop_append rIs c2' (fun k hk => hF k (by omega)) o9.rd (plainVI [x]) (by omega) fun w h10 n10 o10 f10 d10 => ?_
  have g10 : Fr F h9 h10 := f10.mono fun k _ hk => (c2'.foot hk).1
  have V10 : Vars h10 L := (hL.of_no f9).fr g10 hoff
  have o10' : OwI h10 F w (xss[i.toNat]'(by omega) ++ [x]) := by rw [OwI, List.map_append]; exact o10
  obtain ⟨i11, w11, o11, f11⟩ := O9.outer2 h0 h1 (hcell_fr c1 f9 fun h => h) f10 (F' := F) o10' (fun k _ hk => hk.1) fun k hk => (d10 k hk).imp id fun hk2 hk3 => by have := hk3.2; omega
  have g11 : Fr F h10 _ := (O9.ownF f11).mono fun k _ hk => hk.1
  have V11 := V10.fr g11 hoff
  exact ⟨w, rfl, V10, i11, w11, V11, fun h3 e3 V3 => HR h3 (by rw [e3]; exact o11) (by rw [e3]; exact (f9.of_no.trans g10).trans g11) V3⟩
theorem eop_putF {L : List (Nat × List Value)} {F : Nat -> Prop} {m : Nat} {h : Heap} {s x : Sl} {xss : List (List Int)} {ys : List Int} (O : OwX h (fun k => F k /\ k < m) s xss) (X : OwI h (fun k => m ≤ k) x ys) (hF : ∀ k, m ≤ k -> F k) (hm : m ≤ h.size) (hL : Vars h L) (hoff : ∀ p, p ∈ L -> ¬ F p.1) (hb : xss.length ≤ 1000000) (R : Sl -> Heap -> Prop) (HR : ∀ t h', OwX h' F t (xss ++ [ys]) -> Fr F h h' -> Vars h' L -> R t h') : eop Try.prog (Instr.buildSlice tIss 1 #[(0, x.v)]) h fun rv h1 => ∃ t : Sl, rv = t.v /\ Vars h1 L /\ eop Try.prog (appS tIss tIss tIss s.v t.v) h1 fun rv2 h2 => ∃ t2 : Sl, rv2 = t2.v /\ Vars h2 L /\ R t2 h2 := by
  refine eop_lit rIss (fun k => h.size ≤ k) (fun _ h => h) 1 (by omega) [x.v] rfl rfl fun t h1 n1 c1 o1 f1 m1 _ => ⟨t, rfl, hL.of_no f1, ?_⟩
  have z1 := f1.size
  refine OwR.snoc rIss (OwR.no O f1) (F' := F) (fun k _ hk => hk.1) (fun k hk => hF k (by omega)) ((Ow.no X f1).mono fun k _ hk => hF k hk) (fun k hk hk2 => by have := (X.foot hk).1; have := hk2.2; omega) o1.rd (by omega) fun y h2 o2 f2 => ?_
  have g2 : Fr F h1 h2 := f2.mono fun k _ hk => hk.1
  have V2 : Vars h2 L := (hL.of_no f1).fr g2 hoff
  exact ⟨y, rfl, V2, HR y h2 o2 (f1.of_no.trans g2) V2⟩
theorem k_drplace {a n b : Nat} {h : Heap} {c : Sl} {i sd : Int} (V : IsVar h b [c.v, VI i, .int .u64 sd]) (hb : a ≤ b) (D : CurD a n h c i) (hn : n ≤ 10000000) (g : Sl) (K : Value -> Heap -> Prop) (HK : ∀ (p i' sd' : Int) h', IsVar h' b [c.v, VI i', .int .u64 sd'] -> CurD a (n + 4) h' c i' -> Fr (In [b]) h h' -> K (VI p) h') : callM Try.prog 69 #[VP b 0, .agg #[g.v]] h K := by
  have lb := V.lt
  have ub : ∀ {x y z : Heap}, Fr No x y -> Fr (In [b]) y z -> Fr (In [b]) x z := fun f g => f.of_no.trans g
  refine v69 b c i sd g h K (.cons V (by simp) .nil) ⟨fun _ b2 h1 hb2 f1 hL1 => ?_, fun e b2 h1 hb2 f1 hL1 => ?_⟩
  · have f1 := f1.in_nil
    have z1 := f1.size
    refine eop_lit rIs (fun k => h1.size ≤ k) (fun _ h => h) 4 (by omega) [VI (-1), VI 0, VI (g.n : Int), VI 4611686018427387904] rfl rfl fun w h6 n6 c6 o6 f6 m6 _ => ⟨w, rfl, hL1.of_no f6, ?_⟩
    have r6 : RdI (fun k => h1.size ≤ k) h6 w [-1, 0, (g.n : Int), 4611686018427387904] := o6.rdF
    exact k_among (hL1.of_no f6).tail.head hb ((D.no f1).no f6) (by omega) r6 (by omega) (by simp) _ fun v i7 sd7 h7 hv V7 D7 f7 => ⟨c, i7, sd7, v, rfl, vcur (hL1.of_no f6) 1 rfl f7 V7, HK v i7 sd7 h7 V7 (D7.up (by omega)) (ub (f1.no_trans f6) f7)⟩
  · have f1 := f1.in_nil
    have z1 := f1.size
    refine k_one hL1.tail.head hb (D.no f1) (by omega) 14 _ fun q i2 sd2 h2 V2 D2 f2 => ⟨c, i2, sd2, q, rfl, vcur hL1 1 rfl f2 V2, fun _ => ?_, fun _ => ?_⟩
    · have z2 := f2.size
      have hL2 := vcur hL1 1 rfl f2 V2
      refine eop_lit rIs (fun k => h2.size ≤ k) (fun _ h => h) 4 (by omega) [VI (-1), VI 0, VI (g.n : Int), VI 4611686018427387904] rfl rfl fun w h6 n6 c6 o6 f6 m6 _ => ⟨w, rfl, hL2.of_no f6, ?_⟩
      have r6 : RdI (fun k => h2.size ≤ k) h6 w [-1, 0, (g.n : Int), 4611686018427387904] := o6.rdF
      exact k_among (hL2.of_no f6).tail.head hb (D2.no f6) (by omega) r6 (by omega) (by simp) _ fun v i7 sd7 h7 hv V7 D7 f7 => ⟨c, i7, sd7, v, rfl, vcur (hL2.of_no f6) 1 rfl f7 V7, HK v i7 sd7 h7 V7 (D7.up (by omega)) ((ub f1 f2).trans (ub f6 f7))⟩
    · have hL2 := vcur hL1 1 rfl f2 V2
      exact k_pick hL2.tail.head hb D2 (by omega) _ _ fun v i5 sd5 h5 v0 v1 V5 D5 f5 => ⟨c, i5, sd5, v, rfl, vcur hL2 1 rfl f5 V5, HK v i5 sd5 h5 V5 (D5.up (by omega)) ((ub f1 f2).trans f5)⟩
theorem k_drgraph9 {a n b : Nat} {h : Heap} {c : Sl} {i sd : Int} (V : IsVar h b [c.v, VI i, .int .u64 sd]) (hb : a ≤ b) (D : CurD a n h c i) (hn : n ≤ 10000000) (K : Value -> Heap -> Prop) (HK : ∀ (t : Sl) (gs : List (List Int)) (i' sd' : Int) h', gs.length ≤ 9 -> RdR (fun k => h.size ≤ k) h' t gs -> IsVar h' b [c.v, VI i', .int .u64 sd'] -> CurD a (n + 200) h' c i' -> Fr (In [b]) h h' -> K (.agg #[t.v]) h') : callM Try.prog 68 #[VP b 0] h K := by
  have lb := V.lt
  refine v68 b c i sd h K (.cons V (by simp) .nil) fun b2 h1 hb2 f1 hL1 => ?_
  have f1 := f1.in_nil
  have z1 := f1.size
  have l2 : b2 < h1.size := hL1.head.lt
  have fin : ∀ (h' : Heap), Fr (fun k => k = b ∨ h.size ≤ k) h h' -> Fr (In [b]) h h' := fun h' f => f.mono fun k hk hk2 => by
    rcases hk2 with e | e
    · simp [In, e]
    · omega
  have inb : ∀ {x y : Heap}, Fr (In [b]) x y -> Fr (fun k => k = b ∨ h.size ≤ k) x y := fun f => f.mono fun k _ hk => .inl (by simpa [In] using hk)
  refine k_sureGraph hL1.tail.head hb (D.no f1) (by omega) (most := 6) (by omega) (by omega) _ fun t xss i2 sd2 h2 o2 g2 n1 n2 V2 D2 f2 => ⟨c, i2, sd2, t, rfl, vcur hL1 1 rfl f2 V2, fun b3 h4 hb3 f4 hL4 => ?_⟩
  have f4 := f4.in_nil
  have z2 := f2.size
  have z4 := f4.size
  have l3 : b3 < h4.size := hL4.head.lt
  have tn := OwR.len o2
  generalize hF : (fun k => (h1.size ≤ k /\ k < h2.size) ∨ h4.size ≤ k) = F
  have F1 : ∀ k, F k -> h1.size ≤ k := fun k hk => by rw [← hF] at hk; rcases hk with a | a <;> omega
  have F2 : ∀ k, h4.size ≤ k -> F k := fun k hk => by rw [← hF]; exact .inr hk
  have F3 : ¬ F b3 := fun hk => by rw [← hF] at hk; rcases hk with a | a <;> omega
  have o4 : OwX h4 F t xss := (OwR.no o2 f4).mono fun k hk hk2 => by rw [← hF]; exact .inl hk2
  have f04 : Fr (fun k => k = b ∨ h.size ≤ k) h h4 := (f1.of_no.trans (inb f2)).trans f4.of_no
  have gb : ∀ {X Y : Heap} {w : Sl} {zs : List (List Int)}, OwX X F w zs -> Fr (In [b]) X Y -> OwX Y F w zs := fun O f => OwR.fr O f fun k hk hk2 hk3 => by simp [In] at hk3; have := F1 _ hk2; omega
  have fT : ∀ {x y : Heap}, Fr F x y -> Fr (fun k => k = b ∨ h.size ≤ k) x y := fun f => f.mono fun k _ hk => .inr (by have := F1 _ hk; omega)
  have hoff : ∀ (A B C : List Value) (q : Nat × List Value), q ∈ [(b3, A), (b2, B), (b, C)] -> ¬ F q.1 := fun A B C q hq => by
    simp only [List.mem_cons, List.not_mem_nil, or_false] at hq
    rcases hq with rfl | rfl | rfl
    · exact F3
    · exact fun hk => by have := F1 _ hk; omega
    · exact fun hk => by have := F1 _ hk; omega
  have out : ∀ (w : Sl) (zs : List (List Int)) (i' sd' : Int) (X Y : Heap), OwX X F w zs -> zs.length ≤ 9 -> CurD a (n + 200) X c i' -> Fr (fun k => k = b ∨ h.size ≤ k) h X -> Fr (In [b2]) X Y -> IsVar Y b [c.v, VI i', .int .u64 sd'] -> K (.agg #[w.v]) Y := fun w zs i' sd' X Y O zl DD ff f VV => by
    have OY : OwX Y F w zs := OwR.fr O f fun k hk hk2 hk3 => by simp [In] at hk3; subst hk3; have := F1 _ hk2; omega
    exact HK w zs i' sd' Y zl ((OwR.rd OY).mono fun k hk => by have := F1 _ hk.1; omega) VV (DD.fr f fun k hk hk2 => by simp [In] at hk2; omega) (fin _ (ff.trans (f.mono fun k _ hk => .inr (by simp [In] at hk; omega))))
  refine k_pick hL4.tail.tail.head hb (D2.no f4) (by omega) 16 _ fun s i5 sd5 h5 s0 s1 V5 D5 f5 => ⟨c, i5, sd5, s, rfl, vcur hL4 2 rfl f5 V5, fun _ => ?_, fun _ => ⟨fun _ => ?_, fun _ => ⟨fun _ => ?_, fun _ => ⟨fun _ h24 f24 hL24 => ?_, fun _ h25 f25 hL25 => ?_⟩⟩⟩⟩
  · have o5 := gb o4 f5
    have z5 := f5.size
    have hL5 : Vars h5 [(b3, [t.v]), (b2, [nilSl.v]), (b, [c.v, VI i5, .int .u64 sd5])] := vcur hL4 2 rfl f5 V5
    have hp : (0 : Int) < (xss.length : Int) := by omega
    obtain ⟨si, c1, c2, _⟩ := OwR.inner o5 (Int.le_refl 0) hp
    have r5 := OwR.rd o5
    refine ⟨r5.inb (Int.le_refl 0) hp, si, c1, ?_⟩
    refine eop_lit rIs (fun k => h5.size ≤ k) (fun _ h => h) 3 (by omega) [VI (-1), VI (t.n : Int), VI 4611686018427387904] rfl rfl fun w h6 n6 c6 o6 f6 m6 _ => ⟨w, rfl, hL5.of_no f6, hcell_fr c1 f6 (fun h => h), ?_⟩
    have z6 := f6.size
    have r6 : RdI (fun k => h5.size ≤ k) h6 w [-1, (t.n : Int), 4611686018427387904] := o6.rdF
    refine k_among (hL5.of_no f6).tail.tail.head hb (D5.no f6) (by omega) r6 (by omega) (by simp) _ fun v i7 sd7 h7 hv V7 D7 f7 => ⟨c, i7, sd7, v, rfl, vcur (hL5.of_no f6) 2 rfl f7 V7, ?_⟩
    have z7 := f7.size
    have hL7 : Vars h7 [(b3, [t.v]), (b2, [nilSl.v]), (b, [c.v, VI i7, .int .u64 sd7])] := vcur (hL5.of_no f6) 2 rfl f7 V7
    have c7 : hcell h7 (t.at 0 1) = some si.v := cell_keep (r5.no f6) (Int.le_refl 0) hp f7 (fun k hk hk2 => by simp [In] at hk2; have := F1 _ hk.1; omega) (hcell_fr c1 f6 fun h => h)
    have g0 := (g2 _ (List.getElem_mem (show (0 : Int).toNat < xss.length by omega))).1
    refine ⟨c7, row_putF (gb (OwR.no o5 f6) f7) (fun k hk => F2 k (by omega)) (Int.le_refl 0) hp c7 hL7 (fun q hq => hoff _ _ _ q hq) (by omega) v _ fun h10 o10 f10 V10 h11 f11 hL11 => ?_⟩
    exact out t _ i7 sd7 h10 h11 o10 (by simp; omega) ((D7.fr f10 fun k hk hk2 => by have := F1 _ hk2; omega).up (by omega)) ((((f04.trans (inb f5)).trans f6.of_no).trans (inb f7)).trans (fT f10)) f11 hL11.tail.tail.head
  · have o5 := gb o4 f5
    have z5 := f5.size
    have hL5 : Vars h5 [(b3, [t.v]), (b2, [nilSl.v]), (b, [c.v, VI i5, .int .u64 sd5])] := vcur hL4 2 rfl f5 V5
    have hp : (0 : Int) < (xss.length : Int) := by omega
    refine k_pick hL5.tail.tail.head hb D5 (by omega) 2 _ fun y i6 sd6 h6 y0 y1 V6 D6 f6 => ⟨c, i6, sd6, y, rfl, vcur hL5 2 rfl f6 V6, ?_⟩
    have y1 := y1 (by omega)
    have z6 := f6.size
    have hL6 : Vars h6 [(b3, [t.v]), (b2, [nilSl.v]), (b, [c.v, VI i6, .int .u64 sd6])] := vcur hL5 2 rfl f6 V6
    rw [w64_eq (5 + y) (by omega) (by omega)]
    have ey : 5 + y = (((5 + y).toNat : Nat) : Int) := by omega
    rw [ey]
    refine eop_make rIs (fun k => h6.size ≤ k) (fun _ h => h) .i64 .i64 (5 + y).toNat (5 + y).toNat (Nat.le_refl _) (by omega) fun w h7 n7 c7 o7 f7 m7 _ => ⟨w, rfl, hL6.of_no f7, ?_⟩
    have z7 := f7.size
    have o7' : OwI h7 (fun k => h6.size ≤ k) w (List.replicate (5 + y).toNat 0) := by
      have e : (List.replicate (5 + y).toNat [VI 0]).flatten = (List.replicate (5 + y).toNat (0 : Int)).map VI := by simp [List.flatten_replicate_singleton]
      rw [e] at o7; exact o7
    have o6i : OwX h6 (fun k => F k /\ k < h6.size) t xss := (gb o5 f6).mono fun k hk hk2 => ⟨hk2, hk⟩
    exact row_set (m := h6.size) (OwR.no o6i f7) o7' (fun k hk => F2 k (by omega)) (Int.le_refl 0) hp (hL6.of_no f7) (fun q hq => hoff _ _ _ q hq) _ fun h10 o10 f10 V10 h11 f11 hL11 => out t _ i6 sd6 h10 h11 o10 (by simp; omega) (((D6.no f7).fr f10 fun k hk hk2 => by have := F1 _ hk2; omega).up (by omega)) ((((f04.trans (inb f5)).trans (inb f6)).trans f7.of_no).trans (fT f10)) f11 hL11.tail.tail.head
  · have o5 := gb o4 f5
    have z5 := f5.size
    refine ⟨fun m x d i' sd' h' => d = c /\ CurD a (n + 104 + 4 * (9 - m)) h' c i' /\ m ≤ 9 /\ (∃ zs, OwX h' F x zs /\ zs.length + m = 9) /\ Fr (fun k => k = b ∨ h.size ≤ k) h h' /\ h4.size ≤ h'.size, ⟨9 - xss.length, rfl, D5.up (by omega), by omega, ⟨xss, o5, by omega⟩, f04.trans (inb f5), by omega⟩, ?_⟩
    rintro m x d i16 sd16 h16 ⟨rfl, D16, m9, ⟨zs, o16, e16⟩, f16, z16⟩ hL16
    have xn := OwR.len o16
    refine k_pick hL16.tail.tail.head hb D16 (by omega) 2 _ fun y i17 sd17 h17 y0 y1 V17 D17 f17 => ⟨d, i17, sd17, y, rfl, vcur hL16 2 rfl f17 V17, fun e => ?_, fun e h22 f22 hL22 => ?_⟩
    · have y1 := y1 (by omega)
      have z17 := f17.size
      rw [w64_eq (8 + y) (by omega) (by omega)] at e
      simp only [decide_eq_true_eq] at e
      have hL17 : Vars h17 [(b3, [x.v]), (b2, [nilSl.v]), (b, [d.v, VI i17, .int .u64 sd17])] := vcur hL16 2 rfl f17 V17
      refine eop_lit rIs (fun k => h17.size ≤ k) (fun _ h => h) 1 (by omega) [VI 0] rfl rfl fun w h18 n18 c18 o18 f18 m18 _ => ⟨w, rfl, hL17.of_no f18, ?_⟩
      have z18 := f18.size
      have o17i : OwX h17 (fun k => F k /\ k < h17.size) x zs := (gb o16 f17).mono fun k hk hk2 => ⟨hk2, hk⟩
      refine eop_putF (m := h17.size) (xss := zs) (ys := [0]) (OwR.no o17i f18) o18 (fun k hk => F2 k (by omega)) z18 (hL17.of_no f18) (fun q hq => hoff _ _ _ q hq) (by omega) _ fun u h20 o20 f20 V20 h21 f21 hL21 => ?_
      have z20 := f20.size
      have z21 := f21.size
      have o21 : OwX h21 F u (zs ++ [[0]]) := OwR.fr o20 f21 fun k hk hk2 hk3 => by simp [In] at hk3; subst hk3; exact F3 hk2
      refine ⟨m - 1, by omega, rfl, ?_, by omega, ⟨_, o21, by simp; omega⟩, ?_, by omega⟩
      · exact (((D17.no f18).fr f20 fun k hk hk2 => by have := F1 _ hk2; omega).fr f21 fun k hk hk2 => by simp [In] at hk2; omega).up (by omega)
      · exact (((f16.trans (inb f17)).trans f18.of_no).trans (fT f20)).trans (f21.mono fun k _ hk => .inr (by simp [In] at hk; omega))
    · exact out x zs i17 sd17 h17 h22 (gb o16 f17) (by omega) (D17.up (by omega)) (f16.trans (inb f17)) f22 hL22.tail.tail.head
  · have g24 : Fr (fun k => k = b ∨ h.size ≤ k) h5 h24 := f24.mono fun k _ hk => .inr (by simp [In] at hk; omega)
    exact HK nilSl [] i5 sd5 h24 (by simp) ⟨[], rfl, RdV.nil _ _ _, fun i h1 => by simp at h1⟩ hL24.tail.tail.head ((D5.fr f24 fun k hk hk2 => by simp [In] at hk2; omega).up (by omega)) (fin _ ((f04.trans (inb f5)).trans g24))
  · exact out t xss i5 sd5 h5 h25 (gb o4 f5) (by omega) (D5.up (by omega)) (f04.trans (inb f5)) f25 hL25.tail.tail.head
theorem k_big (s t : Sl) (h : Heap) (K : Value -> Heap -> Prop) (HK : ∀ b, K (VB b) h) : callM Try.prog 6 #[s.v, t.v] h K :=
  v6 s t h K ⟨fun _ => HK true, fun _ => HK _⟩
theorem k_wSame {S S' : Nat -> Prop} {h : Heap} {a b : Sl} {xs ys : List Int} (H : RdI S h a xs) (H' : RdI S' h b ys) (K : Value -> Heap -> Prop) (HK : K (VB (decide (xs = ys))) h) : callM Try.prog 32 #[a.v, b.v] h K := by
  refine v32 a b h K ⟨fun e => ?_, fun e => ?_⟩
  · have e1 := not_t e
    rw [H.len, H'.len] at e1
    have : ¬ xs = ys := fun e2 => by subst e2; simp at e1
    rw [decide_eq_false this] at HK
    exact HK
  · have e1 := not_f e
    rw [H.len, H'.len] at e1
    have hl : xs.length = ys.length := by simp at e1; omega
    refine ⟨fun n i h' => h' = h /\ 0 ≤ i /\ i + n = (xs.length : Int) /\ decide (xs = ys) = decide (xs.drop i.toNat = ys.drop i.toNat), ⟨xs.length, rfl, by omega, by omega, by simp⟩, ?_⟩
    rintro n i hh ⟨rfl, h0, h1, h2⟩ hL
    refine ⟨fun e => ?_, fun e => ?_⟩
    · have hi := H.lt e
      have hi' : i < (ys.length : Int) := by omega
      refine ⟨H.inb h0 hi, _, H.get h0 hi, H'.inb h0 hi', _, H'.get h0 hi', fun e => ?_, fun e => ?_⟩
      · rw [drop_cons xs h0 hi, drop_cons ys h0 hi'] at h2
        have e3 := not_t e
        simp only [decide_eq_false_iff_not] at e3
        rw [h2, decide_eq_false (fun e4 => e3 (List.cons.inj e4).1)] at HK
        exact HK
      · rw [drop_cons xs h0 hi, drop_cons ys h0 hi'] at h2
        have e3 := not_f e
        simp only [decide_eq_true_eq] at e3
        rw [H.succ h0 hi]
        refine ⟨n - 1, by omega, rfl, by omega, by omega, h2.trans ?_⟩
        rw [e3]
        simp
    · have hi := H.ge e
      rw [List.drop_of_length_le (by omega), List.drop_of_length_le (by omega)] at h2
      rw [h2] at HK
      exact HK
def inA (m : Nat) (xs : List Int) : Prop := ∀ y, y ∈ xs -> 0 ≤ y /\ y < (m : Int)
theorem inA.set {m : Nat} {xs : List Int} (H : inA m xs) (i : Nat) {v : Int} (h0 : 0 ≤ v) (h1 : v < (m : Int)) : inA m (xs.set i v) := fun y hy => by
  rcases List.mem_or_eq_of_mem_set hy with h | h
  · exact H y h
  · subst h; exact ⟨h0, h1⟩
theorem inA.get {m : Nat} {xs : List Int} (H : inA m xs) {i : Nat} (hi : i < xs.length) : 0 ≤ xs[i] /\ xs[i] < (m : Int) := H _ (List.getElem_mem hi)
theorem k_shufB {a n b : Nat} {h : Heap} {c : Sl} {i sd : Int} (V : IsVar h b [c.v, VI i, .int .u64 sd]) (hb : a ≤ b) (D : CurD a n h c i) (hn : n ≤ 1000000000) {m : Nat} (hm : m ≤ 100) (K : Value -> Heap -> Prop) (HK : ∀ (t : Sl) (xs : List Int) (i' sd' : Int) h', OwI h' (fun k => h.size ≤ k) t xs -> xs.length = m -> inA m xs -> IsVar h' b [c.v, VI i', .int .u64 sd'] -> CurD a (n + 200) h' c i' -> Fr (In [b]) h h' -> K t.v h') : callM Try.prog 136 #[VP b 0, VI (m : Int)] h K := by
  have lb := V.lt
  refine v136 b c i sd m h K (.cons V (by simp) .nil) ⟨fun n x p h' => 0 ≤ p /\ p + n = (m : Int) /\ (∃ xs, OwI h' (fun k => h.size ≤ k) x xs /\ xs.length = p.toNat /\ inA m xs) /\ Fr No h h', ⟨m, by omega, by omega, ⟨[], Ow.nil _ _ _ _, rfl, fun y hy => by cases hy⟩, Fr.refl _ _⟩, ?_⟩
  rintro n1 x p h1 ⟨p0, p1, ⟨xs, o1, e1, A1⟩, f1⟩ hL1
  have z1 := f1.size
  refine ⟨fun e => ?_, fun e => ?_⟩
  · simp only [decide_eq_true_eq] at e
    refine eop_putI o1 (fun k hk => by omega) hL1 (fun q hq hk => ?_) (by omega) (fun t2 h6 => ∃ m : Nat, m < n1 /\ _) fun y h3 o3 f3 V3 => ?_
    · simp only [List.mem_cons, List.not_mem_nil, or_false] at hq
      subst hq
      simp only at hk
      omega
    · rw [w64_eq _ (by omega) (by omega)]
      refine ⟨n1 - 1, by omega, by omega, by omega, ⟨_, o3, by simp; omega, fun z hz => ?_⟩, f1.fresh f3 fun k hk => by omega⟩
      rcases List.mem_append.mp hz with hz | hz
      · exact A1 z hz
      · simp only [List.mem_cons, List.not_mem_nil, or_false] at hz
        subst hz
        omega
  simp only [decide_eq_false_iff_not] at e
  have xn : x.n = xs.length := RdI.len o1.rdF
  refine ⟨fun n2 j c' i' sd' h' => 0 ≤ j /\ j + n2 = (m : Int) /\ c' = c /\ CurD a (n + 2 * j.toNat) h' c i' /\ (∃ ys, OwI h' (fun k => h.size ≤ k) x ys /\ ys.length = m /\ inA m ys) /\ Fr (In [b]) h h', ⟨m, by omega, by omega, rfl, (D.no f1).up (by omega), ⟨xs, o1, by omega, A1⟩, f1.of_no⟩, ?_⟩
  rintro n2 j c' i4 sd4 h4 ⟨j0, j1, rfl, D4, ⟨ys, o4, e4, A4⟩, f4⟩ hL4
  refine ⟨fun e5 => ?_, fun e5 => ?_⟩
  · simp only [decide_eq_true_eq] at e5
    refine k_pick hL4.head hb D4 (by omega) m _ fun y i5 sd5 h5 y0 y1 V5 D5 f5 => ⟨c', i5, sd5, y, rfl, .cons V5 (by simp) .nil, ?_⟩
    have y1 := y1 (by omega)
    have o5 : OwI h5 (fun k => h.size ≤ k) x ys := Ow.fr o4 f5 fun k hk hk2 => by have := (o4.foot hk).1; simp [In] at hk2; omega
    have R5 : RdI (fun k => h.size ≤ k) h5 x ys := o5.rdF
    have by1 := A4.get (show y.toNat < ys.length by omega)
    have by2 := A4.get (show j.toNat < ys.length by omega)
    obtain ⟨w1, w2, w3⟩ := o5.store1 j0 (by omega) (VI (ys[y.toNat]'(by omega)))
    rw [← List.map_set] at w2
    obtain ⟨u1, u2, u3⟩ := Ow.store1 w2 y0 (by omega) (VI (ys[j.toNat]'(by omega)))
    rw [← List.map_set] at u2
    have w3' : Fr (fun k => h.size ≤ k) h5 _ := w3.mono fun k _ hk => (o5.foot hk).1
    have u3' : Fr (fun k => h.size ≤ k) _ _ := u3.mono fun k _ hk => (w2.foot hk).1
    have off : ∀ q, q ∈ [(b, [c'.v, VI i5, Value.int .u64 sd5])] -> ¬ (h.size ≤ q.1) := fun q hq => by
      simp only [List.mem_cons, List.not_mem_nil, or_false] at hq
      subst hq
      simp only
      omega
    have hL5 : Vars h5 [(b, [c'.v, VI i5, Value.int .u64 sd5])] := .cons V5 (by simp) .nil
    refine ⟨R5.inb j0 (by omega), _, R5.get j0 (by omega), R5.inb y0 (by omega), _, R5.get y0 (by omega), R5.inb j0 (by omega), w1, hL5.fr w3' off, ?_⟩
    rintro h6 rfl hL6
    refine ⟨R5.inb y0 (by omega), u1, hL6.fr u3' off, ?_⟩
    rintro h7 rfl hL7
    rw [w64_eq _ (by omega) (by omega)]
    have zz := f4.size
    have z5 := f5.size
    refine ⟨n2 - 1, by omega, by omega, by omega, rfl, (((D5.fr w3' fun k hk hk2 => by omega).fr u3' fun k hk hk2 => by omega).up (by omega)), ⟨_, u2, by simp [e4], (A4.set _ by1.1 by1.2).set _ by2.1 by2.2⟩, ?_⟩
    exact (f4.trans f5).fresh2 (w3'.trans u3') fun k hk => hk
  · simp only [decide_eq_false_iff_not] at e5
    exact HK x ys i4 sd4 h4 o4 e4 A4 hL4.head (D4.up (by omega)) f4
theorem k_areRotors {S S' : Nat -> Prop} {h : Heap} {g s : Sl} {xss : List (List Int)} {rs : List Int} (G : RdR S h g xss) (H : RdI S' h s rs) : Ret Try.prog 123 #[.agg #[g.v], s.v] h (VB (walkB xss rs 0)) := by
  intro K HK
  refine v123 g s h K fun b1 h2 hb1 f2 hL2 => ?_
  have f2 := f2.in_nil
  exact k_isWalk (G.no f2) (H.no f2) 0 _ fun h3 f3 => ⟨_, rfl, hL2.of_no f3, HK h3 (f2.no_trans f3)⟩
def skp (k j : Nat) : Nat := if j < k then j else j + 1
def sgn (k : Nat) : Int := if k % 2 = 0 then 1 else -1
def sumZ (f : Nat -> Int) : Nat -> Int
  | 0 => 0
  | n + 1 => sumZ f n + f n
abbrev Mat := Nat -> Nat -> Int
def det : Nat -> Mat -> Int
  | 0, _ => 1
  | n + 1, A => sumZ (fun k => sgn k * A 0 k * det n (fun i j => A (i + 1) (skp k j))) (n + 1)
theorem sgn_succ (k : Nat) : sgn (k + 1) = -sgn k := by
  unfold sgn
  by_cases h : k % 2 = 0
  · rw [if_pos h, if_neg (by omega)]
  · rw [if_neg h, if_pos (by omega)]; rfl
theorem sumZ_congr {f f' : Nat -> Int} : ∀ {n : Nat}, (∀ i, i < n -> f i = f' i) -> sumZ f n = sumZ f' n
  | 0, _ => rfl
  | n + 1, h => by rw [sumZ, sumZ, sumZ_congr fun i hi => h i (by omega), h n (by omega)]
theorem sumZ_add (f f' : Nat -> Int) : ∀ n, sumZ (fun i => f i + f' i) n = sumZ f n + sumZ f' n
  | 0 => rfl
  | n + 1 => by rw [sumZ, sumZ, sumZ, sumZ_add f f' n]; omega
theorem sumZ_mul (c : Int) (f : Nat -> Int) : ∀ n, sumZ (fun i => c * f i) n = c * sumZ f n
  | 0 => by simp [sumZ]
  | n + 1 => by rw [sumZ, sumZ, sumZ_mul c f n, Int.mul_add]
theorem sumZ_zero {f : Nat -> Int} : ∀ {n : Nat}, (∀ i, i < n -> f i = 0) -> sumZ f n = 0
  | 0, _ => rfl
  | n + 1, h => by rw [sumZ, sumZ_zero fun i hi => h i (by omega), h n (by omega)]; rfl
theorem sumZ_swap (f : Nat -> Nat -> Int) (m : Nat) : ∀ n, sumZ (fun i => sumZ (fun j => f i j) m) n = sumZ (fun j => sumZ (fun i => f i j) n) m
  | 0 => by rw [sumZ]; exact (sumZ_zero fun i _ => rfl).symm
  | n + 1 => by
    rw [sumZ, sumZ_swap f m n, ← sumZ_add]
    exact sumZ_congr fun j _ => rfl
theorem sumZ_neg (f : Nat -> Int) (n : Nat) : sumZ (fun i => -f i) n = -sumZ f n := by
  have := sumZ_mul (-1) f n
  rw [show (fun i => -f i) = fun i => -1 * f i from funext fun i => by omega, this]; omega
theorem sumZ_skp (f : Nat -> Int) : ∀ {n k : Nat}, k ≤ n -> sumZ (fun l => f (skp k l)) n + f k = sumZ f (n + 1)
  | 0, k, h => by rw [show k = 0 by omega]; simp [sumZ]
  | n + 1, k, h => by
    by_cases e : k = n + 1
    · subst e
      show sumZ (fun l => f (skp (n + 1) l)) (n + 1) + f (n + 1) = sumZ f (n + 1) + f (n + 1)
      exact congrArg (· + f (n + 1)) (show sumZ (fun l => f (skp (n + 1) l)) (n + 1) = sumZ f (n + 1) from sumZ_congr fun i hi => by (try simp only); unfold skp; rw [if_pos hi])
    · have ih := sumZ_skp f (n := n) (k := k) (by omega)
      rw [sumZ, sumZ, ← ih]
      have : skp k n = n + 1 := by unfold skp; rw [if_neg (by omega)]
      rw [this]
      omega
theorem det_congr : ∀ {n : Nat} {A B : Mat}, (∀ i j, i < n -> j < n -> A i j = B i j) -> det n A = det n B
  | 0, _, _, _ => rfl
  | n + 1, A, B, h => by
    rw [det, det]
    refine sumZ_congr fun k hk => ?_
    (try simp only)
    rw [h 0 k (by omega) hk, det_congr fun i j hi hj => h (i + 1) (skp k j) (by omega) (by unfold skp; split <;> omega)]
def rowS (A : Mat) (i : Nat) (X : Nat -> Int) : Mat := fun r => if r = i then X else A r
theorem rowS_same (A : Mat) (i : Nat) : rowS A i (A i) = A := by
  funext r
  unfold rowS
  split
  · rename_i h; rw [h]
  · rfl
theorem det_lin : ∀ {n i : Nat} (A : Mat) (c : Int) (X Y : Nat -> Int), i < n -> det n (rowS A i fun j => c * X j + Y j) = c * det n (rowS A i X) + det n (rowS A i Y)
  | n + 1, 0, A, c, X, Y, _ => by
    rw [det, det, det, ← sumZ_mul, ← sumZ_add]
    refine sumZ_congr fun k hk => ?_
    have e : ∀ Z : Nat -> Int, (fun i j => rowS A 0 Z (i + 1) (skp k j)) = fun i j => A (i + 1) (skp k j) := fun Z => by
      funext i j; unfold rowS; rw [if_neg (by omega)]
    (try simp only)
    rw [e, e, e]
    unfold rowS
    rw [if_pos rfl, if_pos rfl, if_pos rfl]
    generalize det n (fun i j => A (i + 1) (skp k j)) = d
    rw [Int.mul_add, Int.add_mul]
    congr 1
    rw [Int.mul_assoc, Int.mul_assoc, Int.mul_left_comm (sgn k) c, Int.mul_assoc]
  | n + 1, i + 1, A, c, X, Y, h => by
    rw [det, det, det, ← sumZ_mul, ← sumZ_add]
    refine sumZ_congr fun k hk => ?_
    have e : ∀ Z : Nat -> Int, (fun r j => rowS A (i + 1) Z (r + 1) (skp k j)) = rowS (fun r j => A (r + 1) (skp k j)) i fun j => Z (skp k j) := fun Z => by
      funext r j
      unfold rowS
      by_cases h : r = i
      · rw [if_pos (by omega), if_pos h]
      · rw [if_neg (by omega), if_neg h]
    have z : ∀ Z : Nat -> Int, rowS A (i + 1) Z 0 k = A 0 k := fun Z => by unfold rowS; rw [if_neg (by omega)]
    (try simp only)
    rw [e, e, e, z, z, z, det_lin (fun r j => A (r + 1) (skp k j)) c (fun j => X (skp k j)) (fun j => Y (skp k j)) (by omega), Int.mul_add, Int.mul_left_comm]
theorem det_zero_row {n i : Nat} (A : Mat) (h : i < n) : det n (rowS A i fun _ => 0) = 0 := by
  have := det_lin A (-1) (fun _ => 0) (fun _ => 0) h
  have e : (fun j : Nat => (-1 : Int) * (fun _ => (0 : Int)) j + (fun _ => (0 : Int)) j) = fun _ => 0 := by funext j; simp
  rw [e] at this
  omega
theorem det_scale {n i : Nat} (A : Mat) (c : Int) (X : Nat -> Int) (h : i < n) : det n (rowS A i fun j => c * X j) = c * det n (rowS A i X) := by
  have := det_lin A c X (fun _ => 0) h
  rw [det_zero_row A h] at this
  have e : (fun j : Nat => c * X j + (fun _ => (0 : Int)) j) = fun j => c * X j := by funext j; simp
  rw [e] at this
  omega
def swA (i j r : Nat) : Nat := if r = i then j else if r = j then i else r
def idxA (k m : Nat) : Nat := if m < k then m else m - 1
def detN (n : Nat) (A : Mat) (k m : Nat) : Int := det n fun i j => A (i + 2) (skp k (skp (idxA k m) j))
def dblA (n : Nat) (A : Mat) (k m : Nat) : Int := if k = m then 0 else sgn k * sgn (idxA k m) * A 0 k * A 1 m * detN n A k m
theorem skp_skp {k m : Nat} (h : k < m) (j : Nat) : skp k (skp (m - 1) j) = skp m (skp k j) := by
  unfold skp
  by_cases a : j < k
  · rw [if_pos (show j < m - 1 by omega), if_pos a, if_pos (show j < m by omega)]
  · by_cases b : j < m - 1
    · rw [if_pos b, if_neg a, if_pos (show j + 1 < m by omega)]
    · rw [if_neg b, if_neg a, if_neg (show ¬ j + 1 < k by omega), if_neg (show ¬ j + 1 < m by omega)]
theorem detN_comm {n : Nat} {A : Mat} {k m : Nat} (h : k < m) : detN n A k m = detN n A m k := by
  unfold detN idxA
  rw [if_neg (by omega), if_pos h]
  congr 1
  funext i j
  rw [skp_skp h]
theorem det_dbl (n : Nat) (A : Mat) : det (n + 2) A = sumZ (fun k => sumZ (fun m => dblA n A k m) (n + 2)) (n + 2) := by
  rw [det]
  refine sumZ_congr fun k hk => ?_
  (try simp only)
  rw [det, ← sumZ_skp (fun m => dblA n A k m) (show k ≤ n + 1 by omega)]
  have e0 : dblA n A k k = 0 := by unfold dblA; rw [if_pos rfl]
  rw [e0, Int.add_zero, ← sumZ_mul]
  refine sumZ_congr fun l hl => ?_
  (try simp only)
  have hne : k ≠ skp k l := by unfold skp; split <;> omega
  have hidx : idxA k (skp k l) = l := by
    unfold idxA skp
    by_cases a : l < k
    · simp only [if_pos a]
    · simp only [if_neg a]
      rw [if_neg (by omega)]
      omega
  unfold dblA detN
  rw [if_neg hne, hidx, Nat.zero_add]
  generalize det n _ = d
  rw [Int.mul_assoc (sgn k), Int.mul_assoc (sgn l), Int.mul_assoc, Int.mul_assoc, Int.mul_assoc]
  rw [Int.mul_left_comm (A 0 k)]
theorem det_swap01 (n : Nat) (A : Mat) : det (n + 2) (fun i => A (swA 0 1 i)) = -det (n + 2) A := by
  rw [det_dbl, det_dbl, sumZ_swap (fun k m => dblA n A k m), ← sumZ_neg]
  refine sumZ_congr fun k hk => ?_
  (try simp only)
  rw [← sumZ_neg]
  refine sumZ_congr fun m hm => ?_
  (try simp only)
  have hN : detN n (fun i => A (swA 0 1 i)) k m = detN n A k m := by
    unfold detN
    congr 1
  unfold dblA
  by_cases e : k = m
  · rw [if_pos e, if_pos e.symm]; rfl
  · rw [if_neg e, if_neg fun h => e h.symm, hN]
    have r0 : A (swA 0 1 0) k = A 1 k := rfl
    have r1 : A (swA 0 1 1) m = A 0 m := rfl
    (try simp only)
    rw [r0, r1]
    have hs : sgn k * sgn (idxA k m) = -(sgn m * sgn (idxA m k)) := by
      unfold idxA
      by_cases h : k < m
      · rw [if_neg (by omega), if_pos h]
        have := sgn_succ (m - 1)
        rw [show m - 1 + 1 = m by omega] at this
        rw [this, Int.neg_mul, Int.neg_neg, Int.mul_comm]
      · rw [if_pos (by omega), if_neg (by omega)]
        have := sgn_succ (k - 1)
        rw [show k - 1 + 1 = k by omega] at this
        rw [this, Int.neg_mul, Int.mul_comm]
    have hd : detN n A k m = detN n A m k := by
      by_cases h : k < m
      · exact detN_comm h
      · exact (detN_comm (by omega)).symm
    rw [hs, hd]
    generalize sgn m * sgn (idxA m k) = a
    rw [Int.neg_mul, Int.neg_mul, Int.neg_mul, Int.mul_assoc a, Int.mul_comm (A 1 k), ← Int.mul_assoc a]
theorem det_swap_adj : ∀ {n i : Nat} (A : Mat), i + 1 < n -> det n (fun r => A (swA i (i + 1) r)) = -det n A
  | n + 2, 0, A, _ => det_swap01 n A
  | n + 1, i + 1, A, h => by
    rw [det, det, ← sumZ_neg]
    refine sumZ_congr fun k hk => ?_
    (try simp only)
    have e : (fun r j => A (swA (i + 1) (i + 1 + 1) (r + 1)) (skp k j)) = fun r => (fun r j => A (r + 1) (skp k j)) (swA i (i + 1) r) := by
      funext r j
      congr 1
      unfold swA
      by_cases a : r = i
      · rw [if_pos (by omega), if_pos a]
      · by_cases b : r = i + 1
        · rw [if_neg (by omega), if_pos (by omega), if_neg a, if_pos b]
        · rw [if_neg (by omega), if_neg (by omega), if_neg a, if_neg b]
    have z : swA (i + 1) (i + 1 + 1) 0 = 0 := by unfold swA; rw [if_neg (by omega), if_neg (by omega)]
    rw [e, z, det_swap_adj (fun r j => A (r + 1) (skp k j)) (by omega), Int.mul_neg]
theorem det_eq_rows : ∀ (d : Nat) {n i : Nat} (A : Mat), i + d + 1 < n -> A i = A (i + d + 1) -> det n A = 0
  | 0, n, i, A, h, e => by
    have := det_swap_adj A h
    have e2 : (fun r => A (swA i (i + 1) r)) = A := by
      funext r
      unfold swA
      by_cases a : r = i
      · rw [if_pos a, a]; exact e.symm
      · by_cases b : r = i + 1
        · rw [if_neg a, if_pos b, b]; exact e
        · rw [if_neg a, if_neg b]
    rw [e2] at this
    omega
  | d + 1, n, i, A, h, e => by
    have h1 := det_swap_adj (i := i + d + 1) A (by omega)
    have h2 := det_eq_rows d (n := n) (i := i) (fun r => A (swA (i + d + 1) (i + d + 1 + 1) r)) (by omega) (by
      (try simp only)
      have a : swA (i + d + 1) (i + d + 1 + 1) i = i := by unfold swA; rw [if_neg (by omega), if_neg (by omega)]
      have b : swA (i + d + 1) (i + d + 1 + 1) (i + d + 1) = i + d + 1 + 1 := by unfold swA; rw [if_pos rfl]
      rw [a, b]
      exact e)
    omega
theorem det_rows {n i j : Nat} (A : Mat) (hi : i < n) (hj : j < n) (h : i ≠ j) (e : A i = A j) : det n A = 0 := by
  by_cases a : i < j
  · exact det_eq_rows (j - i - 1) (i := i) A (by omega) (by rw [show i + (j - i - 1) + 1 = j by omega]; exact e)
  · exact det_eq_rows (i - j - 1) (i := j) A (by omega) (by rw [show j + (i - j - 1) + 1 = i by omega]; exact e.symm)
theorem det_add {n i j : Nat} (A : Mat) (hi : i < n) (hj : j < n) (h : i ≠ j) (c : Int) : det n (rowS A i fun k => c * A j k + A i k) = det n A := by
  rw [det_lin A c (A j) (A i) hi, rowS_same, det_rows (rowS A i (A j)) hi hj h (by unfold rowS; rw [if_pos rfl, if_neg fun e => h e.symm])]
  omega
theorem det_swap {n i j : Nat} (A : Mat) (hi : i < n) (hj : j < n) (h : i ≠ j) : det n (fun r => A (swA i j r)) = -det n A := by
  -- row i + row j, then row j - row i, then row i + row j, and a sign
  have e1 := det_add A hi hj h 1
  have e2 := det_add (rowS A i fun k => 1 * A j k + A i k) hj hi (fun e => h e.symm) (-1)
  have e3 := det_add (rowS (rowS A i fun k => 1 * A j k + A i k) j fun k => -1 * (rowS A i fun k => 1 * A j k + A i k) i k + (rowS A i fun k => 1 * A j k + A i k) j k) hi hj h 1
  have e4 := det_scale (fun r => A (swA i j r)) (-1) (A i) hj
  have f1 : rowS (fun r => A (swA i j r)) j (A i) = fun r => A (swA i j r) := by
    funext r
    unfold rowS
    by_cases a : r = j
    · rw [if_pos a, a]; unfold swA; rw [if_neg fun e => h e.symm, if_pos rfl]
    · rw [if_neg a]
  rw [f1] at e4
  have f2 : rowS (rowS (rowS A i fun k => 1 * A j k + A i k) j fun k => -1 * (rowS A i fun k => 1 * A j k + A i k) i k + (rowS A i fun k => 1 * A j k + A i k) j k) i (fun k => 1 * (rowS (rowS A i fun k => 1 * A j k + A i k) j fun k => -1 * (rowS A i fun k => 1 * A j k + A i k) i k + (rowS A i fun k => 1 * A j k + A i k) j k) j k + (rowS (rowS A i fun k => 1 * A j k + A i k) j fun k => -1 * (rowS A i fun k => 1 * A j k + A i k) i k + (rowS A i fun k => 1 * A j k + A i k) j k) i k) = rowS (fun r => A (swA i j r)) j fun k => -1 * A i k := by
    funext r k
    unfold rowS swA
    by_cases a : r = i
    · subst a
      simp only [if_pos, if_neg h, if_neg fun e : j = r => h e.symm]
      omega
    · by_cases b : r = j
      · subst b
        simp only [if_pos, if_neg a]
        omega
      · simp only [if_neg a, if_neg b]
  rw [f2, e4] at e3
  omega
theorem det_col0 : ∀ {n : Nat} (A : Mat), (∀ i, i < n + 1 -> A i 0 = 0) -> det (n + 1) A = 0
  | 0, A, h => by rw [det]; simp [sumZ, det, h 0 (by omega)]
  | n + 1, A, h => by
    rw [det]
    refine sumZ_zero fun k hk => ?_
    (try simp only)
    by_cases e : k = 0
    · subst e; rw [h 0 (by omega)]; simp
    · rw [det_col0 (fun i j => A (i + 1) (skp k j)) fun i hi => by
        (try simp only)
        rw [show skp k 0 = 0 by unfold skp; rw [if_pos (by omega)]]
        exact h (i + 1) (by omega)]
      simp
theorem det_corner {n : Nat} (A : Mat) (h : ∀ i, 1 ≤ i -> i < n + 1 -> A i 0 = 0) : det (n + 1) A = A 0 0 * det n (fun i j => A (i + 1) (j + 1)) := by
  have key : ∀ m, m ≤ n -> sumZ (fun k => sgn k * A 0 k * det n (fun i j => A (i + 1) (skp k j))) (m + 1) = A 0 0 * det n (fun i j => A (i + 1) (j + 1)) := by
    intro m
    induction m with
    | zero =>
      intro _
      rw [sumZ, sumZ]
      have : (fun i j => A (i + 1) (skp 0 j)) = fun i j => A (i + 1) (j + 1) := by
        funext i j; unfold skp; rw [if_neg (by omega)]
      rw [this]
      simp [sgn]
    | succ m ih =>
      intro hm
      rw [sumZ, ih (by omega)]
      cases n with
      | zero => omega
      | succ n =>
        rw [det_col0 (fun i j => A (i + 1) (skp (m + 1) j)) fun i hi => by
          (try simp only)
          rw [show skp (m + 1) 0 = 0 by unfold skp; rw [if_pos (by omega)]]
          exact h (i + 1) (by omega) (by omega)]
        simp
  rw [det]
  exact key n (Nat.le_refl _)
def chio (B : Mat) : Mat := fun i j => B 0 0 * B (i + 1) (j + 1) - B (i + 1) 0 * B 0 (j + 1)
theorem det_scale_rows {n : Nat} (b : Int) (B : Mat) : ∀ m, m ≤ n -> det (n + 1) (fun r j => if 1 ≤ r /\ r ≤ m then b * B r j else B r j) = b ^ m * det (n + 1) B
  | 0, _ => by
    rw [Int.pow_zero, Int.one_mul]
    exact det_congr fun i j _ _ => by rw [if_neg (by omega)]
  | m + 1, h => by
    have ih := det_scale_rows (n := n) b B m (by omega)
    have e := det_scale (n := n + 1) (i := m + 1) (fun r j => if 1 ≤ r /\ r ≤ m then b * B r j else B r j) b (B (m + 1)) (by omega)
    have e1 : det (n + 1) (rowS (fun r j => if 1 ≤ r /\ r ≤ m then b * B r j else B r j) (m + 1) fun j => b * B (m + 1) j) = det (n + 1) (fun r j => if 1 ≤ r /\ r ≤ m + 1 then b * B r j else B r j) := by
      refine det_congr fun i j _ _ => ?_
      unfold rowS
      (try simp only)
      by_cases a : i = m + 1
      · subst a; rw [if_pos rfl, if_pos (by omega)]
      · rw [if_neg a]
        (try simp only)
        by_cases c : 1 ≤ i /\ i ≤ m
        · rw [if_pos c, if_pos (show 1 ≤ i /\ i ≤ m + 1 by omega)]
        · rw [if_neg c, if_neg (show ¬ (1 ≤ i /\ i ≤ m + 1) by omega)]
    have e2 : rowS (fun r j => if 1 ≤ r /\ r ≤ m then b * B r j else B r j) (m + 1) (B (m + 1)) = fun r j => if 1 ≤ r /\ r ≤ m then b * B r j else B r j := by
      funext r j
      unfold rowS
      by_cases a : r = m + 1
      · subst a; rw [if_pos rfl, if_neg (by omega)]
      · rw [if_neg a]
    rw [e1, e2, ih] at e
    rw [e, Int.pow_succ, ← Int.mul_assoc, Int.mul_comm b]
theorem det_sub_rows {n : Nat} (C : Mat) (c : Nat -> Int) : ∀ m, m ≤ n -> det (n + 1) (fun r j => if 1 ≤ r /\ r ≤ m then c r * C 0 j + C r j else C r j) = det (n + 1) C
  | 0, _ => det_congr fun i j _ _ => by rw [if_neg (by omega)]
  | m + 1, h => by
    rw [← det_sub_rows C c m (by omega), ← det_add (n := n + 1) (i := m + 1) (j := 0) (fun r j => if 1 ≤ r /\ r ≤ m then c r * C 0 j + C r j else C r j) (by omega) (by omega) (by omega) (c (m + 1))]
    refine det_congr fun i j _ _ => ?_
    unfold rowS
    by_cases a : i = m + 1
    · subst a; rw [if_pos rfl, if_pos (by omega), if_neg (by omega), if_neg (by omega)]
    · rw [if_neg a]
      (try simp only)
      by_cases d : 1 ≤ i /\ i ≤ m
      · rw [if_pos d, if_pos (show 1 ≤ i /\ i ≤ m + 1 by omega)]
      · rw [if_neg d, if_neg (show ¬ (1 ≤ i /\ i ≤ m + 1) by omega)]
theorem det_chio {n : Nat} {B : Mat} (hb : B 0 0 ≠ 0) : B 0 0 ^ n * det (n + 2) B = det (n + 1) (chio B) := by
  have e1 := det_scale_rows (n := n + 1) (B 0 0) B (n + 1) (Nat.le_refl _)
  have e2 := det_sub_rows (n := n + 1) (fun r j => if 1 ≤ r /\ r ≤ n + 1 then B 0 0 * B r j else B r j) (fun r => -B r 0) (n + 1) (Nat.le_refl _)
  rw [e1] at e2
  have e3 := det_corner (n := n + 1) (fun r j => if 1 ≤ r /\ r ≤ n + 1 then -B r 0 * (if 1 ≤ 0 /\ 0 ≤ n + 1 then B 0 0 * B 0 j else B 0 j) + (if 1 ≤ r /\ r ≤ n + 1 then B 0 0 * B r j else B r j) else (if 1 ≤ r /\ r ≤ n + 1 then B 0 0 * B r j else B r j)) fun i h1 h2 => by
    (try simp only)
    rw [if_pos (by omega), if_neg (by omega), if_pos (by omega), Int.neg_mul, Int.mul_comm (B i 0)]
    omega
  rw [e3] at e2
  have e4 : det (n + 1) (fun i j => if 1 ≤ i + 1 /\ i + 1 ≤ n + 1 then -B (i + 1) 0 * (if 1 ≤ 0 /\ 0 ≤ n + 1 then B 0 0 * B 0 (j + 1) else B 0 (j + 1)) + (if 1 ≤ i + 1 /\ i + 1 ≤ n + 1 then B 0 0 * B (i + 1) (j + 1) else B (i + 1) (j + 1)) else (if 1 ≤ i + 1 /\ i + 1 ≤ n + 1 then B 0 0 * B (i + 1) (j + 1) else B (i + 1) (j + 1))) = det (n + 1) (chio B) := by
    refine det_congr fun i j hi hj => ?_
    unfold chio
    rw [if_pos (by omega), if_neg (by omega), if_pos (by omega), Int.neg_mul]
    omega
  have e5 : (if 1 ≤ 0 /\ 0 ≤ n + 1 then -B 0 0 * (if 1 ≤ 0 /\ 0 ≤ n + 1 then B 0 0 * B 0 0 else B 0 0) + (if 1 ≤ 0 /\ 0 ≤ n + 1 then B 0 0 * B 0 0 else B 0 0) else (if 1 ≤ 0 /\ 0 ≤ n + 1 then B 0 0 * B 0 0 else B 0 0)) = B 0 0 := by
    rw [if_neg (by omega), if_neg (by omega)]
  (try simp only at e2)
  (try simp only at e4)
  (try simp only at e5)
  first
  | (rw [e4, e5] at e2
     rw [Int.pow_succ, Int.mul_comm (B 0 0 ^ n), Int.mul_assoc] at e2
     exact (Int.mul_eq_mul_left_iff hb).1 e2.symm)
  | (rw [e4] at e2
     rw [Int.pow_succ, Int.mul_comm (B 0 0 ^ n), Int.mul_assoc] at e2
     exact (Int.mul_eq_mul_left_iff hb).1 e2.symm)
theorem det_smul (b : Int) (A : Mat) : ∀ n, det n (fun i j => b * A i j) = b ^ n * det n A
  | 0 => by simp [det]
  | n + 1 => by
    rw [det, det, ← sumZ_mul]
    refine sumZ_congr fun k hk => ?_
    (try simp only)
    rw [det_smul b (fun i j => A (i + 1) (skp k j)) n, Int.pow_succ, Int.mul_left_comm (sgn k), Int.mul_assoc b, Int.mul_left_comm, Int.mul_comm (b ^ n) b, Int.mul_assoc b, Int.mul_left_comm (b ^ n), ← Int.mul_assoc]
    first
    | done
    | simp only [Int.mul_assoc, Int.mul_comm, Int.mul_left_comm]
def extN (m : Nat) (r : Nat -> Nat) (i : Nat) : Nat := if i < m then i else m + r (i - m)
def Bar (n m : Nat) (last : Int) (O A : Mat) : Prop :=
  ∀ (k : Nat) (r c : Nat -> Nat), (∀ i, i ≤ k -> r i < n - m) -> (∀ i, i ≤ k -> c i < n - m) -> det (k + 1) (fun i j => A (r i) (c j)) = last ^ k * det (m + k + 1) (fun i j => O (extN m r i) (extN m c j))
theorem Bar.start (n : Nat) (O : Mat) : Bar n 0 1 O O := fun k r c hr hc => by
  rw [Int.one_pow, Int.one_mul, Nat.zero_add]
  exact det_congr fun i j _ _ => by simp [extN]
theorem det_one (A : Mat) : det 1 A = A 0 0 := by simp [det, sumZ, sgn]
theorem det_two (A : Mat) : det 2 A = A 0 0 * A 1 1 - A 1 0 * A 0 1 := by
  simp only [det, sumZ, sgn, skp]
  simp
  rw [Int.neg_mul, Int.mul_comm (A 0 1)]
  omega
theorem Bar.ent {n m : Nat} {last : Int} {O A : Mat} (H : Bar n m last O A) {i j : Nat} (hi : i < n - m) (hj : j < n - m) : A i j = det (m + 1) (fun a b => O (extN m (fun _ => i) a) (extN m (fun _ => j) b)) := by
  have := H 0 (fun _ => i) (fun _ => j) (fun _ _ => hi) (fun _ _ => hj)
  rw [det_one, Int.pow_zero, Int.one_mul] at this
  exact this
def upN (r : Nat -> Nat) : Nat -> Nat
  | 0 => 0
  | i + 1 => r i + 1
theorem extN_up (m : Nat) (r : Nat -> Nat) (i : Nat) : extN m (upN r) i = extN (m + 1) r i := by
  unfold extN
  by_cases h : i < m
  · rw [if_pos h, if_pos (by omega)]
  · rw [if_neg h]
    by_cases e : i = m
    · subst e; rw [if_pos (by omega), Nat.sub_self]; rfl
    · rw [if_neg (by omega)]
      obtain ⟨d, rfl⟩ : ∃ d, i = m + 1 + d := ⟨i - (m + 1), by omega⟩
      rw [show m + 1 + d - m = d + 1 by omega, show m + 1 + d - (m + 1) = d by omega]
      show m + (r d + 1) = _
      omega
theorem Bar.exact {n m : Nat} {last : Int} {O A : Mat} (H : Bar n m last O A) {i j : Nat} (hi : i + 1 < n - m) (hj : j + 1 < n - m) : ∃ q, chio A i j = last * q := by
  have := H 1 (upN fun _ => i) (upN fun _ => j) (fun a ha => by cases a with | zero => exact (by show 0 < _; omega) | succ a => exact hi) (fun a ha => by cases a with | zero => exact (by show 0 < _; omega) | succ a => exact hj)
  rw [det_two] at this
  exact ⟨_, by unfold chio; rw [Int.pow_one] at this; exact this⟩
theorem tdiv_of {a b q : Int} (h : a = b * q) (hb : b ≠ 0) : a.tdiv b = q := by rw [h]; exact Int.mul_tdiv_cancel_left _ hb
theorem Bar.step {n m : Nat} {last : Int} {O A A' : Mat} (H : Bar n m last O A) (hl : last ≠ 0) (ha : A 0 0 ≠ 0) (hA : ∀ i j, i + 1 < n - m -> j + 1 < n - m -> A' i j = (chio A i j).tdiv last) : Bar n (m + 1) (A 0 0) O A' := fun k r c hr hc => by
  have e1 : det (k + 1) (fun i j => last * A' (r i) (c j)) = det (k + 1) (chio fun i j => A (upN r i) (upN c j)) := det_congr fun i j hi hj => by
    have hi' := hr i (by omega)
    have hj' := hc j (by omega)
    (try simp only)
    obtain ⟨q, hq⟩ := H.exact (i := r i) (j := c j) (by omega) (by omega)
    rw [hA _ _ (by omega) (by omega), tdiv_of hq hl, ← hq]
    rfl
  rw [det_smul last (fun i j => A' (r i) (c j))] at e1
  have e2 := det_chio (n := k) (B := fun i j => A (upN r i) (upN c j)) ha
  have e3 := H (k + 1) (upN r) (upN c) (fun i hi => by cases i with | zero => exact (by have := hr 0 (by omega); show 0 < _; omega) | succ i => exact (by have := hr i (by omega); show r i + 1 < _; omega)) (fun i hi => by cases i with | zero => exact (by have := hc 0 (by omega); show 0 < _; omega) | succ i => exact (by have := hc i (by omega); show c i + 1 < _; omega))
  rw [← e2, e3] at e1
  have e4 : (fun i j => O (extN m (upN r) i) (extN m (upN c) j)) = fun i j => O (extN (m + 1) r i) (extN (m + 1) c j) := by funext i j; rw [extN_up, extN_up]
  rw [e4, Int.mul_left_comm] at e1
  have e5 := (Int.mul_eq_mul_left_iff (show last ^ (k + 1) ≠ 0 from Int.pow_ne_zero hl)).1 e1
  rw [e5, show m + (k + 1) + 1 = m + 1 + k + 1 by omega]
  rfl
theorem Bar.swap {n m p : Nat} {last : Int} {O A : Mat} (H : Bar n m last O A) (hp : p < n - m) : Bar n m last (fun i => O (swA m (m + p) i)) (fun i => A (swA 0 p i)) := fun k r c hr hc => by
  have := H k (fun i => swA 0 p (r i)) c (fun i hi => by have := hr i hi; unfold swA; split <;> (try split) <;> omega) hc
  (try simp only)
  rw [this]
  congr 2
  funext i j
  congr 1
  unfold extN
  by_cases h : i < m
  · rw [if_pos h, if_pos h]; unfold swA; rw [if_neg (by omega), if_neg (by omega)]
  · rw [if_neg h, if_neg h]
    show m + swA 0 p (r (i - m)) = swA m (m + p) (m + r (i - m))
    generalize r (i - m) = x
    unfold swA
    by_cases a : x = 0
    · rw [if_pos a, if_pos (show m + x = m by omega)]
    · rw [if_neg a, if_neg (show ¬ m + x = m by omega)]
      by_cases b : x = p
      · rw [if_pos b, if_pos (show m + x = m + p by omega)]; omega
      · rw [if_neg b, if_neg (show ¬ m + x = m + p by omega)]
theorem extN_id (m i : Nat) : extN m (fun x => x) i = i := by unfold extN; split <;> (try simp only) <;> omega
theorem Bar.none {n m : Nat} {last : Int} {O A : Mat} (H : Bar n m last O A) (hm : m < n) (hl : last ≠ 0) (h0 : ∀ i, i < n - m -> A i 0 = 0) : det n O = 0 := by
  have := H (n - m - 1) (fun x => x) (fun x => x) (fun i hi => by omega) (fun i hi => by omega)
  rw [det_col0 (fun i j => A i j) fun i hi => h0 i (by omega)] at this
  have e : (fun i j => O (extN m (fun x => x) i) (extN m (fun x => x) j)) = O := by funext i j; rw [extN_id, extN_id]
  rw [e, show m + (n - m - 1) + 1 = n by omega] at this
  rcases Int.mul_eq_zero.1 this.symm with h | h
  · exact absurd h (Int.pow_ne_zero hl)
  · exact h
theorem Bar.last {n m : Nat} {last : Int} {O A : Mat} (H : Bar n m last O A) (hm : m + 1 = n) : A 0 0 = det n O := by
  rw [H.ent (i := 0) (j := 0) (by omega) (by omega), hm]
  have e : (fun a b => O (extN m (fun _ => 0) a) (extN m (fun _ => 0) b)) = fun a b => O (if a < m then a else m) (if b < m then b else m) := by funext a b; rfl
  rw [e]
  refine det_congr fun i j hi hj => ?_
  rw [show (if i < m then i else m) = i by split <;> omega, show (if j < m then j else m) = j by split <;> omega]
def dbN : Nat -> Nat
  | 0 => 1
  | n + 1 => (n + 1) * 10 * dbN n
theorem sumZ_bound {f : Nat -> Int} {b : Nat} : ∀ {n : Nat}, (∀ i, i < n -> (f i).natAbs ≤ b) -> (sumZ f n).natAbs ≤ n * b
  | 0, _ => by simp [sumZ]
  | n + 1, h => by
    rw [sumZ]
    have h1 := sumZ_bound (f := f) (b := b) (n := n) fun i hi => h i (by omega)
    have h2 := h n (by omega)
    have h3 := Int.natAbs_add_le (sumZ f n) (f n)
    rw [Nat.succ_mul]
    omega
theorem sgn_abs (k : Nat) : (sgn k).natAbs = 1 := by unfold sgn; split <;> rfl
theorem det_bound : ∀ {n : Nat} {A : Mat}, (∀ i j, i < n -> j < n -> (A i j).natAbs ≤ 10) -> (det n A).natAbs ≤ dbN n
  | 0, _, _ => by simp [det, dbN]
  | n + 1, A, h => by
    rw [det, dbN, Nat.mul_assoc]
    refine sumZ_bound fun k hk => ?_
    (try simp only)
    rw [Int.natAbs_mul, Int.natAbs_mul, sgn_abs, Nat.one_mul]
    exact Nat.mul_le_mul (h 0 k (by omega) hk) (det_bound fun i j hi hj => h (i + 1) (skp k j) (by omega) (by unfold skp; split <;> omega))
theorem dbN_le : ∀ {n m : Nat}, n ≤ m -> dbN n ≤ dbN m
  | n, 0, h => by rw [show n = 0 by omega]; exact Nat.le_refl _
  | n, m + 1, h => by
    by_cases e : n = m + 1
    · rw [e]; exact Nat.le_refl _
    · have h1 := dbN_le (n := n) (m := m) (by omega)
      have h2 : dbN m ≤ dbN (m + 1) := by rw [dbN]; exact Nat.le_mul_of_pos_left _ (by omega)
      omega
def Small (n : Nat) (O : Mat) : Prop := ∀ i j, i < n -> j < n -> (O i j).natAbs ≤ 10
theorem Bar.bound {n m : Nat} {last : Int} {O A : Mat} (H : Bar n m last O A) (hO : Small n O) {i j : Nat} (hi : i < n - m) (hj : j < n - m) : (A i j).natAbs ≤ dbN (m + 1) := by
  rw [H.ent hi hj]
  refine det_bound fun a b ha hb => hO _ _ ?_ ?_
  · unfold extN; split <;> (try simp only) <;> omega
  · unfold extN; split <;> (try simp only) <;> omega
def occ (x : Int) : List Int -> Int
  | [] => 0
  | y :: l => (if y = x then 1 else 0) + occ x l
def red (p q x : Int) : Int := if x = p then q else x
abbrev Tn := List (Int × List Int)
def redT (p q : Int) (ts : Tn) : Tn := ts.map fun t => (t.1, t.2.map (red p q))
def nmT (ts : Tn) (i : Nat) : Int := (ts.getD i (0, [])).1
def exT (ts : Tn) (i : Nat) : List Int := (ts.getD i (0, [])).2
def lapM (ts : Tn) : Mat := fun i j => (if i = j then ((exT ts i).length : Int) else 0) - occ (nmT ts j) (exT ts i)
def cntT : Nat -> Tn -> Int
  | 0, _ => 1
  | _ + 1, [] => 1
  | n + 1, (p, ex) :: ts => (ex.map fun q => if q = p then 0 else cntT n (redT p q ts)).sum
theorem occ_red {p q x : Int} (h : x ≠ p) : ∀ l : List Int, occ x (l.map (red p q)) = occ x l + (if q = x then occ p l else 0)
  | [] => by simp [occ]
  | y :: l => by
    rw [List.map_cons, occ, occ, occ, occ_red h l]
    unfold red
    by_cases a : y = p
    · rw [if_pos a, if_neg (show ¬ y = x from fun e => h (e.symm.trans a)), if_pos a]
      by_cases b : q = x
      · rw [if_pos b, if_pos b, if_pos b]; omega
      · rw [if_neg b, if_neg b, if_neg b]; omega
    · rw [if_neg a, if_neg a]
      by_cases b : q = x
      · rw [if_pos b, if_pos b]; omega
      · rw [if_neg b, if_neg b]; omega
theorem nmT_red (p q : Int) (ts : Tn) (i : Nat) : nmT (redT p q ts) i = nmT ts i := by
  unfold nmT redT
  rw [List.getD_eq_getElem?_getD, List.getD_eq_getElem?_getD, List.getElem?_map]
  cases ts[i]? <;> rfl
theorem exT_red (p q : Int) (ts : Tn) (i : Nat) : exT (redT p q ts) i = (exT ts i).map (red p q) := by
  unfold exT redT
  rw [List.getD_eq_getElem?_getD, List.getD_eq_getElem?_getD, List.getElem?_map]
  cases ts[i]? <;> rfl
theorem nmT_mem {ts : Tn} {i : Nat} (h : i < ts.length) : nmT ts i ∈ ts.map (·.1) := by
  unfold nmT
  rw [List.getD_eq_getElem?_getD, List.getElem?_eq_getElem h]
  exact List.mem_map.2 ⟨_, List.getElem_mem h, rfl⟩
theorem names_red (p q : Int) (ts : Tn) : (redT p q ts).map (·.1) = ts.map (·.1) := by
  unfold redT
  rw [List.map_map]
  rfl
theorem det_lap1 {n : Nat} {p q : Int} {ex : List Int} {ts : Tn} (hn : ts.length = n) (hd : ((p, ex) :: ts).map (·.1) |>.Nodup) :
    det (n + 1) (rowS (lapM ((p, ex) :: ts)) 0 fun j => (if 0 = j then 1 else 0) - (if q = nmT ((p, ex) :: ts) j then 1 else 0)) = if q = p then 0 else det n (lapM (redT p q ts)) := by
  have hp : ∀ j, j < n -> nmT ((p, ex) :: ts) (j + 1) = nmT ts j /\ nmT ts j ≠ p := fun j hj => ⟨rfl, fun e => by
    have h1 := nmT_mem (ts := ts) (i := j) (by omega)
    rw [e] at h1
    rw [List.map_cons, List.nodup_cons] at hd
    exact hd.1 h1⟩
  have h0 : nmT ((p, ex) :: ts) 0 = p := rfl
  by_cases e : q = p
  · rw [if_pos e]
    rw [show det (n + 1) (rowS (lapM ((p, ex) :: ts)) 0 fun j => (if 0 = j then 1 else 0) - (if q = nmT ((p, ex) :: ts) j then 1 else 0)) = det (n + 1) (rowS (lapM ((p, ex) :: ts)) 0 fun _ => 0) from det_congr fun i j hi hj => by
      unfold rowS
      by_cases a : i = 0
      · rw [if_pos a, if_pos a]
        cases j with
        | zero => rw [h0, if_pos rfl, if_pos e]; rfl
        | succ j => rw [(hp j (by omega)).1, if_neg (by omega), if_neg fun x => (hp j (by omega)).2 (x.symm.trans e)]; rfl
      · rw [if_neg a, if_neg a]]
    exact det_zero_row _ (by omega)
  · rw [if_neg e]
    rw [← det_sub_rows (n := n) (rowS (lapM ((p, ex) :: ts)) 0 fun j => (if 0 = j then 1 else 0) - (if q = nmT ((p, ex) :: ts) j then 1 else 0)) (fun r => occ p (exT ((p, ex) :: ts) r)) n (Nat.le_refl _)]
    rw [det_corner]
    · have e1 : (if 1 ≤ 0 /\ 0 ≤ n then occ p (exT ((p, ex) :: ts) 0) * rowS (lapM ((p, ex) :: ts)) 0 (fun j => (if 0 = j then 1 else 0) - (if q = nmT ((p, ex) :: ts) j then 1 else 0)) 0 0 + rowS (lapM ((p, ex) :: ts)) 0 (fun j => (if 0 = j then 1 else 0) - (if q = nmT ((p, ex) :: ts) j then 1 else 0)) 0 0 else rowS (lapM ((p, ex) :: ts)) 0 (fun j => (if 0 = j then 1 else 0) - (if q = nmT ((p, ex) :: ts) j then 1 else 0)) 0 0) = (1 : Int) := by
        rw [if_neg (by omega)]
        unfold rowS
        rw [if_pos rfl, h0, if_pos rfl, if_neg e]; rfl
      (try simp only)
      first
      | rw [e1, Int.one_mul]
      | (have e1 := e1
         simp only at e1
         rw [e1, Int.one_mul])
      refine det_congr fun i j hi hj => ?_
      (try simp only)
      rw [if_pos (by omega)]
      unfold rowS
      rw [if_pos rfl, if_neg (show ¬ i + 1 = 0 by omega)]
      (try simp only)
      rw [(hp j hj).1, if_neg (show ¬ 0 = j + 1 by omega)]
      unfold lapM
      rw [exT_red, nmT_red, occ_red (hp j hj).2, List.length_map, (hp j hj).1]
      have e2 : exT ((p, ex) :: ts) (i + 1) = exT ts i := rfl
      rw [e2]
      by_cases a : q = nmT ts j
      · rw [if_pos a, if_pos a]
        by_cases b : i = j
        · rw [if_pos b, if_pos (by omega)]; omega
        · rw [if_neg b, if_neg (by omega)]; omega
      · rw [if_neg a, if_neg a]
        by_cases b : i = j
        · rw [if_pos b, if_pos (by omega)]; omega
        · rw [if_neg b, if_neg (by omega)]; omega
    · intro i h1 h2
      (try simp only)
      rw [if_pos (show 1 ≤ i /\ i ≤ n by omega)]
      unfold rowS
      rw [if_neg (show ¬ i = 0 by omega), if_pos (show 0 = 0 from rfl)]
      (try simp only)
      rw [h0, if_neg e]
      unfold lapM
      rw [if_neg (show ¬ i = 0 by omega), h0]
      simp
      omega
theorem det_lap : ∀ (n : Nat) (ts : Tn), ts.length = n -> (ts.map (·.1)).Nodup -> det n (lapM ts) = cntT n ts
  | 0, ts, _, _ => by rw [det]; cases ts <;> rfl
  | n + 1, (p, ex) :: ts, h, hd => by
    have hn : ts.length = n := by simpa using h
    have hd' : (ts.map (·.1)).Nodup := by
      rw [List.map_cons, List.nodup_cons] at hd
      exact hd.2
    have key : ∀ l : List Int, det (n + 1) (rowS (lapM ((p, ex) :: ts)) 0 fun j => (if 0 = j then (l.length : Int) else 0) - occ (nmT ((p, ex) :: ts) j) l) = (l.map fun q => if q = p then 0 else cntT n (redT p q ts)).sum := by
      intro l
      induction l with
      | nil =>
        have : (fun j : Nat => (if 0 = j then ((([] : List Int).length : Nat) : Int) else 0) - occ (nmT ((p, ex) :: ts) j) []) = fun _ => 0 := by
          funext j
          simp [occ]
        rw [this, det_zero_row _ (by omega)]
        rfl
      | cons q l ih =>
        have : (fun j : Nat => (if 0 = j then (((q :: l).length : Nat) : Int) else 0) - occ (nmT ((p, ex) :: ts) j) (q :: l)) = fun j => 1 * ((if 0 = j then 1 else 0) - (if q = nmT ((p, ex) :: ts) j then 1 else 0)) + ((if 0 = j then (l.length : Int) else 0) - occ (nmT ((p, ex) :: ts) j) l) := by
          funext j
          rw [occ, List.length_cons]
          by_cases a : 0 = j
          · rw [if_pos a, if_pos a, if_pos a]; omega
          · rw [if_neg a, if_neg a, if_neg a]; omega
        rw [this, det_lin (lapM ((p, ex) :: ts)) 1 (fun j => (if 0 = j then 1 else 0) - (if q = nmT ((p, ex) :: ts) j then 1 else 0)) (fun j => (if 0 = j then (l.length : Int) else 0) - occ (nmT ((p, ex) :: ts) j) l) (by omega), ih, det_lap1 hn hd, List.map_cons, List.sum_cons, Int.one_mul]
        congr 1
        by_cases a : q = p
        · rw [if_pos a, if_pos a]
        · rw [if_neg a, if_neg a, det_lap n (redT p q ts) (by unfold redT; simpa using hn) (by rw [names_red]; exact hd')]
    have e : rowS (lapM ((p, ex) :: ts)) 0 (fun j => (if 0 = j then (ex.length : Int) else 0) - occ (nmT ((p, ex) :: ts) j) ex) = lapM ((p, ex) :: ts) := by
      have := rowS_same (lapM ((p, ex) :: ts)) 0
      exact this
    rw [cntT, ← key ex, e]
def prodL {α : Type} : List (List α) -> List (List α)
  | [] => [[]]
  | c :: cs => c.flatMap fun x => (prodL cs).map (x :: ·)
theorem prodL_map {α β : Type} (f : α -> β) : ∀ cs : List (List α), prodL (cs.map (·.map f)) = (prodL cs).map (·.map f)
  | [] => rfl
  | c :: cs => by
    rw [List.map_cons, prodL, prodL, prodL_map f cs, List.map_flatMap, List.flatMap_map]
    congr 1
    funext x
    rw [List.map_map, List.map_map]
    rfl
def okT : Nat -> List (Int × Int) -> Bool
  | 0, _ => true
  | _ + 1, [] => true
  | n + 1, (p, q) :: l => !decide (q = p) && okT n (l.map fun t => (t.1, red p q t.2))
theorem zip_red (p q : Int) : ∀ (ns c : List Int), ns.zip (c.map (red p q)) = (ns.zip c).map fun t => (t.1, red p q t.2)
  | [], _ => by simp
  | _ :: _, [] => by simp
  | x :: ns, y :: c => by rw [List.map_cons, List.zip_cons_cons, List.zip_cons_cons, List.map_cons, zip_red p q ns c]
theorem sum_natCast : ∀ l : List Nat, ((l.sum : Nat) : Int) = (l.map fun n : Nat => (n : Int)).sum
  | [] => rfl
  | x :: l => by rw [List.sum_cons, List.map_cons, List.sum_cons, ← sum_natCast l]; omega
theorem cnt_prod : ∀ (n : Nat) (ts : Tn), ts.length = n -> cntT n ts = (((prodL (ts.map (·.2))).countP fun c => okT n ((ts.map (·.1)).zip c) : Nat) : Int)
  | 0, ts, h => by
    rw [List.length_eq_zero_iff.1 h]
    rfl
  | n + 1, (p, ex) :: ts, h => by
    have hn : ts.length = n := by simpa using h
    have e0 : prodL (((p, ex) :: ts).map (·.2)) = ex.flatMap fun q => (prodL (ts.map (·.2))).map (q :: ·) := rfl
    rw [cntT, e0, List.countP_flatMap, sum_natCast, List.map_map]
    congr 1
    refine List.map_congr_left fun q _ => ?_
    (try simp only [Function.comp])
    rw [List.countP_map]
    by_cases e : q = p
    · rw [if_pos e]
      have : ((prodL (ts.map (·.2))).countP ((fun c => okT (n + 1) ((((p, ex) :: ts).map (·.1)).zip c)) ∘ fun c => q :: c)) = 0 := by
        rw [List.countP_eq_zero]
        intro c _
        simp [okT, e]
      rw [this]; rfl
    · rw [if_neg e, cnt_prod n (redT p q ts) (by unfold redT; simpa using hn), names_red]
      have e1 : (redT p q ts).map (·.2) = (ts.map (·.2)).map (·.map (red p q)) := by
        unfold redT
        rw [List.map_map, List.map_map]
        rfl
      rw [e1, prodL_map, List.countP_map]
      congr 1
      refine List.countP_congr fun c _ => ?_
      (try simp only [Function.comp])
      rw [zip_red, List.map_cons, List.zip_cons_cons, okT]
      simp [e]
theorem ok_rank : ∀ (n : Nat) (l : List (Int × Int)), l.length = n -> (l.map (·.1)).Nodup -> (okT n l = true ↔ ∃ rk : Int -> Nat, ∀ t, t ∈ l -> t.2 ∈ l.map (·.1) -> rk t.2 < rk t.1)
  | 0, l, h, _ => by
    rw [List.length_eq_zero_iff.1 h]
    exact ⟨fun _ => ⟨fun _ => 0, fun t ht => by simp at ht⟩, fun _ => rfl⟩
  | n + 1, (p, q) :: l, h, hd => by
    have hn : l.length = n := by simpa using h
    rw [List.map_cons, List.nodup_cons] at hd
    have ih := ok_rank n (l.map fun t => (t.1, red p q t.2)) (by simpa using hn) (by rw [List.map_map]; exact hd.2)
    have nm : (l.map fun t => (t.1, red p q t.2)).map (·.1) = l.map (·.1) := by rw [List.map_map]; rfl
    rw [nm] at ih
    rw [okT, Bool.and_eq_true, ih]
    constructor
    · rintro ⟨hq, rk, H⟩
      have hq : ¬ q = p := by simpa using hq
      refine ⟨fun x => if x = p then (if q ∈ l.map (·.1) then 2 * rk q + 3 else 1) else 2 * rk x + 2, fun t ht hm => ?_⟩
      rcases List.mem_cons.1 ht with rfl | ht
      · show (if q = p then (if q ∈ l.map (·.1) then 2 * rk q + 3 else 1) else 2 * rk q + 2) < (if p = p then (if q ∈ l.map (·.1) then 2 * rk q + 3 else 1) else 2 * rk p + 2)
        have hm' : q ∈ l.map (·.1) := by
          rw [List.map_cons] at hm
          rcases List.mem_cons.1 hm with e | e
          · exact absurd e hq
          · exact e
        rw [if_neg hq, if_pos rfl, if_pos hm']
        omega
      · have tp : t.1 ≠ p := fun e => hd.1 (e ▸ List.mem_map.2 ⟨t, ht, rfl⟩)
        show (if t.2 = p then (if q ∈ l.map (·.1) then 2 * rk q + 3 else 1) else 2 * rk t.2 + 2) < (if t.1 = p then (if q ∈ l.map (·.1) then 2 * rk q + 3 else 1) else 2 * rk t.1 + 2)
        rw [if_neg tp]
        have H' := H (t.1, red p q t.2) (List.mem_map.2 ⟨t, ht, rfl⟩)
        (try simp only at H')
        by_cases e : t.2 = p
        · rw [if_pos e]
          have er : red p q t.2 = q := by unfold red; rw [if_pos e]
          rw [er] at H'
          by_cases c : q ∈ l.map (·.1)
          · rw [if_pos c]; have := H' c; omega
          · rw [if_neg c]; omega
        · rw [if_neg e]
          have er : red p q t.2 = t.2 := by unfold red; rw [if_neg e]
          rw [er] at H'
          rw [List.map_cons] at hm
          rcases List.mem_cons.1 hm with a | a
          · exact absurd a e
          · have := H' a; omega
    · rintro ⟨rk, H⟩
      have H0 := H (p, q) (List.mem_cons_self ..)
      (try simp only at H0)
      refine ⟨?_, rk, fun t ht hm => ?_⟩
      · have : ¬ q = p := fun e => by
          have := H0 (by rw [List.map_cons, e]; exact List.mem_cons_self ..)
          rw [e] at this
          omega
        simpa using this
      · obtain ⟨u, hu, rfl⟩ := List.mem_map.1 ht
        (try simp only at hm ⊢)
        have Hu := H u (List.mem_cons_of_mem _ hu)
        rw [List.map_cons] at H0 Hu
        by_cases e : u.2 = p
        · have er : red p q u.2 = q := by unfold red; rw [if_pos e]
          rw [er] at hm ⊢
          have h1 := Hu (by rw [e]; exact List.mem_cons_self ..)
          have h2 := H0 (List.mem_cons_of_mem _ hm)
          rw [e] at h1
          omega
        · have er : red p q u.2 = u.2 := by unfold red; rw [if_neg e]
          rw [er] at hm ⊢
          exact Hu (List.mem_cons_of_mem _ hm)
theorem sum_le : ∀ (xs : List Int), (∀ x, x ∈ xs -> 0 ≤ x /\ x ≤ 1000) -> 0 ≤ xs.sum /\ xs.sum ≤ 1000 * (xs.length : Int)
  | [], _ => by simp
  | x :: xs, h => by
    have := sum_le xs fun y hy => h y (List.mem_cons_of_mem _ hy)
    have h2 := h x (List.mem_cons_self ..)
    simp only [List.sum_cons, List.length_cons]
    omega
theorem k_wSum {S : Nat -> Prop} {h : Heap} {a : Sl} {xs : List Int} (H : RdI S h a xs) (hb : ∀ x, x ∈ xs -> 0 ≤ x /\ x ≤ 1000) (hn : xs.length ≤ 1000) (K : Value -> Heap -> Prop) (HK : K (VI xs.sum) h) : callM Try.prog 34 #[a.v] h K := by
  have an := RdI.len H
  refine v34 a h K ⟨fun m s p h' => h' = h /\ 0 ≤ p /\ p + m = (xs.length : Int) /\ s = (xs.take p.toNat).sum, ⟨xs.length, rfl, by omega, by omega, by simp⟩, ?_⟩
  rintro m s p h1 ⟨rfl, p0, p1, rfl⟩ hL1
  refine ⟨fun e => ?_, fun e => ?_⟩
  · simp only [decide_eq_true_eq] at e
    have hp : p.toNat < xs.length := by omega
    have e1 : (xs.take (p.toNat + 1)).sum = (xs.take p.toNat).sum + xs[p.toNat] := by rw [List.take_add_one, List.getElem?_eq_getElem hp]; simp only [Option.toList_some, List.sum_append, List.sum_cons, List.sum_nil, Int.add_zero]
    have b1 := sum_le (xs.take (p.toNat + 1)) fun x hx => hb x (List.mem_of_mem_take hx)
    have l1 : (xs.take (p.toNat + 1)).length ≤ 1000 := by simp; omega
    refine ⟨H.inb p0 (by omega), _, H.get p0 (by omega), m - 1, by omega, rfl, ?_, ?_, ?_⟩
    · rw [w64_eq _ (by omega) (by omega)]; omega
    · rw [w64_eq _ (by omega) (by omega)]; omega
    · rw [w64_eq (p + 1) (by omega) (by omega), w64_eq _ (by omega) (by omega), show (p + 1).toNat = p.toNat + 1 by omega, e1]
  · simp only [decide_eq_false_iff_not] at e
    rw [List.take_of_length_le (by omega)]
    exact HK
def Way (g : List (List Int)) (p : Int) : Nat -> Int -> Prop
  | 0, q => p = q
  | k + 1, q => ∃ x, Way g p k x /\ q ∈ g.getD x.toNat []
theorem Way.rng {g : List (List Int)} (hg : graphB g = true) {p : Int} (h0 : 0 ≤ p) (h1 : p < (g.length : Int)) : ∀ {k : Nat} {q : Int}, Way g p k q -> 0 ≤ q /\ q < (g.length : Int)
  | 0, q, h => by rw [← show p = q from h]; exact ⟨h0, h1⟩
  | k + 1, q, h => by
    obtain ⟨x, hx, hq⟩ := h
    have hr := Way.rng hg h0 h1 hx
    rw [getD_get (by omega)] at hq
    exact (graph_mem hg (List.getElem_mem (show x.toNat < g.length by omega))).2 q hq
theorem Way.trans {g : List (List Int)} {p q r : Int} {a : Nat} (h : Way g p a q) : ∀ {b : Nat}, Way g q b r -> Way g p (a + b) r
  | 0, k => by rw [← show q = r from k]; exact h
  | b + 1, k => by
    obtain ⟨x, hx, hr⟩ := k
    exact ⟨x, h.trans hx, hr⟩
theorem set_getI {l : List Int} {i j : Nat} {v : Int} (hi : i < l.length) : (l.set i v).getD j 0 = if i = j then v else l.getD j 0 := by
  rw [List.getD_eq_getElem?_getD, List.getElem?_set, List.getD_eq_getElem?_getD]
  by_cases h : i = j
  · subst h; simp [hi]
  · simp [h]
structure BIn (x : Int) (qs far : List Int) (far' new : List Int) : Prop where
  len : far'.length = far.length
  old : ∀ y : Nat, 0 ≤ far.getD y 0 -> far'.getD y 0 = far.getD y 0
  chg : ∀ y : Nat, far.getD y 0 < 0 -> far'.getD y 0 = far.getD y 0 ∨ far'.getD y 0 = far.getD x.toNat 0 + 1 /\ (y : Int) ∈ qs /\ (y : Int) ∈ new
  met : ∀ y, y ∈ qs -> 0 ≤ far'.getD y.toNat 0
  nw : ∀ z, z ∈ new -> z ∈ qs /\ far'.getD z.toNat 0 = far.getD x.toNat 0 + 1
  cnt : new.length + negs far' = negs far
theorem bfsIn_spec (x : Int) : ∀ (qs far out : List Int), (∀ q, q ∈ qs -> 0 ≤ q /\ q < (far.length : Int)) -> 0 ≤ far.getD x.toNat 0 -> ∃ far' new, bfsIn x qs (far, out) = (far', out ++ new) /\ BIn x qs far far' new
  | [], far, out, _, _ => ⟨far, [], by rw [bfsIn, List.append_nil], rfl, fun _ _ => rfl, fun _ _ => .inl rfl, fun y hy => by simp at hy, fun z hz => by simp at hz, by simp⟩
  | q :: qs, far, out, hr, hx => by
    have hq := hr q List.mem_cons_self
    rw [bfsIn]
    by_cases hn : far.getD q.toNat 0 < 0
    · rw [if_pos hn]
      simp only
      have hqx : q.toNat ≠ x.toNat := fun e => by rw [e] at hn; omega
      have gx : (far.set q.toNat (far.getD x.toNat 0 + 1)).getD x.toNat 0 = far.getD x.toNat 0 := by rw [set_getI (by omega), if_neg hqx]
      obtain ⟨far', new, e, B⟩ := bfsIn_spec x qs (far.set q.toNat (far.getD x.toNat 0 + 1)) (out ++ [q]) (fun r h => by rw [List.length_set]; exact hr r (List.mem_cons_of_mem _ h)) (by rw [gx]; exact hx)
      have hc := negs_set (l := far) (i := q.toNat) (v := far.getD x.toNat 0 + 1) (by omega) (by rw [← getD_getI (by omega)]; exact hn) (by omega)
      have hqf : far'.getD q.toNat 0 = far.getD x.toNat 0 + 1 := by
        have := B.old q.toNat (by rw [set_getI (by omega), if_pos rfl]; omega)
        rw [this, set_getI (by omega), if_pos rfl]
      refine ⟨far', q :: new, by rw [e, List.append_assoc]; rfl, by rw [B.len, List.length_set], fun y hy => ?_, fun y hy => ?_, fun y hy => ?_, fun z hz => ?_, by have := B.cnt; simp only [List.length_cons]; omega⟩
      · have hne : q.toNat ≠ y := fun e => by rw [e] at hn; omega
        have := B.old y (by rw [set_getI (by omega), if_neg hne]; exact hy)
        rw [this, set_getI (by omega), if_neg hne]
      · by_cases hne : q.toNat = y
        · subst hne
          refine .inr ⟨hqf, ?_, ?_⟩ <;> rw [show ((q.toNat : Nat) : Int) = q by omega] <;> exact List.mem_cons_self
        · have g1 : (far.set q.toNat (far.getD x.toNat 0 + 1)).getD y 0 = far.getD y 0 := by rw [set_getI (by omega), if_neg hne]
          rcases B.chg y (by rw [g1]; exact hy) with h | ⟨h1, h2, h3⟩
          · exact .inl (h.trans g1)
          · exact .inr ⟨by rw [h1, gx], List.mem_cons_of_mem _ h2, List.mem_cons_of_mem _ h3⟩
      · rcases List.mem_cons.1 hy with rfl | hy
        · rw [hqf]; omega
        · exact B.met y hy
      · rcases List.mem_cons.1 hz with rfl | hz
        · exact ⟨List.mem_cons_self, hqf⟩
        · have := B.nw z hz
          exact ⟨List.mem_cons_of_mem _ this.1, by rw [this.2, gx]⟩
    · rw [if_neg hn]
      obtain ⟨far', new, e, B⟩ := bfsIn_spec x qs far out (fun r h => hr r (List.mem_cons_of_mem _ h)) hx
      refine ⟨far', new, e, B.len, B.old, fun y hy => ?_, fun y hy => ?_, fun z hz => ⟨List.mem_cons_of_mem _ (B.nw z hz).1, (B.nw z hz).2⟩, B.cnt⟩
      · rcases B.chg y hy with h | ⟨h1, h2, h3⟩
        · exact .inl h
        · exact .inr ⟨h1, List.mem_cons_of_mem _ h2, h3⟩
      · rcases List.mem_cons.1 hy with rfl | hy
        · rw [B.old _ (by omega)]; omega
        · exact B.met y hy
structure BQ (g : List (List Int)) (p : Int) (far qu : List Int) : Prop where
  len : far.length = g.length
  way : ∀ y : Nat, y < g.length -> 0 ≤ far.getD y 0 -> Way g p (far.getD y 0).toNat y
  lo : ∀ y : Nat, -1 ≤ far.getD y 0
  qin : ∀ x, x ∈ qu -> 0 ≤ x /\ x < (g.length : Int) /\ 0 ≤ far.getD x.toNat 0
  ord : qu.Pairwise fun a b => far.getD a.toNat 0 ≤ far.getD b.toNat 0
  top : ∀ x r, qu = x :: r -> ∀ y : Nat, y < g.length -> far.getD y 0 ≤ far.getD x.toNat 0 + 1
  done : ∀ x : Nat, x < g.length -> 0 ≤ far.getD x 0 -> (x : Int) ∈ qu ∨ ∀ y, y ∈ g.getD x [] -> 0 ≤ far.getD y.toNat 0 /\ far.getD y.toNat 0 ≤ far.getD x 0 + 1
  home : far.getD p.toNat 0 = 0
  hi : ∀ y : Nat, y < g.length -> far.getD y 0 + negs far < g.length
theorem bfs_done {g : List (List Int)} (hg : graphB g = true) {p : Int} : ∀ (f : Nat) (far qu : List Int), BQ g p far qu -> qu.length + negs far ≤ f -> BQ g p (bfsP g f far qu) []
  | 0, far, qu, B, h => by
    have : qu = [] := List.eq_nil_of_length_eq_zero (by omega)
    subst this
    exact B
  | f + 1, far, [], B, h => B
  | f + 1, far, x :: rest, B, h => by
    have hx := B.qin x List.mem_cons_self
    have hxl : x.toNat < g.length := by omega
    have hq : ∀ q, q ∈ g.getD x.toNat [] -> 0 ≤ q /\ q < (far.length : Int) := fun q hq => by
      rw [getD_get hxl] at hq
      rw [B.len]
      exact (graph_mem hg (List.getElem_mem hxl)).2 q hq
    obtain ⟨far', new, e, C⟩ := bfsIn_spec x (g.getD x.toNat []) far [] hq hx.2.2
    rw [bfsP, e]
    simp only [List.nil_append]
    have gx : far'.getD x.toNat 0 = far.getD x.toNat 0 := C.old _ hx.2.2
    have hgrow : ∀ y : Nat, 0 ≤ far.getD y 0 -> far'.getD y 0 = far.getD y 0 := C.old
    have hle : ∀ y : Nat, y < g.length -> far'.getD y 0 ≤ far.getD x.toNat 0 + 1 := fun y hy => by
      by_cases h0 : 0 ≤ far.getD y 0
      · rw [C.old y h0]; exact B.top x rest rfl y hy
      · rcases C.chg y (by omega) with h | ⟨h, _⟩
        · rw [h]; omega
        · omega
    have hrest : ∀ z, z ∈ rest -> far'.getD z.toNat 0 = far.getD z.toNat 0 := fun z hz => C.old _ (B.qin z (List.mem_cons_of_mem _ hz)).2.2
    obtain ⟨o1, o2⟩ := List.pairwise_cons.1 B.ord
    refine bfs_done hg f far' (rest ++ new) ⟨by rw [C.len, B.len], fun y hy h0 => ?_, fun y => ?_, fun z hz => ?_, ?_, fun z r hz y hy => ?_, fun y hy h0 => ?_, ?_, fun y hy => ?_⟩ ?_
    · by_cases h1 : 0 ≤ far.getD y 0
      · rw [C.old y h1]; exact B.way y hy h1
      · rcases C.chg y (by omega) with h | ⟨h, h2, _⟩
        · rw [h] at h0; omega
        · rw [h, show (far.getD x.toNat 0 + 1).toNat = (far.getD x.toNat 0).toNat + 1 by omega]
          refine ⟨x, ?_, h2⟩
          have := B.way x.toNat hxl hx.2.2
          rwa [show ((x.toNat : Nat) : Int) = x by omega] at this
    · by_cases h1 : 0 ≤ far.getD y 0
      · rw [C.old y h1]; omega
      · have := B.lo y
        rcases C.chg y (by omega) with h | ⟨h, _⟩ <;> omega
    · rcases List.mem_append.1 hz with hz | hz
      · have := B.qin z (List.mem_cons_of_mem _ hz)
        exact ⟨this.1, this.2.1, by rw [hrest z hz]; exact this.2.2⟩
      · have a := C.nw z hz
        have b := hq z a.1
        rw [B.len] at b
        exact ⟨b.1, b.2, by rw [a.2]; omega⟩
    · rw [List.pairwise_append]
      refine ⟨o2.imp_of_mem fun {a b} ha hb hab => by rw [hrest a ha, hrest b hb]; exact hab, ?_, fun a ha b hb => ?_⟩
      · rw [List.pairwise_iff_getElem]
        intro i j hi hj _
        rw [(C.nw _ (List.getElem_mem hi)).2, (C.nw _ (List.getElem_mem hj)).2]
        omega
      · rw [hrest a ha, (C.nw b hb).2]
        have := B.qin a (List.mem_cons_of_mem _ ha)
        exact B.top x rest rfl a.toNat (by omega)
    · have hz1 : far.getD x.toNat 0 ≤ far'.getD z.toNat 0 := by
        have hzm : z ∈ rest ++ new := by rw [hz]; exact List.mem_cons_self
        rcases List.mem_append.1 hzm with h | h
        · rw [hrest z h]; exact o1 z h
        · rw [(C.nw z h).2]; omega
      have := hle y hy
      omega
    · by_cases hyx : (y : Int) = x
      · refine .inr fun z hz => ?_
        have hyx' : y = x.toNat := by omega
        rw [hyx'] at hz ⊢
        have := hq z hz
        rw [B.len] at this
        exact ⟨C.met z hz, by rw [gx]; exact hle z.toNat (by omega)⟩
      · by_cases h1 : 0 ≤ far.getD y 0
        · rcases B.done y hy h1 with h | h
          · rcases List.mem_cons.1 h with h | h
            · exact absurd h hyx
            · exact .inl (List.mem_append.2 (.inl h))
          · refine .inr fun z hz => ?_
            obtain ⟨a, b⟩ := h z hz
            rw [C.old _ a, C.old _ h1]
            exact ⟨a, b⟩
        · rcases C.chg y (by omega) with h | ⟨_, _, h⟩
          · rw [h] at h0; omega
          · exact .inl (List.mem_append.2 (.inr h))
    · rw [C.old _ (by rw [B.home]; omega)]; exact B.home
    · have hc := C.cnt
      by_cases h1 : 0 ≤ far.getD y 0
      · rw [C.old y h1]; have := B.hi y hy; omega
      · rcases C.chg y (by omega) with h | ⟨h, _, h3⟩
        · rw [h]; have := B.hi y hy; omega
        · have := List.length_pos_of_mem h3
          have := B.hi x.toNat hxl
          rw [h]; omega
    · have := C.cnt
      simp only [List.length_cons, List.length_append] at *
      omega
theorem far_bq {g : List (List Int)} (hg : graphB g = true) {p : Int} (h0 : 0 ≤ p) (h1 : p < (g.length : Int)) : BQ g p (farP g p) [] := by
  obtain ⟨b1, b2⟩ := bok0 (n := g.length) (p := p.toNat) (by omega)
  have gd : ∀ y : Nat, ((List.replicate g.length (-1 : Int)).set p.toNat 0).getD y 0 = if p.toNat = y then 0 else if y < g.length then -1 else 0 := fun y => by
    rw [set_getI (by simp; omega)]
    split
    · rfl
    · rw [List.getD_eq_getElem?_getD, List.getElem?_replicate]; split <;> rfl
  refine bfs_done hg g.length _ [p] ⟨by simp, fun y hy h => ?_, fun y => ?_, fun x hx => ?_, by simp, fun x r hx y hy => ?_, fun x hx h => ?_, ?_, fun y hy => ?_⟩ (by simp only [List.length_cons, List.length_nil]; omega)
  · rw [gd] at h ⊢
    split at h
    · rename_i e
      rw [if_pos e]
      show p = (y : Int)
      omega
    · simp at h
  · rw [gd]; split
    · omega
    · split <;> omega
  · simp only [List.mem_cons, List.not_mem_nil, or_false] at hx
    subst hx
    exact ⟨h0, h1, by rw [gd, if_pos rfl]; omega⟩
  · simp only [List.cons.injEq] at hx
    rw [← hx.1, gd, gd, if_pos rfl]
    split
    · omega
    · (try split) <;> omega
  · rw [gd] at h
    split at h
    · exact .inl (by simp; omega)
    · simp at h
  · rw [gd, if_pos rfl]
  · rw [gd]
    split
    · omega
    · (try split) <;> omega
theorem far_le {g : List (List Int)} (hg : graphB g = true) {p : Int} (h0 : 0 ≤ p) (h1 : p < (g.length : Int)) : ∀ {k : Nat} {q : Int}, Way g p k q -> 0 ≤ (farP g p).getD q.toNat 0 /\ (farP g p).getD q.toNat 0 ≤ k
  | 0, q, h => by rw [← show p = q from h, (far_bq hg h0 h1).home]; omega
  | k + 1, q, h => by
    obtain ⟨x, hx, hq⟩ := h
    obtain ⟨a, b⟩ := far_le hg h0 h1 hx
    have hr := hx.rng hg h0 h1
    rcases (far_bq hg h0 h1).done x.toNat (by omega) a with c | c
    · simp at c
    · have := c q hq
      omega
theorem far_way {g : List (List Int)} (hg : graphB g = true) {p q : Int} (h0 : 0 ≤ p) (h1 : p < (g.length : Int)) (q0 : 0 ≤ q) (q1 : q < (g.length : Int)) (h : 0 ≤ (farP g p).getD q.toNat 0) : Way g p ((farP g p).getD q.toNat 0).toNat q := by
  have := (far_bq hg h0 h1).way q.toNat (by omega) h
  rwa [show ((q.toNat : Nat) : Int) = q by omega] at this
end Go.Proofs.Ytgiamamfnpklkaa
