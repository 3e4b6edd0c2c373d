import Derived.Test.YtkjkfjkapbpgiaaGraphsReachedU3
import Derived.Test.YtkjkfjkapbpgiaaM4
import Derived.RangeFuncLeaves
import Derived.Shelf.Abstract
import Derived.WalkKit
import Derived.OwnWalkIn
import Derived.LoopIn
import Derived.Shelf.SlIterI.Collect
set_option linter.unusedVariables false
set_option linter.unusedSimpArgs false
namespace Go.Proofs.Ytkjkfjkapbpgiaa
open Go Go.Mx
@[reducible] def tI : TypeId := 3
@[reducible] def tIs : TypeId := 27
@[reducible] def tIss : TypeId := 22
theorem rIs : rowC Try.prog tIs = some (tI, 1, 8, [VI 0]) := by kernel_rfl
theorem rIss : rowC Try.prog tIss = some (tIs, 1, 24, [nilSl.v]) := by kernel_rfl
@[reducible] def OwI (h : Heap) (F : Nat → Prop) (s : Sl) (xs : List Int) : Prop := Ow h F tI 1 s (xs.map VI)
@[reducible] def OwX (h : Heap) (F : Nat → Prop) (s : Sl) (xss : List (List Int)) : Prop := OwR h F tIs tI s xss
theorem plainVI (xs : List Int) : (xs.map VI).all plainV = true := by simp [List.all_eq_true, plainV]
theorem k_impl_in (n lo hi : Int) (h : Heap) (K : Value → Heap → Prop) (H : K (VB (decide (lo ≤ n) && decide (n ≤ hi))) h) : callM Try.prog 102 #[VI n, VI lo, VI hi] h K := by
  refine v102 n lo hi h K ⟨fun e => ?_, fun e => ?_⟩
  · rw [e, Bool.true_and] at H; exact H
  · rw [e, Bool.false_and] at H; exact H
theorem k_spec_l1In (n lo hi : Int) (h : Heap) (K : Value → Heap → Prop) (H : K (VB (decide (lo ≤ n) && decide (n ≤ hi))) h) : callM Try.prog 113 #[VI n, VI lo, VI hi] h K := by
  refine v113 n lo hi h K ⟨fun e => ?_, fun e => ?_⟩
  · rw [e, Bool.true_and] at H; exact H
  · rw [e, Bool.false_and] at H; exact H
def inR (lo hi x : Int) : Bool := decide (lo ≤ x) && decide (x ≤ hi)
def graphB (g : List (List Int)) : Bool := inR 1 8 g.length && g.all fun l => !decide (5 < (l.length : Int)) && l.all (inR 0 ((g.length : Int) - 1))
theorem not_t {b : Bool} (h : (!b) = true) : b = false := by simpa using h
theorem not_f {b : Bool} (h : (!b) = false) : b = true := by simpa using h
theorem k_spec_l1All {S : Nat → Prop} {h : Heap} {l : Sl} {xs : List Int} (H : RdI S h l xs) (lo hi_1 : Int) (K : Value → Heap → Prop) (HK : K (VB (xs.all (inR lo hi_1))) h) : callM Try.prog 96 #[l.v, VI lo, VI hi_1] h K := by
  refine v96 l lo hi_1 h K ?_
  refine ⟨fun n i h' => h' = h ∧ 0 ≤ i ∧ i + n = (xs.length : Int) ∧ xs.all (inR lo hi_1) = (xs.drop i.toNat).all (inR lo hi_1), ⟨xs.length, rfl, by omega, by omega, by simp⟩, ?_⟩
  rintro n i _ ⟨rfl, h0, h1, h2⟩ hL
  refine ⟨fun e => ?_, fun e => ?_⟩
  · have hi := H.lt e
    refine ⟨H.inb h0 hi, _, H.get h0 hi, ?_⟩
    rw [drop_cons xs h0 hi, List.all_cons] at h2
    refine k_spec_l1In _ _ _ _ _ ⟨_, rfl, hL, fun e2 => ?_, fun e2 => ?_⟩
    · have e3 : inR lo hi_1 (xs[i.toNat]'(by omega)) = false := not_t e2
      rw [h2, e3] at HK
      exact HK
    · have e3 : inR lo hi_1 (xs[i.toNat]'(by omega)) = true := not_f e2
      rw [e3, Bool.true_and] at h2
      rw [H.succ h0 hi]
      exact ⟨n - 1, by omega, rfl, by omega, by omega, h2⟩
  · have hi := H.ge e
    rw [List.drop_of_length_le (by omega)] at h2
    rw [h2] at HK
    exact HK
theorem k_spec_grGood {S : Nat → Prop} {h : Heap} {g : Sl} {xss : List (List Int)} (H : RdR S h g xss) : Ret Try.prog 73 #[.agg #[g.v]] h (VB (graphB xss)) := by
  intro K HK
  refine v73 g h K ?_
  intro b1 h1 hb1 hf1 hL1
  have f1 := hf1.in_nil
  have hlen := H.len
  refine k_spec_l1In _ _ _ _ _ ⟨_, rfl, hL1, fun e => ?_, fun e => ?_⟩
  · have e3 : inR 1 8 xss.length = false := by have := not_t e; rw [hlen] at this; exact this
    have : graphB xss = false := by unfold graphB; rw [e3]; rfl
    rw [← this]; exact HK _ f1
  · have e3 : inR 1 8 xss.length = true := by have := not_f e; rw [hlen] at this; exact this
    have hw : w64 ((g.n : Int) - 1) = (xss.length : Int) - 1 := by rw [hlen]; exact w64_eq _ (by omega) (by have := maxLen_lt H.big; omega)
    have hg : graphB xss = xss.all fun l => !decide (5 < (l.length : Int)) && l.all (inR 0 ((xss.length : Int) - 1)) := by unfold graphB; rw [e3]; rfl
    rw [hw]
    refine ⟨fun n i h' => Fr No h1 h' ∧ 0 ≤ i ∧ i + n = (xss.length : Int) ∧ graphB xss = (xss.drop i.toNat).all (fun l => !decide (5 < (l.length : Int)) && l.all (inR 0 ((xss.length : Int) - 1))), ⟨xss.length, Fr.refl _ _, by omega, by omega, by simp [hg]⟩, ?_⟩
    rintro n i h3 ⟨f3, h0, h2, h4⟩ hL
    have H3 := (H.no f1).no f3
    refine ⟨fun e => ?_, fun e => ?_⟩
    · have hi := H.lt e
      obtain ⟨si, hc, Hi⟩ := H3.get h0 hi
      refine ⟨H3.inb h0 hi, si, hc, fun e5 => ?_, fun e5 => ?_⟩
      · rw [drop_cons xss h0 hi, List.all_cons] at h4
        rw [Hi.len] at e5
        rw [e5] at h4
        have h5 : graphB xss = false := by rw [h4]; rfl
        rw [← h5]; exact HK _ (f1.trans f3)
      · rw [drop_cons xss h0 hi, List.all_cons] at h4
        rw [Hi.len] at e5
        rw [e5] at h4
        refine k_spec_l1All Hi _ _ _ ⟨_, rfl, hL, fun e6 => ?_, fun e6 => ?_⟩
        · rw [not_t e6] at h4
          have h5 : graphB xss = false := by rw [h4]; rfl
          rw [← h5]; exact HK _ (f1.trans f3)
        · rw [not_f e6] at h4
          rw [H.succ h0 hi]
          exact ⟨n - 1, by omega, f3, by omega, by omega, by rw [h4]; rfl⟩
    · have hi := H.ge e
      rw [List.drop_of_length_le (by omega)] at h4
      have h5 : graphB xss = true := by rw [h4]; rfl
      rw [← h5]; exact HK _ (f1.trans f3)
theorem k_IndexFunc {S : Nat → Prop} {h : Heap} {s : Sl} {xs : List Int} (H : RdI S h s xs) (f : Value) (p : Int → Bool) (hf : ∀ (x : Int) (K : Value → Heap → Prop), K (VB (p x)) h → callV Try.prog f [VI x] h K) (K : Value → Heap → Prop) (HK : ∀ r : Int, decide (0 ≤ r) = xs.any p → K (VI r) h) : callM Try.prog 121 #[s.v, f] h K := by
  refine v121 s f h K ⟨fun n i h' => h' = h ∧ 0 ≤ i ∧ i + n = (xs.length : Int) ∧ xs.any p = (xs.drop i.toNat).any p, ⟨xs.length, rfl, by omega, by omega, by simp⟩, ?_⟩
  rintro n i _ ⟨rfl, i0, i1, i2⟩ hL
  refine ⟨fun e => ?_, fun e => ?_⟩
  · have hi := H.lt e
    rw [drop_cons xs i0 hi, List.any_cons] at i2
    refine ⟨H.inb i0 hi, _, H.get i0 hi, hf _ _ ⟨_, rfl, .nil, fun e => ?_, fun e => ?_⟩⟩
    · rw [e, Bool.true_or] at i2
      exact HK _ (by rw [i2]; simpa using i0)
    · rw [e, Bool.false_or] at i2
      rw [H.succ i0 hi]
      exact ⟨n - 1, by omega, rfl, by omega, by omega, i2⟩
  · have hi := H.ge e
    rw [List.drop_of_length_le (by omega)] at i2
    exact HK _ (by rw [i2]; rfl)
theorem k_ContainsFunc {S : Nat → Prop} {h : Heap} {s : Sl} {xs : List Int} (H : RdI S h s xs) (f : Value) (p : Int → Bool) (hf : ∀ (x : Int) (K : Value → Heap → Prop), K (VB (p x)) h → callV Try.prog f [VI x] h K) (K : Value → Heap → Prop) (HK : K (VB (xs.any p)) h) : callM Try.prog 103 #[s.v, f] h K := by
  refine v103 s f h K (k_IndexFunc H f p hf _ fun r hr => ⟨r, rfl, .nil, ?_⟩)
  rw [hr]; exact HK
theorem k_isGraph1 {h : Heap} {b : Nat} {n : Int} (x : Int) {L : List (Nat × List Value)} (hL : Vars h ((b, [VI n]) :: L)) (K : Value → Heap → Prop) (HK : K (VB (!inR 0 (w64 (n - 1)) x)) h) : callV Try.prog (.func (.func 104) #[] #[VP b 0]) [VI x] h K := by
  refine v104 x b n h K (.cons hL.head (by simp) .nil) ?_
  refine k_impl_in _ _ _ _ _ ⟨_, rfl, .cons hL.head (by simp) .nil, ?_⟩
  exact HK
theorem k_has1 {h : Heap} {b : Nat} {g : Sl} (x : Int) {L : List (Nat × List Value)} (hL : Vars h ((b, [g.v]) :: L)) (K : Value → Heap → Prop) (HK : K (VB (!inR 0 (w64 (g.n - 1)) x)) h) : callV Try.prog (.func (.func 111) #[] #[VP b 0]) [VI x] h K := by
  refine v111 x b g h K (.cons hL.head (by simp) .nil) ?_
  refine k_impl_in _ _ _ _ _ ⟨_, rfl, .cons hL.head (by simp) .nil, ?_⟩
  exact HK
theorem graphB_eq {xss : List (List Int)} (e3 : inR 1 8 xss.length = true) : graphB xss = xss.all fun l => !decide (5 < (l.length : Int)) && l.all (inR 0 ((xss.length : Int) - 1)) := by unfold graphB; rw [e3]; rfl
theorem graphB_no {xss : List (List Int)} (e3 : inR 1 8 xss.length = false) : graphB xss = false := by unfold graphB; rw [e3]; rfl
theorem any_not {xs : List Int} {p : Int → Bool} : xs.any (fun x => !p x) = !xs.all p := by
  induction xs with
  | nil => rfl
  | cons x xs ih => simp only [List.any_cons, List.all_cons, ih, Bool.not_and]
theorem len_w64 {S : Nat → Prop} {h : Heap} {g : Sl} {xss : List (List Int)} (H : RdR S h g xss) : w64 ((g.n : Int) - 1) = (xss.length : Int) - 1 := by
  rw [H.len]
  have h1 := maxLen_lt H.big
  have h2 := H.len
  exact w64_eq _ (by omega) (by omega)
theorem k_isGraph {S : Nat → Prop} {h : Heap} {g : Sl} {xss : List (List Int)} (H : RdR S h g xss) : Ret Try.prog 56 #[.agg #[g.v]] h (VB (graphB xss)) := by
  intro K HK
  refine v56 g h K fun b1 b2 h1 hb1 hb2 hf1 hL1 => ?_
  have f1 := hf1.in_nil
  have hlen := H.len
  refine k_impl_in _ _ _ _ _ ⟨_, rfl, hL1, fun e => ?_, fun e => ?_⟩
  · have e3 : inR 1 8 xss.length = false := by have := not_t e; rw [hlen] at this; exact this
    rw [← graphB_no e3]; exact HK _ f1
  · have e3 : inR 1 8 xss.length = true := by have := not_f e; rw [hlen] at this; exact this
    have hg := graphB_eq e3
    refine ⟨fun n i x h' => h' = h1 ∧ x = (g.n : Int) ∧ 0 ≤ i ∧ i + n = (xss.length : Int) ∧ graphB xss = (xss.drop i.toNat).all (fun l => !decide (5 < (l.length : Int)) && l.all (inR 0 ((xss.length : Int) - 1))), ⟨xss.length, rfl, rfl, by omega, by omega, by simp [hg]⟩, ?_⟩
    rintro n i x _ ⟨rfl, rfl, h0, h2, h4⟩ hL
    have H3 := H.no f1
    refine ⟨fun e => ?_, fun e => ?_⟩
    · have hi := H.lt e
      obtain ⟨si, hc, Hi⟩ := H3.get h0 hi
      rw [drop_cons xss h0 hi, List.all_cons] at h4
      refine ⟨H3.inb h0 hi, si, hc, fun e5 => ?_, fun e5 => ?_⟩
      · rw [Hi.len] at e5
        rw [e5] at h4
        have h5 : graphB xss = false := by rw [h4]; rfl
        rw [← h5]; exact HK _ f1
      · rw [Hi.len] at e5
        rw [e5] at h4
        refine k_ContainsFunc Hi _ _ (fun x K HK => k_isGraph1 x hL K HK) _ ?_
        refine ⟨_, _, rfl, hL, fun e6 => ?_, fun e6 => ?_⟩
        · rw [any_not, len_w64 H] at e6
          rw [not_t e6] at h4
          have h5 : graphB xss = false := by rw [h4]; rfl
          rw [← h5]; exact HK _ f1
        · rw [any_not, len_w64 H] at e6
          rw [not_f e6] at h4
          rw [H.succ h0 hi]
          exact ⟨n - 1, by omega, rfl, rfl, by omega, by omega, by rw [h4]; rfl⟩
    · have hi := H.ge e
      rw [List.drop_of_length_le (by omega)] at h4
      have h5 : graphB xss = true := by rw [h4]; rfl
      rw [← h5]; exact HK _ f1
theorem k_has {S S' : Nat → Prop} {h : Heap} {g s : Sl} {xss : List (List Int)} {ps : List Int} (H : RdR S h g xss) (Hp : RdI S' h s ps) : Ret Try.prog 65 #[.agg #[g.v], s.v] h (VB (graphB xss && ps.all (inR 0 ((xss.length : Int) - 1)))) := by
  intro K HK
  refine v65 g s h K fun b1 h1 hb1 f1 hL1 => ?_
  have f1 := f1.in_nil
  refine k_isGraph (H.no f1) _ fun h2 f2 => ⟨_, rfl, hL1.of_no f2, fun e => ?_, fun e => ?_⟩
  · rw [e, Bool.true_and] at HK
    have hL2 := hL1.of_no f2
    refine k_ContainsFunc ((Hp.no f1).no f2) _ _ (fun x K HK => k_has1 x hL2 K HK) _ ?_
    refine ⟨_, _, rfl, hL2, ?_⟩
    rw [any_not, len_w64 H, Bool.not_not]
    exact HK _ (f1.trans f2)
  · rw [e, Bool.false_and] at HK
    exact HK _ (f1.trans f2)
theorem k_spec_grPlace {S : Nat → Prop} {h : Heap} {g : Sl} {xss : List (List Int)} (H : RdR S h g xss) (p : Int) : Ret Try.prog 67 #[.agg #[g.v], VI p] h (VB (graphB xss && inR 0 ((xss.length : Int) - 1) p)) := by
  intro K HK
  refine v67 g p h K fun b1 h1 hb1 f1 hL1 => ?_
  have f1 := f1.in_nil
  refine k_spec_grGood (H.no f1) _ fun h2 f2 => ⟨_, rfl, hL1.of_no f2, fun e => ?_, fun e => ?_⟩
  · rw [e, Bool.true_and] at HK
    refine k_spec_l1In _ _ _ _ _ ⟨_, rfl, hL1.of_no f2, ?_⟩
    rw [len_w64 H]
    exact HK _ (f1.trans f2)
  · rw [e, Bool.false_and] at HK
    exact HK _ (f1.trans f2)
theorem inR_iff {lo hi x : Int} : inR lo hi x = true ↔ lo ≤ x ∧ x ≤ hi := by simp [inR]
theorem graph_len {g : List (List Int)} (h : graphB g = true) : 1 ≤ g.length ∧ g.length ≤ 8 := by
  unfold graphB at h
  rw [Bool.and_eq_true, inR_iff] at h
  omega
theorem graph_mem {g : List (List Int)} (h : graphB g = true) {l : List Int} (hl : l ∈ g) : l.length ≤ 5 ∧ ∀ x, x ∈ l → 0 ≤ x ∧ x < (g.length : Int) := by
  unfold graphB at h
  rw [Bool.and_eq_true] at h
  have := List.all_eq_true.1 h.2 l hl
  rw [Bool.and_eq_true] at this
  obtain ⟨h1, h2⟩ := this
  simp only [Bool.not_eq_true', decide_eq_false_iff_not] at h1
  refine ⟨by omega, fun x hx => ?_⟩
  have := List.all_eq_true.1 h2 x hx
  rw [inR_iff] at this
  omega
theorem getD_get {g : List (List Int)} {i : Nat} (h : i < g.length) : g.getD i [] = g[i] := by simp [List.getD, List.getElem?_eq_getElem h]
@[reducible] def tB : TypeId := 4
@[reducible] def tBs : TypeId := 93
theorem rBs : rowC Try.prog tBs = some (tB, 1, 1, [VB false]) := by kernel_rfl
theorem bget {S : Nat → Prop} {h : Heap} {s : Sl} {bs : List Bool} (H : RdV S h 1 s (bs.map VB)) {i : Int} (h0 : 0 ≤ i) (h1 : i < (bs.length : Int)) : hcell h (s.at i 1) = some (VB (bs[i.toNat]'(by omega))) := by
  have := RdV.get H h0 (by simpa using h1)
  simpa using this
theorem blen {S : Nat → Prop} {h : Heap} {s : Sl} {bs : List Bool} (H : RdV S h 1 s (bs.map VB)) : s.n = bs.length := by have := RdV.len H; simp at this; exact this.symm
abbrev St := List Int × Int
def stepP (g : List (List Int)) (w : St) : Option St :=
  if (g.getD w.2.toNat []).length = 0 then none
  else some (w.1.set w.2.toNat ((((w.1.getD w.2.toNat 0).toNat + 1) % (g.getD w.2.toNat []).length : Nat) : Int), (g.getD w.2.toNat []).getD (((w.1.getD w.2.toNat 0).toNat + 1) % (g.getD w.2.toNat []).length) 0)
structure WOK (g : List (List Int)) (w : St) : Prop where
  graph : graphB g = true
  len : w.1.length = g.length
  lo : 0 ≤ w.2
  hi : w.2 < (g.length : Int)
  rot : ∀ i (h : i < w.1.length) (h' : i < g.length), 0 ≤ w.1[i] ∧ w.1[i] ≤ max ((g[i].length : Int) - 1) 0
theorem stepP_none {g : List (List Int)} {w : St} (W : WOK g w) (hp : w.2.toNat < g.length) : (g[w.2.toNat]).length = 0 → stepP g w = none := fun h => by
  unfold stepP
  rw [getD_get hp, if_pos h]
theorem getD_getI {xs : List Int} {i : Nat} (h : i < xs.length) : xs.getD i 0 = xs[i] := by simp [List.getD, List.getElem?_eq_getElem h]
theorem stepP_some {g : List (List Int)} {w : St} (W : WOK g w) (hp : w.2.toNat < g.length) (hr : w.2.toNat < w.1.length) (h : (g[w.2.toNat]).length ≠ 0) :
    stepP g w = some (w.1.set w.2.toNat ((((w.1[w.2.toNat]).toNat + 1) % (g[w.2.toNat]).length : Nat) : Int), (g[w.2.toNat])[((w.1[w.2.toNat]).toNat + 1) % (g[w.2.toNat]).length]'(Nat.mod_lt _ (by omega))) := by
  unfold stepP
  rw [getD_get hp, if_neg h, getD_getI hr, getD_getI (Nat.mod_lt _ (by omega))]
theorem WOK.step {g : List (List Int)} {w w' : St} (W : WOK g w) (h : stepP g w = some w') : WOK g w' := by
  have hp : w.2.toNat < g.length := by have := W.hi; have := W.lo; omega
  have hr : w.2.toNat < w.1.length := by rw [W.len]; exact hp
  by_cases h0 : (g[w.2.toNat]).length = 0
  · rw [stepP_none W hp h0] at h; cases h
  · rw [stepP_some W hp hr h0] at h
    have hm := Nat.mod_lt ((w.1[w.2.toNat]).toNat + 1) (show 0 < (g[w.2.toNat]).length by omega)
    simp only [Option.some.injEq] at h
    subst h
    have hmem := (graph_mem W.graph (List.getElem_mem hp)).2 _ (List.getElem_mem hm)
    refine ⟨W.graph, by simpa using W.len, hmem.1, hmem.2, fun i a b => ?_⟩
    simp only [List.length_set] at a
    simp only [List.getElem_set]
    split
    · rename_i e
      subst e
      omega
    · exact W.rot i a b
structure Rn where
  s : St
  ps : List Int
  vs : List Int
  us : List (List Int)
def bump (l : List Int) (i : Nat) : List Int := l.set i (l.getD i 0 + 1)
structure RnOK (g : List (List Int)) (m : Nat) (r : Rn) : Prop where
  w : WOK g r.s
  ps : r.ps.length = m + 1
  vs : r.vs.length = g.length
  us : r.us.length = g.length
  row : ∀ i (h : i < r.us.length) (h' : i < g.length), r.us[i].length = g[i].length
  vb : ∀ x, x ∈ r.vs → 0 ≤ x ∧ x ≤ m
  ub : ∀ l, l ∈ r.us → ∀ x, x ∈ l → 0 ≤ x ∧ x ≤ m
theorem bump_length (l : List Int) (i : Nat) : (bump l i).length = l.length := by simp [bump]
theorem bump_mem {l : List Int} {i m : Nat} (h : ∀ x, x ∈ l → 0 ≤ x ∧ x ≤ (m : Int)) : ∀ x, x ∈ bump l i → 0 ≤ x ∧ x ≤ ((m + 1 : Nat) : Int) := by
  intro x hx
  unfold bump at hx
  rcases List.mem_or_eq_of_mem_set hx with hx | rfl
  · have := h x hx; omega
  · by_cases hi : i < l.length
    · rw [getD_getI hi]
      have := h _ (List.getElem_mem hi)
      omega
    · rw [show l.getD i 0 = 0 by simp [List.getD, List.getElem?_eq_none (by omega : l.length ≤ i)]]
      omega
theorem RnOK.step {g : List (List Int)} {m : Nat} {r : Rn} (R : RnOK g m r) {s' : St} (hs : stepP g r.s = some s') : RnOK g (m + 1) ⟨s', r.ps ++ [s'.2], bump r.vs s'.2.toNat, r.us.set r.s.2.toNat (bump (r.us.getD r.s.2.toNat []) (s'.1.getD r.s.2.toNat 0).toNat)⟩ := by
  have hp : r.s.2.toNat < r.us.length := by rw [R.us]; have := R.w.hi; have := R.w.lo; omega
  refine ⟨R.w.step hs, by simp [R.ps], by simp [bump_length, R.vs], by simp [R.us], fun i a b => ?_, bump_mem R.vb, fun l hl => ?_⟩
  · simp only [List.length_set] at a
    simp only [List.getElem_set]
    split
    · rename_i e
      subst e
      rw [bump_length, getD_get hp]
      exact R.row _ a b
    · exact R.row i a b
  · rcases List.mem_or_eq_of_mem_set hl with hl | rfl
    · exact fun x hx => by have := R.ub l hl x hx; omega
    · rw [getD_get hp]
      exact bump_mem (R.ub _ (List.getElem_mem hp))
theorem eop_putI {L : List (Nat × List Value)} {F : Nat → Prop} {h : Heap} {o : Sl} {xs : List Int} {x : Int} (O : OwI h F o xs) (hF : ∀ k, h.size ≤ k → F k) (hL : Vars h L) (hoff : ∀ p, p ∈ L → ¬ F p.1) (hb : xs.length ≤ 1000000) (R : Sl → Heap → Prop) (HR : ∀ t h', OwI h' F t (xs ++ [x]) → Fr F h h' → Vars h' L → R t h') : eop Try.prog (Instr.buildSlice tIs 1 #[(0, VI x)]) h fun rv h1 => ∃ t : Sl, rv = t.v ∧ Vars h1 L ∧ eop Try.prog (appS tIs tIs tIs o.v t.v) h1 fun rv2 h2 => ∃ t2 : Sl, rv2 = t2.v ∧ Vars h2 L ∧ R t2 h2 := by
  refine eop_lit rIs (fun k => h.size ≤ k) (fun _ h => h) 1 (by omega) [VI x] rfl rfl fun t h1 n1 c1 o1 f1 m1 _ => ⟨t, rfl, hL.of_no f1, ?_⟩
  have z1 := f1.size
  have O1 : OwI h1 F o xs := Ow.no O f1
  have on := O1.rd.len
  have tn := o1.rd.len
  simp only [List.length_map, Nat.mul_one, List.length_cons, List.length_nil] at on tn
  refine eop_append rIs O1 (fun k hk => hF k (by omega)) o1.rd (plainVI [x]) (by omega) fun s' h2 n2 o2 f2 d2 => ?_
  have g2 : Fr F h1 h2 := f2.mono fun k _ hk => (O1.foot hk).1
  have V2 : Vars h2 L := (hL.of_no f1).fr g2 hoff
  exact ⟨s', rfl, V2, HR s' h2 (by rw [OwI, List.map_append]; exact o2) (f1.of_no.trans g2) V2⟩
theorem k_l1Has {S : Nat → Prop} {h : Heap} {s : Sl} {xs : List Int} (H : RdI S h s xs) (v : Int) (K : Value → Heap → Prop) (HK : K (VB (decide (v ∈ xs))) h) : callM Try.prog 74 #[s.v, VI v] h K := by
  refine v74 s v h K ⟨fun n i h' => h' = h ∧ 0 ≤ i ∧ i + n = (xs.length : Int) ∧ decide (v ∈ xs) = decide (v ∈ xs.drop i.toNat), ⟨xs.length, rfl, by omega, by omega, by simp⟩, ?_⟩
  rintro n i _ ⟨rfl, i0, i1, i2⟩ hL
  refine ⟨fun e => ?_, fun e => ?_⟩
  · have hi := H.lt e
    rw [drop_cons xs i0 hi] at i2
    refine ⟨H.inb i0 hi, _, H.get i0 hi, fun e => ?_, fun e => ?_⟩
    · simp only [decide_eq_true_eq] at e
      rw [i2, decide_eq_true (by rw [e]; exact List.mem_cons_self)] at HK
      exact HK
    · simp only [decide_eq_false_iff_not] at e
      rw [H.succ i0 hi]
      refine ⟨n - 1, by omega, rfl, by omega, by omega, ?_⟩
      rw [i2, decide_eq_decide, List.mem_cons]
      exact ⟨fun h => h.resolve_left fun h => e h.symm, .inr⟩
  · have hi := H.ge e
    rw [List.drop_of_length_le (by omega)] at i2
    rw [i2] at HK
    simpa using HK
theorem k_IndexI {S : Nat → Prop} {h : Heap} {s : Sl} {xs : List Int} (H : RdI S h s xs) (v : Int) (K : Value → Heap → Prop) (HN : v ∉ xs → K (VI (-1)) h) (HS : ∀ i : Nat, i < xs.length → xs.getD i 0 = v → (∀ j, j < i → xs.getD j 0 ≠ v) → K (VI i) h) : callM Try.prog 114 #[s.v, VI v] h K := by
  refine v114 s v h K ⟨fun n i h' => h' = h ∧ 0 ≤ i ∧ i + n = (xs.length : Int) ∧ ∀ j : Nat, (j : Int) < i → xs.getD j 0 ≠ v, ⟨xs.length, rfl, by omega, by omega, fun j hj => by omega⟩, ?_⟩
  rintro n i _ ⟨rfl, i0, i1, i2⟩ hL
  refine ⟨fun e => ?_, fun e => ?_⟩
  · have hi := H.lt e
    refine ⟨H.inb i0 hi, _, H.get i0 hi, fun e => ?_, fun e => ?_⟩
    · simp only [decide_eq_true_eq] at e
      have := HS i.toNat (by omega) (by rw [getD_getI (by omega)]; exact e.symm) fun j hj => i2 j (by omega)
      rwa [show ((i.toNat : Nat) : Int) = i by omega] at this
    · simp only [decide_eq_false_iff_not] at e
      rw [H.succ i0 hi]
      refine ⟨n - 1, by omega, rfl, by omega, by omega, fun j hj => ?_⟩
      by_cases hj2 : (j : Int) < i
      · exact i2 j hj2
      · have : j = i.toNat := by omega
        subst this
        rw [getD_getI (by omega)]
        exact fun h => e h.symm
  · have hi := H.ge e
    refine HN fun hm => ?_
    obtain ⟨j, hj, e2⟩ := List.getElem_of_mem hm
    exact i2 j (by omega) (by rw [getD_getI hj]; exact e2)
theorem k_ContainsI {S : Nat → Prop} {h : Heap} {s : Sl} {xs : List Int} (H : RdI S h s xs) (v : Int) (K : Value → Heap → Prop) (HK : K (VB (decide (v ∈ xs))) h) : callM Try.prog 72 #[s.v, VI v] h K := by
  refine v72 s v h K (k_IndexI H v _ (fun hn => ⟨_, rfl, .nil, ?_⟩) fun i hi e _ => ⟨_, rfl, .nil, ?_⟩)
  · rw [decide_eq_false hn] at HK
    exact HK
  · rw [decide_eq_true (by rw [← e, getD_getI hi]; exact List.getElem_mem _)] at HK
    rw [decide_eq_true (by omega)]
    exact HK
section
variable {g : List (List Int)} {rs : List Int} {a : Int}
end
def itf (f : Int → Int) (p : Int) : Nat → Int
  | 0 => p
  | k + 1 => f (itf f p k)
def orb (f : Int → Int) (p : Int) (m : Nat) : List Int := (List.range m).map (itf f p)
def ret (f : Int → Int) (p : Int) : Nat → Nat → Option Nat
  | 0, _ => none
  | r + 1, m => if itf f p m = p then some m else ret f p r (m + 1)
def lstI (xs : List Int) : Nat → Nat
  | 0 => 0
  | i + 1 => if xs.getD i 0 < xs.getD (lstI xs i) 0 then i else lstI xs i
def turnL (xs : List Int) : List Int := xs.drop (lstI xs xs.length) ++ xs.take (lstI xs xs.length)
def cyP (f : Int → Int) (n : Nat) (p : Int) : List Int := match ret f p (n + 1) 1 with
  | some k => turnL (orb f p k)
  | none => []
def sx (g S : List (List Int)) (p : Int) : Int := if p < 0 then -1 else if (S.getD p.toNat []).length = 0 then -1 else (g.getD p.toNat []).getD ((S.getD p.toNat []).getD 0 0).toNat 0
structure SOK (g S : List (List Int)) : Prop where
  graph : graphB g = true
  len : S.length = g.length
  short : ∀ i (h : i < S.length), S[i].length ≤ 12
  ent : ∀ i (h : i < S.length) (h' : i < g.length), ∀ x, x ∈ S[i] → 0 ≤ x ∧ x < (g[i].length : Int)
def stackB (g : List (List Int)) (sink : Int) (S : List (List Int)) : Bool := (graphB g && inR 0 ((g.length : Int) - 1) sink) && (decide (S.length = g.length) && (decide ((S.getD sink.toNat []).length = 0) && (g.zip S).all fun q => !decide (12 < (q.2.length : Int)) && q.2.all (inR 0 ((q.1.length : Int) - 1))))
section
variable {g S : List (List Int)}
theorem sx_none {p : Int} (hne : (S.getD p.toNat []).length = 0) : sx g S p = -1 := by
  unfold sx
  split
  · rfl
  · rfl
theorem sx_neg {p : Int} (h : p < 0) : sx g S p = -1 := by unfold sx; rw [if_pos h]
theorem its_neg {p : Int} {k : Nat} (h : itf (sx g S) p k < 0) : ∀ m, itf (sx g S) p (k + m) < 0
  | 0 => h
  | m + 1 => by
    rw [← Nat.add_assoc, itf, sx_neg (its_neg h m)]
    omega
end
def popP (S : List (List Int)) (c : List Int) : List (List Int) := (List.range S.length).map fun (i : Nat) => if (i : Int) ∈ c then (S.getD i []).drop 1 else S.getD i []
theorem popP_length (S : List (List Int)) (c : List Int) : (popP S c).length = S.length := by simp [popP]
theorem popP_get (S : List (List Int)) (c : List Int) (i : Nat) (h : i < (popP S c).length) (h' : i < S.length) : (popP S c)[i] = if (i : Int) ∈ c then (S[i]).drop 1 else S[i] := by
  simp only [popP, List.getElem_map, List.getElem_range]
  rw [getD_get h']
theorem SOK.pop {g S : List (List Int)} (W : SOK g S) (c : List Int) : SOK g (popP S c) := by
  refine ⟨W.graph, by rw [popP_length]; exact W.len, fun i h => ?_, fun i h h' x hx => ?_⟩
  · have h2 : i < S.length := by rw [popP_length] at h; exact h
    have := W.short i h2
    rw [popP_get S c i h h2]
    split
    · simp; omega
    · exact this
  · have h2 : i < S.length := by rw [popP_length] at h; exact h
    rw [popP_get S c i h h2] at hx
    split at hx
    · exact W.ent i h2 h' x (List.mem_of_mem_drop hx)
    · exact W.ent i h2 h' x hx
def cycL (g S : List (List Int)) : Nat → List (List Int)
  | 0 => []
  | p + 1 => cycL g S p ++ (if cyP (sx g S) g.length p ≠ [] ∧ (cyP (sx g S) g.length p).getD 0 0 = (p : Int) then [cyP (sx g S) g.length p] else [])
def cycsP (g S : List (List Int)) : List (List Int) := cycL g S g.length
def topL (sink : Int) (S : List (List Int)) : Nat → Option (List Int)
  | 0 => some []
  | i + 1 => match topL sink S i with
    | none => none
    | some l => if (i : Int) = sink then some (l ++ [0]) else if (S.getD i []).length = 0 then none else some (l ++ [(S.getD i []).getD 0 0])
def topsP (sink : Int) (S : List (List Int)) : List Int × Bool := match topL sink S S.length with
  | none => ([], false)
  | some l => (l, true)
def endP (g : List (List Int)) (sink : Int) (cs : List Int) : Nat → Nat → List (List Int) → List (List Int) × Int × Bool
  | 0, _, _ => ([], 0, false)
  | f + 1, n, S =>
    if (cycsP g S).length = 0 then (if (topsP sink S).2 then (S, (n : Int), true) else ([], 0, false))
    else endP g sink cs f (n + 1) (popP S ((cycsP g S).getD (if n < cs.length then (cs.getD n 0).tmod (cycsP g S).length else 0).toNat []))
def poppedP (g : List (List Int)) (sink : Int) (S : List (List Int)) (cs : List Int) : List (List Int) × Int × Bool :=
  if stackB g sink S && (decide (cs.length ≤ 100) && !cs.any fun c => decide (c < 0)) then endP g sink cs 201 0 S else ([], 0, false)
def countP (g : List (List Int)) (sink : Int) (S : List (List Int)) : Int × Bool := ((poppedP g sink S []).2.1, (poppedP g sink S []).2.2)
theorem pop_and {P : Program} {t : TypeId} {K : Value → Prop} (k : IntKind) (a b : Int) (H : K (.int k (bits .and k a b))) : pop P (binA .and t (.int k a) (.int k b)) K :=
  .mk' (fun w => by simp [binA, eqGuard, binOp, intBits_and, bind, Sem.bind, pure, Sem.run]) H
theorem pop_shr {P : Program} {t : TypeId} {K : Value → Prop} (k : IntKind) (a b : Int) (hb : 0 ≤ b) (H : K (.int k (a.fdiv (2 ^ (min b.toNat k.bits))))) : pop P (binA .shr t (.int k a) (.int k b)) K :=
  .mk' (fun w => by simp [binA, eqGuard, binOp, Op.shift, show ¬ b < 0 by omega, bind, Sem.bind, pure, Sem.run]) H
theorem rop_conv {P : Program} {src dst : TypeId} {k k' : IntKind} (hs : P.underlying src = some (.int k)) (hd : P.underlying dst = some (.int k')) {h : Heap} {K : Value → Prop} (n : Int) (H : K (.int k' (k'.wrap n))) : rop P (convert src dst (.int k n)) h K := by
  have hk : P.intKind dst = k' := by simp [Program.intKind, hd]
  refine ⟨_, fun w hw => run_convert_int w src dst k n (by simp [hs]) (by rw [hk]; exact hd), ?_⟩
  rw [hk]
  exact H
theorem cut_zero {s : Sl} (h : s.n ≤ s.c) : s.cut 1 0 s.n s.c = s := by
  obtain ⟨a, n, c⟩ := s
  unfold Sl.cut
  cases a with
  | none => simp
  | some a => simp [at_add0]
theorem eop_copy {P : Program} {t t2 e ty : TypeId} {bs : Nat} {z : List Value} (T : rowC P t = some (e, 1, bs, z)) {h : Heap} {F S : Nat → Prop} {s x : Sl} {vs us : List Value} (H : Ow h F e 1 s vs) (X : RdV S h 1 x us) (hp : us.all plainV = true) (l m : Nat) (hl : l ≤ s.n) (hm : m = min x.n (s.n - l))
    {K : Value → Heap → Prop} (HK : ∀ h', Ow h' F e 1 s (vs.take l ++ us.take m ++ vs.drop (l + m)) → Fr s.own h h' → K (VI m) h') : eop P (Builtin.copy_ #[t, t2] ty #[(s.cut 1 l s.n s.c).v, x.v]) h K := by
  obtain ⟨hu, i, zv, hi, hsz, rfl, hz, hzc, hzl, _, hbs, hb64, hsz8⟩ := rowC_spec T
  refine ⟨fun w hw => ?_⟩
  subst hw
  have hs1 : (P.info? e).map (·.size) = some 1 := by rw [hi]; simp [hsz]
  have hvl := H.len
  have hul := X.len
  by_cases h0 : m = 0
  · subst h0
    have hr := run_copy_none (P := P) w t t2 ty e (s.cut 1 l s.n s.c).a x.a (s.cut 1 l s.n s.c).n (s.cut 1 l s.n s.c).c x.n x.c hu hs1 (by simp only [Sl.cut]; exact hm.symm)
    refine ⟨_, w, hr, Same.refl w, HK w.heap ?_ (Fr.refl _ _)⟩
    simpa using H
  · rcases H.out with ⟨rfl, rfl⟩ | ⟨g, o, cur, ha, hF, hg, h1, h2, h3, h4⟩
    · simp [nilSl] at hm; omega
    · obtain ⟨a, hxa, _, _⟩ := X.cell 0 (by omega)
      have hcl : s.c ≠ l := by omega
      have hda : (s.cut 1 l s.n s.c).a = some ⟨g, o + l, none⟩ := by simp [Sl.cut, hcl, ha, add_mk]
      have hr := run_copy_row (P := P) w t t2 ty e g (o + l) (s.n - l) (s.c - l) a x.n x.c cur e (us.take m) hu hs1 hg (by rw [List.length_take, hm]; simp only [Nat.min_def]; split <;> split <;> omega) (fun j v hj => by
        obtain ⟨hjl, rfl⟩ := List.getElem?_eq_some_iff.1 hj
        have hjl2 : j < us.length := by simp at hjl; omega
        obtain ⟨a', ha', _, hc⟩ := X.cell j hjl2
        rw [hxa] at ha'
        obtain rfl : a = a' := by simpa using ha'
        simp only [List.getElem_take]
        exact hc) (by simp; omega) (fun u hu => by
        have := List.all_eq_true.1 hp u (List.mem_of_mem_take hu)
        cases u <;> simp [plainV] at this <;> rfl)
      have hml : (us.take m).length = m := by simp; omega
      rw [hml] at hr
      have hv : (s.cut 1 l s.n s.c).v = .slice (some ⟨g, o + l, none⟩) (s.n - l) (s.c - l) := by simp only [Sl.v, hda]; rfl
      have hxv : x.v = .slice (some a) x.n x.c := by simp only [Sl.v, hxa]
      rw [← hv, ← hxv] at hr
      refine ⟨_, _, hr, ⟨rfl, rfl, rfl⟩, HK _ ⟨?_, .inr ⟨g, o, _, ha, hF, setRow_heap w g cur _ e _ hg, h1, h2, ?_, ?_⟩⟩ ⟨by simp [World.setRow], fun k _ hk => setRow_other w g k _ (fun e => hk (by simp [Sl.own, ha, e]))⟩⟩
      · simp; omega
      · simp; omega
      · have hol : (cur.toList.take (o + l)).length = o + l := by simp; omega
        simp only [Nat.mul_one] at h4 hvl ⊢
        have e1 : (cur.toList.take (o + l) ++ us.take m ++ cur.toList.drop (o + l + m)).drop o = vs.take l ++ us.take m ++ cur.toList.drop (o + l + m) := by
          rw [List.append_assoc, List.drop_append_of_le_length (by omega), List.drop_take, show o + l - o = l by omega, ← h4, List.take_take, Nat.min_eq_left hl, List.append_assoc]
        (try simp only [List.toList_toArray])
        rw [e1, List.take_append, List.take_of_length_le (by simp; omega)]
        congr 1
        have e2 : (vs.take l ++ us.take m).length = l + m := by simp; omega
        rw [e2, ← h4, List.drop_take, List.drop_drop, Nat.add_assoc]
theorem eop_copy0 {P : Program} {t t2 e ty : TypeId} {bs : Nat} {z : List Value} (T : rowC P t = some (e, 1, bs, z)) {h : Heap} {F S : Nat → Prop} {s x : Sl} {vs us : List Value} (H : Ow h F e 1 s vs) (X : RdV S h 1 x us) (hp : us.all plainV = true) (m : Nat) (hm : m = min x.n s.n)
    {K : Value → Heap → Prop} (HK : ∀ h', Ow h' F e 1 s (us.take m ++ vs.drop m) → Fr s.own h h' → K (VI m) h') : eop P (Builtin.copy_ #[t, t2] ty #[s.v, x.v]) h K := by
  have := eop_copy (t2 := t2) (ty := ty) T H X hp 0 m (by omega) (by simpa using hm) (K := K) fun h' o f => HK h' (by simpa using o) f
  rw [cut_zero H.cap.1] at this
  exact this
theorem mul_small (a n : Int) (ha : a = 1) (h0 : 0 ≤ n) (h1 : n ≤ 8) : bits .and .u64 a 4294967295 = 1 ∧ bits .and .u64 n 4294967295 = n ∧ bits .and .u64 0 4294967295 = 0 := by
  subst ha
  refine ⟨by decide, ?_, by decide⟩
  have : n = 0 ∨ n = 1 ∨ n = 2 ∨ n = 3 ∨ n = 4 ∨ n = 5 ∨ n = 6 ∨ n = 7 ∨ n = 8 := by omega
  rcases this with rfl | rfl | rfl | rfl | rfl | rfl | rfl | rfl | rfl <;> decide
theorem u64_small {n : Int} (h0 : 0 ≤ n) (h1 : n < 18446744073709551616) : IntKind.u64.wrap n = n := by
  simp only [IntKind.wrap, IntKind.bits, IntKind.signed]
  simp
  omega
theorem fdiv_small {n : Int} (h0 : 0 ≤ n) (h1 : n < 4294967296) : n.fdiv (2 ^ (min (32 : Int).toNat IntKind.u64.bits)) = 0 := by
  have e : (2 : Int) ^ (min (32 : Int).toNat IntKind.u64.bits) = 4294967296 := by decide
  rw [e, Int.fdiv_eq_ediv_of_nonneg _ (by omega)]
  omega
theorem k_Mul64 (n : Int) (h0 : 0 ≤ n) (h1 : n ≤ 8) (h : Heap) (K : Value → Heap → Prop) (HK : K (.tuple #[.int .u64 0, .int .u64 n]) h) : callM Try.prog 142 #[.int .u64 1, .int .u64 n] h K := by
  obtain ⟨m1, m2, m3⟩ := mul_small 1 n rfl h0 h1
  refine v142 1 n h K (pop_and _ _ _ ⟨1, by rw [m1], pop_shr _ _ _ (by omega) ⟨0, by rw [fdiv_small (by omega) (by omega)], pop_and _ _ _ ⟨n, by rw [m2], pop_shr _ _ _ (by omega) ⟨0, by rw [fdiv_small (by omega) (by omega)], ?_⟩⟩⟩⟩)
  have u0 : IntKind.u64.wrap 0 = 0 := u64_small (by omega) (by omega)
  have un : IntKind.u64.wrap n = n := u64_small h0 (by omega)
  simp only [Int.one_mul, Int.zero_mul, Int.mul_zero, Int.zero_add, Int.add_zero, u0, un]
  refine pop_shr _ _ _ (by omega) ⟨0, by rw [fdiv_small (by omega) (by omega)], ?_⟩
  simp only [Int.one_mul, Int.zero_mul, Int.mul_zero, Int.zero_add, Int.add_zero, u0, un]
  refine pop_and _ _ _ ⟨0, by rw [m3], pop_shr _ _ _ (by omega) ⟨0, by rw [fdiv_small (by omega) (by omega)], ?_⟩⟩
  simp only [Int.one_mul, Int.zero_mul, Int.mul_zero, Int.zero_add, Int.add_zero, u0, un]
  refine pop_shr _ _ _ (by omega) ⟨0, by rw [fdiv_small (by omega) (by omega)], ?_⟩
  simp only [Int.one_mul, Int.zero_mul, Int.mul_zero, Int.zero_add, Int.add_zero, u0, un]
  exact HK
theorem k_Mul (n : Int) (h0 : 0 ≤ n) (h1 : n ≤ 8) (h : Heap) (K : Value → Heap → Prop) (HK : K (.tuple #[.int .u64 0, .int .u64 n]) h) : callM Try.prog 132 #[.int .u64 1, .int .u64 n] h K :=
  v132 1 n h K (k_Mul64 n h0 h1 h _ ⟨_, _, rfl, .nil, HK⟩)
theorem k_Repeat {S : Nat → Prop} {h : Heap} {x : Sl} (v : Int) (X : RdI S h x [v]) (n : Nat) (h1 : 1 ≤ n) (h8 : n ≤ 8) (K : Value → Heap → Prop) (HK : ∀ t h', OwI h' (Iv h.size h'.size) t (List.replicate n v) → Fr No h h' → K t.v h') : callM Try.prog 112 #[x.v, VI n] h K := by
  have hx1 : x.n = 1 := by have := X.len; simpa using this
  refine v112 x n h K ⟨fun h' => h' = h, ⟨fun e => by simp only [decide_eq_true_eq] at e; omega, fun _ => rfl⟩, ?_⟩
  rintro _ rfl _
  refine rop_conv (k := .i64) (k' := .u64) (show Try.prog.underlying 3 = some (.int .i64) from by kernel_rfl) (show Try.prog.underlying 133 = some (.int .u64) from by kernel_rfl) _ ⟨1, by rw [hx1]; rfl, rop_conv (k := .i64) (k' := .u64) (show Try.prog.underlying 3 = some (.int .i64) from by kernel_rfl) (show Try.prog.underlying 133 = some (.int .u64) from by kernel_rfl) _ ⟨n, by rw [u64_small (by omega) (by omega)], ?_⟩⟩
  refine k_Mul n (by omega) (by omega) _ _ ⟨_, _, rfl, .nil, ⟨fun h' => h' = _, ⟨fun e => by simp at e, fun _ => ⟨fun e => by simp only [decide_eq_true_eq] at e; omega, fun _ => rfl⟩⟩, ?_⟩⟩
  rintro _ rfl _
  refine rop_conv (k := .u64) (k' := .i64) (show Try.prog.underlying 133 = some (.int .u64) from by kernel_rfl) (show Try.prog.underlying 3 = some (.int .i64) from by kernel_rfl) _ ⟨n, by rw [show IntKind.i64.wrap (n : Int) = n from w64_eq n (by omega) (by omega)], ?_⟩
  refine eop_make rIs (fun k => _ ≤ k) (fun _ h => h) .i64 .i64 n n (Nat.le_refl _) (by omega) fun t h1' n1 c1 o1 f1 m1 _ => ⟨t, rfl, .nil, ?_⟩
  have e1 : (List.replicate n [VI 0]).flatten = (List.replicate n (0 : Int)).map VI := by simp [List.flatten_replicate_singleton]
  rw [e1] at o1
  have r1 := RdI.no X f1
  have z1 := f1.size
  refine eop_copy0 (P := Try.prog) rIs o1 r1 (plainVI _) 1 (by omega) fun h2 o2 f2 => ⟨1, rfl, .nil, ?_⟩
  have e2 : ([v].map VI).take 1 ++ ((List.replicate n (0 : Int)).map VI).drop 1 = (List.replicate 1 v ++ List.replicate (n - 1) 0).map VI := by simp
  rw [e2] at o2
  refine ⟨fun q m h' => ∃ m' : Nat, m = m' ∧ 1 ≤ m' ∧ m' ≤ n ∧ q = n - m' ∧ OwI h' (fun k => _ ≤ k) t (List.replicate m' v ++ List.replicate (n - m') 0) ∧ Fr t.own h1' h', ⟨n - 1, 1, rfl, Nat.le_refl _, h1, rfl, o2, f2⟩, ?_⟩
  rintro q m h3 ⟨m, rfl, q1, q2, rfl, o3, f3⟩ hL
  refine ⟨fun e => ?_, fun e => ?_⟩
  · simp only [decide_eq_true_eq] at e
    have htn : t.n = n := n1
    refine pop_cut_l rIs .i64 (by omega) (by omega) ⟨_, rfl, pop_cut_h rIs .i64 (by omega) (by omega) ⟨_, rfl, ?_⟩⟩
    simp only [Int.toNat_natCast]
    have r3 : RdI t.own h3 t _ := o3.rd
    have rb := RdI.cut r3 (l := 0) (m := m) (by omega) (by simp; try omega)
    rw [List.drop_zero, Nat.sub_zero, List.take_left' (by simp)] at rb
    refine eop_copy (P := Try.prog) rIs o3 rb (plainVI _) m (min m (n - m)) (by omega) (by simp [Sl.cut, htn]) fun h4 o4 f4 => ⟨_, rfl, .nil, ?_⟩
    have e4 : ((List.replicate m v ++ List.replicate (n - m) 0).map VI).take m ++ ((List.replicate m v).map VI).take (min m (n - m)) ++ ((List.replicate m v ++ List.replicate (n - m) 0).map VI).drop (m + min m (n - m)) = (List.replicate (m + min m (n - m)) v ++ List.replicate (n - (m + min m (n - m))) 0).map VI := by
      rw [← List.map_take, ← List.map_take, ← List.map_drop, ← List.map_append, ← List.map_append]
      congr 1
      rw [List.take_left' (by simp), List.take_replicate, List.drop_append, List.drop_of_length_le (by simp), List.nil_append, List.length_replicate, List.drop_replicate, List.replicate_append_replicate]
      congr 2
      · omega
      · omega
    rw [e4] at o4
    rw [w64_eq _ (by omega) (by omega)]
    exact ⟨n - (m + min m (n - m)), by omega, m + min m (n - m), by omega, by omega, by omega, rfl, o4, f3.trans f4⟩
  · simp only [decide_eq_false_iff_not] at e
    have htn : t.n = n := n1
    obtain rfl : m = n := by omega
    rw [Nat.sub_self, List.replicate_zero, List.append_nil] at o3
    exact HK t h3 (Ow.toIv o3) (f1.fresh f3 m1)
def bfsIn (x : Int) : List Int → List Int × List Int → List Int × List Int
  | [], s => s
  | q :: qs, s => bfsIn x qs (if s.1.getD q.toNat 0 < 0 then (s.1.set q.toNat (s.1.getD x.toNat 0 + 1), s.2 ++ [q]) else s)
def bfsP (g : List (List Int)) : Nat → List Int → List Int → List Int
  | 0, far, _ => far
  | _ + 1, far, [] => far
  | f + 1, far, x :: rest => bfsP g f (bfsIn x (g.getD x.toNat []) (far, [])).1 (rest ++ (bfsIn x (g.getD x.toNat []) (far, [])).2)
def farP (g : List (List Int)) (p : Int) : List Int := bfsP g g.length ((List.replicate g.length (-1)).set p.toNat 0) [p]
def negs (l : List Int) : Nat := (l.filter fun x => decide (x < 0)).length
theorem negs_set {l : List Int} {i : Nat} {v : Int} (h : i < l.length) (h1 : l[i] < 0) (h2 : 0 ≤ v) : negs (l.set i v) + 1 = negs l := by
  induction l generalizing i with
  | nil => simp at h
  | cons x xs ih =>
    cases i with
    | zero =>
      simp only [List.getElem_cons_zero] at h1
      simp only [negs, List.set_cons_zero, List.filter_cons, show ¬ v < 0 by omega, h1, decide_true, decide_false, if_true, Bool.false_eq_true, if_false, List.length_cons]
    | succ i =>
      have := ih (by simpa using h) (by simpa using h1)
      simp only [negs, List.set_cons_succ, List.filter_cons] at this ⊢
      split <;> (try simp only [List.length_cons]) <;> simp_all <;> omega
structure BOK (n : Nat) (far : List Int) : Prop where
  len : far.length = n
  lo : ∀ v, v ∈ far → -1 ≤ v
  hi : ∀ v, v ∈ far → v + negs far ≤ n
theorem BOK.step {n : Nat} {far : List Int} (B : BOK n far) {x q : Int} (hx : x.toNat < n) (hq : q.toNat < n) (hn : far.getD q.toNat 0 < 0) : BOK n (far.set q.toNat (far.getD x.toNat 0 + 1)) ∧ negs (far.set q.toNat (far.getD x.toNat 0 + 1)) + 1 = negs far := by
  have hl := B.len
  rw [getD_getI (by omega)] at hn
  rw [getD_getI (show x.toNat < far.length by omega)]
  have h1 := B.lo _ (List.getElem_mem (show x.toNat < far.length by omega))
  have h2 := B.hi _ (List.getElem_mem (show x.toNat < far.length by omega))
  have h3 := negs_set (show q.toNat < far.length by omega) hn (v := far[x.toNat]'(by omega) + 1) (by omega)
  refine ⟨⟨by simp [hl], fun v hv => ?_, fun v hv => ?_⟩, h3⟩
  · rcases List.mem_or_eq_of_mem_set hv with hv | rfl
    · exact B.lo v hv
    · omega
  · rcases List.mem_or_eq_of_mem_set hv with hv | rfl
    · have := B.hi v hv; omega
    · omega
theorem bok0 {n p : Nat} (hp : p < n) : BOK n ((List.replicate n (-1)).set p 0) ∧ negs ((List.replicate n (-1)).set p 0) + 1 = n := by
  have h1 : negs (List.replicate n (-1)) = n := by
    unfold negs
    rw [List.filter_replicate_of_pos (by decide)]
    simp
  have h2 := negs_set (l := List.replicate n (-1)) (i := p) (v := 0) (by simpa using hp) (by simp) (by omega)
  refine ⟨⟨by simp, fun v hv => ?_, fun v hv => ?_⟩, by omega⟩
  · rcases List.mem_or_eq_of_mem_set hv with hv | rfl
    · simp only [List.mem_replicate] at hv; omega
    · omega
  · rcases List.mem_or_eq_of_mem_set hv with hv | rfl
    · simp only [List.mem_replicate] at hv; omega
    · omega
theorem gq_mem {g : List (List Int)} (hg : graphB g = true) {x : Nat} (hx : x < g.length) {i : Nat} (hi : i < (g[x]).length) : 0 ≤ (g[x])[i] ∧ (g[x])[i] < (g.length : Int) := (graph_mem hg (List.getElem_mem hx)).2 _ (List.getElem_mem hi)
theorem k_grFar {S : Nat → Prop} {h : Heap} {g : Sl} {xss : List (List Int)} (G : RdR S h g xss) (hg : graphB xss = true) {p : Int} (h0 : 0 ≤ p) (h1 : p < (xss.length : Int)) (K : Value → Heap → Prop) (HK : ∀ t h', OwI h' (Iv h.size h'.size) t (farP xss p) → (farP xss p).length = xss.length → Fr No h h' → K t.v h') : callM Try.prog 68 #[.agg #[g.v], VI p] h K := by
  refine v68 g p h K fun b1 h2 hb1 f2 hL2 => ?_
  generalize hR : farP xss p = R at HK
  have f2 := f2.in_nil
  have l1 : b1 < h2.size := hL2.head.lt
  have z2 := f2.size
  have hgl := graph_len hg
  refine eop_make rIs (fun k => h2.size ≤ k) (fun _ h => h) .i64 .i64 g.n g.n (Nat.le_refl _) (by rw [G.len]; omega) fun t h3 n3 c3 o3 f3 m3 _ => ⟨t, rfl, hL2.of_no f3, ?_⟩
  have o3 : OwI h3 (Iv h2.size h3.size) t (List.replicate xss.length 0) := by
    have e : (List.replicate g.n [VI 0]).flatten = (List.replicate xss.length (0 : Int)).map VI := by rw [G.len]; simp [List.flatten_replicate_singleton]
    rw [e] at o3; exact Ow.toIv o3
  have z3 := f3.size
  have f03 := f2.no_trans f3
  have htn : t.n = xss.length := by rw [n3, G.len]
  have hL3 := hL2.of_no f3
  refine ⟨fun n i h' => 0 ≤ i ∧ i + n = (xss.length : Int) ∧ OwI h' (Iv h2.size h3.size) t (List.replicate i.toNat (-1) ++ List.replicate n 0) ∧ Fr (Iv h2.size h3.size) h3 h', ⟨xss.length, by omega, by omega, by simpa using o3, Fr.refl _ _⟩, ?_⟩
  rintro n i h4 ⟨i0, i1, o4, f4⟩ hL4
  refine ⟨fun e => ?_, fun e => ?_⟩
  · simp only [decide_eq_true_eq] at e
    obtain ⟨w1, w2, w3⟩ := o4.store1 i0 (by omega) (VI (-1))
    have w3' : Fr (Iv h2.size h3.size) h4 _ := w3.mono fun _ _ hk => (o4.foot hk).1
    have hL5 := hL4.iv w3' ⟨.inl l1, trivial⟩
    refine ⟨o4.inb i0 (by omega), w1, hL5, fun h5 e5 _ => ?_⟩
    subst e5
    rw [w64_eq _ (by omega) (by omega)]
    refine ⟨n - 1, by omega, by omega, by omega, ?_, f4.trans w3'⟩
    rw [← List.map_set] at w2
    have e6 : (List.replicate i.toNat (-1 : Int) ++ List.replicate n 0).set i.toNat (-1) = List.replicate (i + 1).toNat (-1) ++ List.replicate (n - 1) 0 := by
      rw [List.set_append_right _ _ (by simp), List.length_replicate, Nat.sub_self, toNat_succ i0, List.replicate_succ', List.append_assoc]
      obtain ⟨m, rfl⟩ : ∃ m, n = m + 1 := ⟨n - 1, by omega⟩
      simp [List.replicate_succ]
    rw [e6] at w2
    exact w2
  simp only [decide_eq_false_iff_not] at e
  obtain rfl : n = 0 := by omega
  have ei : i.toNat = xss.length := by omega
  rw [ei, List.replicate_zero, List.append_nil] at o4
  obtain ⟨w1, w2, w3⟩ := o4.store1 h0 (by omega) (VI 0)
  have w3' : Fr (Iv h2.size h3.size) h4 _ := w3.mono fun _ _ hk => (o4.foot hk).1
  have hL5 := hL4.iv w3' ⟨.inl l1, trivial⟩
  refine ⟨o4.inb h0 (by omega), w1, hL5, fun h5 e5 _ => ?_⟩
  subst e5
  rw [← List.map_set] at w2
  have f05 : Fr No h _ := (f03.ivFresh f4 (by omega)).ivFresh w3' (by omega)
  have z4 := f4.size
  have z5 := w3'.size
  refine eop_lit rIs (fun k => _ ≤ k) (fun _ h => h) 1 (by omega) [VI p] rfl rfl fun u h6 n6 c6 o6 f6 m6 _ => ⟨u, rfl, hL5.of_no f6, ?_⟩
  have z6 := f6.size
  have f06 := f05.no_trans f6
  have w6 := Ow.no w2 f6
  obtain ⟨B0, N0⟩ := bok0 (n := xss.length) (p := p.toNat) (by omega)
  refine ⟨fun n x k h' => ∃ (far dn pend : List Int), 0 ≤ k ∧ k = dn.length ∧ n = pend.length + negs far ∧ dn.length + n = xss.length ∧ BOK xss.length far ∧ (∀ y, y ∈ pend → 0 ≤ y ∧ y < (xss.length : Int)) ∧ OwI h' (Iv h2.size h3.size) t far ∧ OwI h' (fun k => h3.size ≤ k) x (dn ++ pend) ∧ Fr No h h' ∧ h3.size ≤ h'.size ∧ R = bfsP xss n far pend,
    ⟨xss.length, (List.replicate xss.length (-1)).set p.toNat 0, [], [p], by omega, rfl, by simp only [List.length_cons, List.length_nil]; omega, by simp, B0, fun y hy => by simp at hy; omega, w6, by show Ow _ _ _ _ _ _; simpa using o6.mono (F' := fun k => h3.size ≤ k) fun k _ hk => by omega, f06, by omega, hR.symm⟩, ?_⟩
  rintro n x k h7 ⟨far, dn, pend, k0, rfl, rfl, hdn, B, hp, o7, q7, f7, z7, eq⟩ hL7
  have rq : RdI (fun k => h3.size ≤ k) h7 x (dn ++ pend) := q7.rdF
  refine ⟨fun e => ?_, fun e => ?_⟩
  · have hk := rq.lt e
    rw [List.length_append] at hk
    obtain ⟨y, rest, rfl⟩ : ∃ y rest, pend = y :: rest := by
      cases pend with
      | nil => simp at hk
      | cons y rest => exact ⟨y, rest, rfl⟩
    have hy := hp y List.mem_cons_self
    have hyl : y.toNat < xss.length := by omega
    have hdl : (dn.length : Int) < ((dn ++ y :: rest).length : Int) := by simp only [List.length_append, List.length_cons]; omega
    have eg : ∀ hh, (dn ++ y :: rest)[(dn.length : Int).toNat]'hh = y := by intro hh; simp
    have c0 := rq.get k0 hdl
    rw [eg] at c0
    obtain ⟨gi, c1, r1⟩ := G.get hy.1 hy.2
    have hfuel : (y :: rest).length + negs far = (rest.length + negs far) + 1 := by simp only [List.length_cons]; omega
    rw [hfuel, bfsP, getD_get hyl] at eq
    refine ⟨rq.inb k0 hdl, _, c0, (G.no f7).inb hy.1 hy.2, gi, hcell_fr c1 f7 (fun h => h), ?_⟩
    generalize hF : bfsIn y (xss[y.toNat]'hyl) (far, []) = Fin at eq
    refine ⟨fun m x' j h' => ∃ (far' new : List Int), 0 ≤ j ∧ j + m = ((xss[y.toNat]'hyl).length : Int) ∧ BOK xss.length far' ∧ new.length + negs far' = negs far ∧ (∀ y, y ∈ new → 0 ≤ y ∧ y < (xss.length : Int)) ∧ OwI h' (Iv h2.size h3.size) t far' ∧ OwI h' (fun k => h3.size ≤ k) x' (dn ++ y :: rest ++ new) ∧ Fr No h h' ∧ h3.size ≤ h'.size ∧ Fin = bfsIn y ((xss[y.toNat]'hyl).drop j.toNat) (far', new),
      ⟨(xss[y.toNat]'hyl).length, far, [], by omega, by omega, B, by simp, fun y hy => by simp at hy, o7, by simpa using q7, f7, z7, by simpa using hF.symm⟩, ?_⟩
    rintro m x' j h8 ⟨far', new, j0, j1, B', hnw, hnm, o8, q8, f8, z8, eF⟩ hL8
    have r1' : RdI S h8 gi (xss[y.toNat]'hyl) := RdI.no r1 f8
    have rq8 : RdI (fun k => h3.size ≤ k) h8 x' (dn ++ y :: rest ++ new) := q8.rdF
    have ro8 : RdI (Iv h2.size h3.size) h8 t far' := o8.rdI
    have hfl := B'.len
    refine ⟨fun e2 => ?_, fun e2 => ?_⟩
    · have hj := r1'.lt e2
      rw [drop_cons _ j0 hj, bfsIn] at eF
      have hq := gq_mem hg hyl (show j.toNat < (xss[y.toNat]'hyl).length by omega)
      refine ⟨r1'.inb j0 hj, _, r1'.get j0 hj, ro8.inb hq.1 (by omega), _, ro8.get hq.1 (by omega), fun e3 => ?_, fun e3 => ?_⟩
      · simp only [decide_eq_true_eq] at e3
        have e3' : far'.getD ((xss[y.toNat]'hyl)[j.toNat]'(by omega)).toNat 0 < 0 := by rw [getD_getI (by omega)]; exact e3
        obtain ⟨B2, N2⟩ := B'.step (x := y) (by omega) (by omega) e3'
        simp only [e3', if_true] at eF
        have hyv := B'.hi _ (List.getElem_mem (show y.toNat < far'.length by omega))
        have hyv2 := B'.lo _ (List.getElem_mem (show y.toNat < far'.length by omega))
        have hdl8 : (dn.length : Int) < ((dn ++ y :: rest ++ new).length : Int) := by simp only [List.length_append, List.length_cons]; omega
        have eg8 : ∀ hh, (dn ++ y :: rest ++ new)[(dn.length : Int).toNat]'hh = y := by intro hh; simp
        have c8 := rq8.get k0 hdl8
        rw [eg8] at c8
        obtain ⟨w1, w2, w3⟩ := o8.store1 hq.1 (by have := ro8.len; omega) (VI (far'[y.toNat]'(by omega) + 1))
        have w3' : Fr (Iv h2.size h3.size) h8 _ := w3.mono fun _ _ hk => (o8.foot hk).1
        have hL9 := hL8.iv w3' ⟨.inl l1, trivial⟩
        refine ⟨rq8.inb k0 hdl8, _, c8, ro8.inb hy.1 (by omega), _, ro8.get hy.1 (by omega), ro8.inb hq.1 (by omega), ?_⟩
        rw [w64_eq _ (by omega) (by omega)]
        refine ⟨w1, hL9, fun h9 e9 _ => ?_⟩
        subst e9
        rw [← List.map_set] at w2
        have z9 := w3'.size
        have q9 := Ow.fr q8 w3' fun k hk hk2 => by have h1 := (q8.foot hk).1; have := hk2.2; (try simp only at h1); omega
        refine eop_lit rIs (fun k => _ ≤ k) (fun _ h => h) 1 (by omega) [VI ((xss[y.toNat]'hyl)[j.toNat]'(by omega))] rfl rfl fun v h10 n10 c10 o10 f10 m10 _ => ⟨v, rfl, hL9.of_no f10, ?_⟩
        have z10 := f10.size
        have r10 : RdI v.own h10 v [(xss[y.toNat]'hyl)[j.toNat]'(by omega)] := o10.rd
        have hxl := rq8.len
        simp only [List.length_append, List.length_cons] at hxl hdn hk
        refine eop_append rIs (Ow.no q9 f10) (fun k hk => by omega) r10 (plainVI _) (by have := r10.len; simp at this; omega) fun w h11 n11 o11 f11 d11 => ⟨w, rfl, (hL9.of_no f10).fr f11 (fun p hp hk => by
          simp only [List.mem_cons, List.not_mem_nil, or_false] at hp
          subst hp
          have := (q8.foot hk).1
          simp only at this
          omega), ?_⟩
        have z11 := f11.size
        rw [← List.map_append] at o11
        rw [r1'.succ j0 hj]
        refine ⟨m - 1, by omega, far'.set ((xss[y.toNat]'hyl)[j.toNat]'(by omega)).toNat (far'.getD y.toNat 0 + 1), new ++ [(xss[y.toNat]'hyl)[j.toNat]'(by omega)], by omega, by omega, B2, by simp only [List.length_append, List.length_cons, List.length_nil]; omega, fun z hz => ?_, ?_, ?_, ?_, by omega, eF⟩
        · rcases List.mem_append.1 hz with hz | hz
          · exact hnm z hz
          · simp only [List.mem_cons, List.not_mem_nil, or_false] at hz
            rw [hz]; exact hq
        · rw [getD_getI (show y.toNat < far'.length by omega)]
          exact (Ow.no w2 f10).fr f11 fun k hk hk2 => by have h1 := (q8.foot hk2).1; have := (o8.foot hk).1.2; (try simp only at h1); omega
        · rw [← List.append_assoc]
          exact o11
        · exact (((f8.ivFresh w3' (by omega)).no_trans f10).fresh f11 fun k hk => by have h1 := (q8.foot hk).1; (try simp only at h1); omega)
      · simp only [decide_eq_false_iff_not] at e3
        have e3' : ¬ far'.getD ((xss[y.toNat]'hyl)[j.toNat]'(by omega)).toNat 0 < 0 := by rw [getD_getI (by omega)]; exact e3
        simp only [e3', if_false] at eF
        rw [r1'.succ j0 hj]
        exact ⟨m - 1, by omega, far', new, by omega, by omega, B', hnw, hnm, o8, q8, f8, z8, eF⟩
    · have hj := r1'.ge e2
      rw [List.drop_of_length_le (by omega), bfsIn] at eF
      subst eF
      simp only [List.length_cons] at hdn
      rw [w64_eq _ (by omega) (by omega)]
      refine ⟨rest.length + negs far, by simp only [List.length_cons]; omega, far', dn ++ [y], rest ++ new, by omega, by simp, by simp only [List.length_append]; omega, by simp only [List.length_append, List.length_cons, List.length_nil]; omega, B', fun z hz => ?_, o8, by simpa using q8, f8, z8, ?_⟩
      · rcases List.mem_append.1 hz with hz | hz
        · exact hp z (List.mem_cons_of_mem _ hz)
        · exact hnm z hz
      · exact eq
  · have hk := rq.ge e
    rw [List.length_append] at hk
    obtain rfl : pend = [] := List.eq_nil_of_length_eq_zero (by omega)
    have e9 : R = far := by
      rw [eq]
      simp only [List.length_nil, Nat.zero_add]
      cases negs far <;> rfl
    subst e9
    exact HK t h7 (Ow.ivs o7 (by omega) (by omega)) B.len f7
theorem k_lengths {S : Nat → Prop} {h : Heap} {g : Sl} {xss : List (List Int)} (G : RdR S h g xss) (hg : graphB xss = true) {p : Int} (h0 : 0 ≤ p) (h1 : p < (xss.length : Int)) (K : Value → Heap → Prop) (HK : ∀ t h', OwI h' (Iv h.size h'.size) t (farP xss p) → (farP xss p).length = xss.length → Fr No h h' → K t.v h') : callM Try.prog 66 #[.agg #[g.v], VI p] h K := by
  refine v66 g p h K fun b1 h1' hb1 f1 hL1 => ?_
  generalize hR : farP xss p = R at HK
  have f1 := f1.in_nil
  have l1 : b1 < h1'.size := hL1.head.lt
  have z1 := f1.size
  have hgl := graph_len hg
  refine eop_lit rIs (fun k => h1'.size ≤ k) (fun _ h => h) 1 (by omega) [VI (-1)] rfl rfl fun m1 h2 n2 c2 o2 f2 _ _ => ⟨m1, rfl, hL1.of_no f2, ?_⟩
  have r2 : RdI (fun k => h1'.size ≤ k) h2 m1 [-1] := o2.rdF
  have z2 := f2.size
  have hL2 := hL1.of_no f2
  rw [G.len]
  refine k_Repeat (-1) r2 xss.length (by omega) (by omega) _ fun t h3 o3 f3 => ⟨t, rfl, hL2.of_no f3, ?_⟩
  have z3 := f3.size
  have f03 := (f1.no_trans f2).no_trans f3
  have hL3 := hL2.of_no f3
  have htn : t.n = xss.length := by have := RdI.len (Ow.rdF o3 : RdI _ h3 t _); simpa using this
  obtain ⟨w1, w2, w3⟩ := o3.store1 h0 (by omega) (VI 0)
  have w3' : Fr (Iv h2.size h3.size) h3 _ := w3.mono fun _ _ hk => (o3.foot hk).1
  have hL5 := hL3.iv w3' ⟨.inl (by omega), trivial⟩
  refine ⟨o3.inb h0 (by omega), w1, hL5, fun h5 e5 _ => ?_⟩
  subst e5
  rw [← List.map_set] at w2
  have f05 : Fr No h _ := f03.ivFresh w3' (by omega)
  have z5 := w3'.size
  refine eop_lit rIs (fun k => _ ≤ k) (fun _ h => h) 1 (by omega) [VI p] rfl rfl fun u h6 n6 c6 o6 f6 m6 _ => ⟨u, rfl, hL5.of_no f6, ?_⟩
  have z6 := f6.size
  have f06 := f05.no_trans f6
  have w6 := Ow.no w2 f6
  obtain ⟨B0, N0⟩ := bok0 (n := xss.length) (p := p.toNat) (by omega)
  refine ⟨fun n x h' => ∃ (far pend : List Int), n = pend.length + negs far ∧ n ≤ xss.length ∧ BOK xss.length far ∧ (∀ y, y ∈ pend → 0 ≤ y ∧ y < (xss.length : Int)) ∧ OwI h' (Iv h2.size h3.size) t far ∧ OwI h' (fun k => h3.size ≤ k) x pend ∧ Fr No h h' ∧ h3.size ≤ h'.size ∧ R = bfsP xss n far pend,
    ⟨xss.length, (List.replicate xss.length (-1)).set p.toNat 0, [p], by simp only [List.length_cons, List.length_nil]; omega, Nat.le_refl _, B0, fun y hy => by simp at hy; omega, w6, by show Ow _ _ _ _ _ _; simpa using o6.mono (F' := fun k => h3.size ≤ k) fun k _ hk => by omega, f06, by omega, hR.symm⟩, ?_⟩
  rintro n x h7 ⟨far, pend, rfl, hdn, B, hp, o7, q7, f7, z7, eq⟩ hL7
  have rq : RdI (fun k => h3.size ≤ k) h7 x pend := q7.rdF
  have hxl := rq.len
  refine ⟨fun e => ?_, fun e => ?_⟩
  · simp only [decide_eq_true_eq] at e
    obtain ⟨y, rest, rfl⟩ : ∃ y rest, pend = y :: rest := by
      cases pend with
      | nil => simp at hxl; omega
      | cons y rest => exact ⟨y, rest, rfl⟩
    have hy := hp y List.mem_cons_self
    have hyl : y.toNat < xss.length := by omega
    have hdl : (0 : Int) < ((y :: rest).length : Int) := by simp only [List.length_cons]; omega
    have eg : ∀ hh, (y :: rest)[(0 : Int).toNat]'hh = y := by intro hh; simp
    have c0 := rq.get (Int.le_refl 0) hdl
    rw [eg] at c0
    obtain ⟨gi, c1, r1⟩ := G.get hy.1 hy.2
    have hfuel : (y :: rest).length + negs far = (rest.length + negs far) + 1 := by simp only [List.length_cons]; omega
    rw [hfuel, bfsP, getD_get hyl] at eq
    refine ⟨rq.inb (Int.le_refl 0) hdl, _, c0, (G.no f7).inb hy.1 hy.2, gi, hcell_fr c1 f7 (fun h => h), ?_⟩
    generalize hF : bfsIn y (xss[y.toNat]'hyl) (far, []) = Fin at eq
    refine ⟨fun m x' j h' => ∃ (far' new : List Int), 0 ≤ j ∧ j + m = ((xss[y.toNat]'hyl).length : Int) ∧ BOK xss.length far' ∧ new.length + negs far' = negs far ∧ (∀ y, y ∈ new → 0 ≤ y ∧ y < (xss.length : Int)) ∧ OwI h' (Iv h2.size h3.size) t far' ∧ OwI h' (fun k => h3.size ≤ k) x' (y :: rest ++ new) ∧ Fr No h h' ∧ h3.size ≤ h'.size ∧ Fin = bfsIn y ((xss[y.toNat]'hyl).drop j.toNat) (far', new),
      ⟨(xss[y.toNat]'hyl).length, far, [], by omega, by omega, B, by simp, fun y hy => by simp at hy, o7, by simpa using q7, f7, z7, by simpa using hF.symm⟩, ?_⟩
    rintro m x' j h8 ⟨far', new, j0, j1, B', hnw, hnm, o8, q8, f8, z8, eF⟩ hL8
    have r1' : RdI S h8 gi (xss[y.toNat]'hyl) := RdI.no r1 f8
    have rq8 : RdI (fun k => h3.size ≤ k) h8 x' (y :: rest ++ new) := q8.rdF
    have ro8 : RdI (Iv h2.size h3.size) h8 t far' := o8.rdI
    have hfl := B'.len
    have hxl8 := rq8.len
    simp only [List.length_append, List.length_cons] at hxl8 hdn
    refine ⟨fun e2 => ?_, fun e2 => ?_⟩
    · have hj := r1'.lt e2
      rw [drop_cons _ j0 hj, bfsIn] at eF
      have hq := gq_mem hg hyl (show j.toNat < (xss[y.toNat]'hyl).length by omega)
      refine ⟨r1'.inb j0 hj, _, r1'.get j0 hj, ro8.inb hq.1 (by omega), _, ro8.get hq.1 (by omega), fun e3 => ?_, fun e3 => ?_⟩
      · simp only [decide_eq_true_eq] at e3
        have e3' : far'.getD ((xss[y.toNat]'hyl)[j.toNat]'(by omega)).toNat 0 < 0 := by rw [getD_getI (by omega)]; exact e3
        obtain ⟨B2, N2⟩ := B'.step (x := y) (by omega) (by omega) e3'
        simp only [e3', if_true] at eF
        have hyv := B'.hi _ (List.getElem_mem (show y.toNat < far'.length by omega))
        have hyv2 := B'.lo _ (List.getElem_mem (show y.toNat < far'.length by omega))
        have hdl8 : (0 : Int) < ((y :: rest ++ new).length : Int) := by simp only [List.length_append, List.length_cons]; omega
        have eg8 : ∀ hh, (y :: rest ++ new)[(0 : Int).toNat]'hh = y := by intro hh; simp
        have c8 := rq8.get (Int.le_refl 0) hdl8
        rw [eg8] at c8
        obtain ⟨w1, w2, w3⟩ := o8.store1 hq.1 (by have := ro8.len; omega) (VI (far'[y.toNat]'(by omega) + 1))
        have w3' : Fr (Iv h2.size h3.size) h8 _ := w3.mono fun _ _ hk => (o8.foot hk).1
        have hL9 := hL8.iv w3' ⟨.inl (by omega), trivial⟩
        refine ⟨rq8.inb (Int.le_refl 0) hdl8, _, c8, ro8.inb hy.1 (by omega), _, ro8.get hy.1 (by omega), ro8.inb hq.1 (by omega), ?_⟩
        rw [w64_eq _ (by omega) (by omega)]
        refine ⟨w1, hL9, fun h9 e9 _ => ?_⟩
        subst e9
        rw [← List.map_set] at w2
        have z9 := w3'.size
        have q9 := Ow.fr q8 w3' fun k hk hk2 => by have h1 := (q8.foot hk).1; have := hk2.2; (try simp only at h1); omega
        refine eop_lit rIs (fun k => _ ≤ k) (fun _ h => h) 1 (by omega) [VI ((xss[y.toNat]'hyl)[j.toNat]'(by omega))] rfl rfl fun v h10 n10 c10 o10 f10 m10 _ => ⟨v, rfl, hL9.of_no f10, ?_⟩
        have z10 := f10.size
        have r10 : RdI v.own h10 v [(xss[y.toNat]'hyl)[j.toNat]'(by omega)] := o10.rd
        refine eop_append rIs (Ow.no q9 f10) (fun k hk => by omega) r10 (plainVI _) (by have := r10.len; simp at this; omega) fun w h11 n11 o11 f11 d11 => ⟨w, rfl, (hL9.of_no f10).fr f11 (fun p hp hk => by
          simp only [List.mem_cons, List.not_mem_nil, or_false] at hp
          subst hp
          have := (q8.foot hk).1
          simp only at this
          omega), ?_⟩
        have z11 := f11.size
        rw [← List.map_append] at o11
        rw [r1'.succ j0 hj]
        refine ⟨m - 1, by omega, far'.set ((xss[y.toNat]'hyl)[j.toNat]'(by omega)).toNat (far'.getD y.toNat 0 + 1), new ++ [(xss[y.toNat]'hyl)[j.toNat]'(by omega)], by omega, by omega, B2, by simp only [List.length_append, List.length_cons, List.length_nil]; omega, fun z hz => ?_, ?_, ?_, ?_, by omega, eF⟩
        · rcases List.mem_append.1 hz with hz | hz
          · exact hnm z hz
          · simp only [List.mem_cons, List.not_mem_nil, or_false] at hz
            rw [hz]; exact hq
        · rw [getD_getI (show y.toNat < far'.length by omega)]
          exact (Ow.no w2 f10).fr f11 fun k hk hk2 => by have h1 := (q8.foot hk2).1; have := (o8.foot hk).1.2; (try simp only at h1); omega
        · rw [← List.append_assoc]
          exact o11
        · exact (((f8.ivFresh w3' (by omega)).no_trans f10).fresh f11 fun k hk => by have h1 := (q8.foot hk).1; (try simp only at h1); omega)
      · simp only [decide_eq_false_iff_not] at e3
        have e3' : ¬ far'.getD ((xss[y.toNat]'hyl)[j.toNat]'(by omega)).toNat 0 < 0 := by rw [getD_getI (by omega)]; exact e3
        simp only [e3', if_false] at eF
        rw [r1'.succ j0 hj]
        exact ⟨m - 1, by omega, far', new, by omega, by omega, B', hnw, hnm, o8, q8, f8, z8, eF⟩
    · have hj := r1'.ge e2
      rw [List.drop_of_length_le (by omega), bfsIn] at eF
      subst eF
      refine pop_cut_l rIs .i64 (by omega) (by omega) ⟨_, rfl, ?_⟩
      have qc := q8.cut (l := 1) (m := x'.n) (by omega) (Nat.le_refl _)
      have ec : (((y :: rest ++ new).map VI).drop (1 * 1)).take ((x'.n - 1) * 1) = (rest ++ new).map VI := by
        rw [List.take_of_length_le (by simp; omega)]
        rfl
      rw [ec] at qc
      refine ⟨rest.length + negs far, by simp only [List.length_cons]; omega, far', rest ++ new, by simp only [List.length_append]; omega, by omega, B', fun z hz => ?_, o8, qc, f8, z8, ?_⟩
      · rcases List.mem_append.1 hz with hz | hz
        · exact hp z (List.mem_cons_of_mem _ hz)
        · exact hnm z hz
      · exact eq
  · simp only [decide_eq_false_iff_not] at e
    obtain rfl : pend = [] := List.eq_nil_of_length_eq_zero (by omega)
    have e9 : R = far := by
      rw [eq]
      simp only [List.length_nil, Nat.zero_add]
      cases negs far <;> rfl
    subst e9
    exact HK t h7 (Ow.ivs o7 (by omega) (by omega)) B.len f7
def leadB (g : List (List Int)) (p : Int) : Bool := (List.range g.length).all fun q => !decide ((farP g q).getD p.toNat 0 < 0)
theorem range_all {n : Nat} {f : Nat → Bool} : (List.range n).all f = true ↔ ∀ i, i < n → f i = true := by simp [List.all_eq_true]
theorem k_grLeads {S : Nat → Prop} {h : Heap} {g : Sl} {xss : List (List Int)} (G : RdR S h g xss) (hg : graphB xss = true) {p : Int} (h0 : 0 ≤ p) (h1 : p < (xss.length : Int)) : Ret Try.prog 83 #[.agg #[g.v], VI p] h (VB (leadB xss p)) := by
  intro K HK
  refine v83 g p h K fun b1 h2 hb1 f2 hL2 => ?_
  have f2 := f2.in_nil
  refine ⟨fun n i h' => 0 ≤ i ∧ i + n = (xss.length : Int) ∧ (∀ q : Nat, (q : Int) < i → ¬ (farP xss q).getD p.toNat 0 < 0) ∧ Fr No h h', ⟨xss.length, by omega, by omega, fun q hq => by omega, f2⟩, ?_⟩
  rintro n i h3 ⟨i0, i1, i2, f3⟩ hL3
  have G3 := G.no f3
  refine ⟨fun e => ?_, fun e => ?_⟩
  · have hi := G3.lt e
    have ei : ((i.toNat : Nat) : Int) = i := by omega
    refine k_grFar G3 hg i0 hi _ fun t h4 o4 hl f4 => ⟨t, rfl, hL3.of_no f4, ?_⟩
    have r4 : RdI _ h4 t _ := Ow.rdF o4
    refine ⟨r4.inb h0 (by omega), _, r4.get h0 (by omega), fun e2 => ?_, fun e2 => ?_⟩
    · simp only [decide_eq_true_eq] at e2
      have : leadB xss p = false := by
        unfold leadB
        rw [List.all_eq_false]
        refine ⟨i.toNat, by simp; omega, ?_⟩
        rw [ei, getD_getI (by omega), decide_eq_true e2]
        simp
      rw [this] at HK
      exact HK h4 (f3.no_trans f4)
    · simp only [decide_eq_false_iff_not] at e2
      rw [G3.succ i0 hi]
      refine ⟨n - 1, by omega, by omega, by omega, fun q hq => ?_, f3.no_trans f4⟩
      by_cases hq2 : (q : Int) < i
      · exact i2 q hq2
      · have : (q : Int) = i := by omega
        rw [this, getD_getI (by omega)]
        exact e2
  · have hi := G3.ge e
    have : leadB xss p = true := by
      unfold leadB
      rw [range_all]
      intro q hq
      rw [decide_eq_false (i2 q (by omega))]
      rfl
    rw [this] at HK
    exact HK h3 f3
theorem k_leadsTo {S : Nat → Prop} {h : Heap} {g : Sl} {xss : List (List Int)} (G : RdR S h g xss) (hg : graphB xss = true) {p : Int} (h0 : 0 ≤ p) (h1 : p < (xss.length : Int)) : Ret Try.prog 82 #[.agg #[g.v], VI p] h (VB (leadB xss p)) := by
  intro K HK
  refine v82 g p h K fun b1 h2 hb1 f2 hL2 => ?_
  have f2 := f2.in_nil
  refine ⟨fun n i h' => 0 ≤ i ∧ i + n = (xss.length : Int) ∧ (∀ q : Nat, (q : Int) < i → ¬ (farP xss q).getD p.toNat 0 < 0) ∧ Fr No h h', ⟨xss.length, by omega, by omega, fun q hq => by omega, f2⟩, ?_⟩
  rintro n i h3 ⟨i0, i1, i2, f3⟩ hL3
  have G3 := G.no f3
  refine ⟨fun e => ?_, fun e => ?_⟩
  · have hi := G3.lt e
    have ei : ((i.toNat : Nat) : Int) = i := by omega
    refine k_lengths G3 hg i0 hi _ fun t h4 o4 hl f4 => ⟨t, rfl, hL3.of_no f4, ?_⟩
    have r4 : RdI _ h4 t _ := Ow.rdF o4
    refine ⟨r4.inb h0 (by omega), _, r4.get h0 (by omega), fun e2 => ?_, fun e2 => ?_⟩
    · simp only [decide_eq_true_eq] at e2
      have : leadB xss p = false := by
        unfold leadB
        rw [List.all_eq_false]
        refine ⟨i.toNat, by simp; omega, ?_⟩
        rw [ei, getD_getI (by omega), decide_eq_true e2]
        simp
      rw [this] at HK
      exact HK h4 (f3.no_trans f4)
    · simp only [decide_eq_false_iff_not] at e2
      rw [G3.succ i0 hi]
      refine ⟨n - 1, by omega, by omega, by omega, fun q hq => ?_, f3.no_trans f4⟩
      by_cases hq2 : (q : Int) < i
      · exact i2 q hq2
      · have : (q : Int) = i := by omega
        rw [this, getD_getI (by omega)]
        exact e2
  · have hi := G3.ge e
    have : leadB xss p = true := by
      unfold leadB
      rw [range_all]
      intro q hq
      rw [decide_eq_false (i2 q (by omega))]
      rfl
    rw [this] at HK
    exact HK h3 f3
def Cyc (g S : List (List Int)) (c : List Int) : Prop := ∃ (p : Int) (k : Nat), 1 ≤ k ∧ 0 ≤ p ∧ p < (g.length : Int) ∧ itf (sx g S) p k = p ∧ ∀ x, x ∈ c ↔ ∃ j, j < k ∧ itf (sx g S) p j = x
def Red (g : List (List Int)) : Nat → List (List Int) → List (List Int) → Prop
  | 0, S, E => S = E
  | n + 1, S, E => ∃ c, Cyc g S c ∧ Red g n (popP S c) E
theorem popP_congr {S : List (List Int)} {c d : List Int} (h : ∀ x, x ∈ c ↔ x ∈ d) : popP S c = popP S d := by
  unfold popP
  refine List.map_congr_left fun i _ => ?_
  by_cases hc : (i : Int) ∈ c
  · rw [if_pos hc, if_pos ((h _).1 hc)]
  · rw [if_neg hc, if_neg fun hd => hc ((h _).2 hd)]
theorem popP_getD (S : List (List Int)) (c : List Int) (i : Nat) : (popP S c).getD i [] = if (i : Int) ∈ c then (S.getD i []).drop 1 else S.getD i [] := by
  by_cases hi : i < S.length
  · have h1 : i < (popP S c).length := by rw [popP_length]; exact hi
    rw [List.getD_eq_getElem?_getD, List.getElem?_eq_getElem h1, Option.getD_some, popP_get S c i h1 hi, List.getD_eq_getElem?_getD, List.getElem?_eq_getElem hi, Option.getD_some]
  · have h1 : ¬ i < (popP S c).length := by rw [popP_length]; exact hi
    have e1 : (popP S c).getD i [] = [] := by rw [List.getD_eq_getElem?_getD, List.getElem?_eq_none (by omega)]; rfl
    have e2 : S.getD i [] = [] := by rw [List.getD_eq_getElem?_getD, List.getElem?_eq_none (by omega)]; rfl
    rw [e1, e2]
    split <;> rfl
theorem popP_comm (S : List (List Int)) (c d : List Int) : popP (popP S c) d = popP (popP S d) c := by
  apply List.ext_getElem (by simp only [popP_length])
  intro i h1 h2
  have h0 : i < S.length := by rw [popP_length, popP_length] at h1; exact h1
  have a1 : i < (popP S c).length := by rw [popP_length]; exact h0
  have a2 : i < (popP S d).length := by rw [popP_length]; exact h0
  rw [popP_get _ d i h1 a1, popP_get _ c i h2 a2, popP_get _ c i a1 h0, popP_get _ d i a2 h0]
  split <;> split <;> rfl
theorem itf_add (f : Int → Int) (p : Int) (i : Nat) : ∀ m, itf f p (i + m) = itf f (itf f p i) m
  | 0 => rfl
  | m + 1 => by rw [← Nat.add_assoc, itf, itf, itf_add f p i m]
theorem itf_mod {f : Int → Int} {p : Int} {k : Nat} (h : itf f p k = p) (hk : 1 ≤ k) : ∀ m, ∃ j, j < k ∧ itf f p j = itf f p m
  | 0 => ⟨0, by omega, rfl⟩
  | m + 1 => by
    obtain ⟨j, h1, h2⟩ := itf_mod h hk m
    by_cases e : j + 1 = k
    · exact ⟨0, by omega, by
        show p = f (itf f p m)
        rw [← h2]
        show p = itf f p (j + 1)
        rw [e, h]⟩
    · exact ⟨j + 1, by omega, by rw [itf, itf, h2]⟩
theorem Cyc.cl {g S : List (List Int)} {c : List Int} (h : Cyc g S c) {x : Int} (hx : x ∈ c) : ∀ m, itf (sx g S) x m ∈ c := by
  obtain ⟨p, k, hk, h0, h1, e, hm⟩ := h
  intro m
  obtain ⟨j, h2, h3⟩ := (hm x).1 hx
  obtain ⟨j', h4, h5⟩ := itf_mod e hk (j + m)
  rw [itf_add, h3] at h5
  exact (hm _).2 ⟨j', h4, h5⟩
theorem Cyc.to {g S : List (List Int)} {c : List Int} (h : Cyc g S c) {x y : Int} (hx : x ∈ c) (hy : y ∈ c) : ∃ m, itf (sx g S) x m = y := by
  obtain ⟨p, k, hk, h0, h1, e, hm⟩ := h
  obtain ⟨i, h2, h3⟩ := (hm x).1 hx
  obtain ⟨j, h4, h5⟩ := (hm y).1 hy
  refine ⟨k - i + j, ?_⟩
  rw [← h3, ← itf_add, show i + (k - i + j) = k + j by omega, itf_add, e, h5]
theorem Cyc.same {g S : List (List Int)} {c d : List Int} (h : Cyc g S c) (h' : Cyc g S d) {x : Int} (hc : x ∈ c) (hd : x ∈ d) : ∀ y, y ∈ c ↔ y ∈ d := by
  intro y
  constructor
  · intro hy
    obtain ⟨m, e⟩ := h.to hc hy
    rw [← e]; exact h'.cl hd m
  · intro hy
    obtain ⟨m, e⟩ := h'.to hd hy
    rw [← e]; exact h.cl hc m
theorem Cyc.ne {g S : List (List Int)} {c : List Int} (h : Cyc g S c) : ∃ p, p ∈ c := by
  obtain ⟨p, k, hk, h0, h1, e, hm⟩ := h
  exact ⟨p, (hm p).2 ⟨0, by omega, rfl⟩⟩
theorem Cyc.pos {g S : List (List Int)} {c : List Int} (h : Cyc g S c) {x : Int} (hx : x ∈ c) : 0 ≤ x := by
  obtain ⟨p, k, hk, h0, h1, e, hm⟩ := h
  obtain ⟨j, h2, h3⟩ := (hm x).1 hx
  refine Int.not_lt.1 fun hn => ?_
  have := its_neg (g := g) (S := S) (p := p) (k := j) (by rw [h3]; exact hn) (k - j)
  rw [show j + (k - j) = k by omega, e] at this
  omega
theorem Cyc.top {g S : List (List Int)} {c : List Int} (h : Cyc g S c) {x : Int} (hx : x ∈ c) : (S.getD x.toNat []).length ≠ 0 := by
  intro e
  have h1 := h.pos (h.cl hx 1)
  have h2 : sx g S x = -1 := sx_none e
  rw [show itf (sx g S) x 1 = sx g S x from rfl, h2] at h1
  omega
theorem sx_pop {g S : List (List Int)} {c : List Int} {x : Int} (h : x ∉ c) : sx g (popP S c) x = sx g S x := by
  unfold sx
  split
  · rfl
  · rename_i h0
    have e : ((x.toNat : Nat) : Int) = x := by omega
    rw [popP_getD, e, if_neg h]
theorem Cyc.keep {g S : List (List Int)} {c d : List Int} (h : Cyc g S d) (hd : ∀ x, x ∈ c → x ∉ d) : Cyc g (popP S c) d := by
  have hh := h
  obtain ⟨p, k, hk, h0, h1, e, hm⟩ := h
  have hp : p ∈ d := (hm p).2 ⟨0, by omega, rfl⟩
  have key : ∀ j, itf (sx g (popP S c)) p j = itf (sx g S) p j := by
    intro j
    induction j with
    | zero => rfl
    | succ j ih =>
      rw [itf, itf, ih]
      exact sx_pop fun hc => hd _ hc (hh.cl hp j)
  exact ⟨p, k, hk, h0, h1, by rw [key]; exact e, fun x => by rw [hm x]; simp only [key]⟩
theorem Red.after {g E : List (List Int)} (hE : ∀ c, ¬ Cyc g E c) : ∀ {n : Nat} {S : List (List Int)} {d : List Int}, Red g n S E → Cyc g S d → ∃ m, n = m + 1 ∧ Red g m (popP S d) E
  | 0, S, d, h, hd => by rw [show S = E from h] at hd; exact absurd hd (hE d)
  | n + 1, S, d, h, hd => by
    obtain ⟨c, hc, hr⟩ := h
    by_cases hx : ∃ x, x ∈ c ∧ x ∈ d
    · obtain ⟨x, h1, h2⟩ := hx
      exact ⟨n, rfl, by rw [← popP_congr (hc.same hd h1 h2)]; exact hr⟩
    · have hx1 : ∀ x, x ∈ c → x ∉ d := fun x h1 h2 => hx ⟨x, h1, h2⟩
      obtain ⟨m, e, hr'⟩ := Red.after hE hr (hd.keep hx1)
      subst e
      refine ⟨m + 1, rfl, c, hc.keep fun x h1 h2 => hx ⟨x, h2, h1⟩, ?_⟩
      rw [popP_comm]; exact hr'
theorem Red.same {g E : List (List Int)} (hE : ∀ c, ¬ Cyc g E c) : ∀ {n m : Nat} {S E' : List (List Int)}, Red g n S E → Red g m S E' → (∀ c, ¬ Cyc g E' c) → n = m ∧ E = E'
  | n, 0, S, E', h, h', hE' => by
    rw [show S = E' from h'] at h
    match n, h with
    | 0, h => exact ⟨rfl, (show E' = E from h).symm⟩
    | n + 1, h => obtain ⟨c, hc, _⟩ := h; exact absurd hc (hE' c)
  | n, m + 1, S, E', h, h', hE' => by
    obtain ⟨c, hc, hr⟩ := h'
    obtain ⟨k, e, hk⟩ := h.after hE hc
    obtain ⟨a, b⟩ := Red.same hE hk hr hE'
    exact ⟨by omega, b⟩
theorem Red.rest {g E : List (List Int)} : ∀ {n : Nat} {S : List (List Int)}, Red g n S E → E.length = S.length ∧ ∀ i, ∃ k, E.getD i [] = (S.getD i []).drop k
  | 0, S, h => by rw [← show S = E from h]; exact ⟨rfl, fun i => ⟨0, rfl⟩⟩
  | n + 1, S, h => by
    obtain ⟨c, hc, hr⟩ := h
    obtain ⟨a, b⟩ := Red.rest hr
    refine ⟨by rw [a, popP_length], fun i => ?_⟩
    obtain ⟨k, hk⟩ := b i
    rw [popP_getD] at hk
    split at hk
    · exact ⟨1 + k, by rw [hk, List.drop_drop]⟩
    · exact ⟨k, hk⟩
def lenS (S : List (List Int)) : Nat → Nat
  | 0 => 0
  | i + 1 => lenS S i + (S.getD i []).length
def InOK (g S : List (List Int)) (sink : Int) (I : List Bool) : Prop := ∀ x : Int, 0 ≤ x → I.getD x.toNat false = true → ∃ m, itf (sx g S) x m = sink ∧ ∀ j, j ≤ m → 0 ≤ itf (sx g S) x j ∧ I.getD (itf (sx g S) x j).toNat false = true
structure WayOK (g S : List (List Int)) (I : List Bool) (way : List Int) : Prop where
  ne : way ≠ []
  nodup : way.Nodup
  rng : ∀ x, x ∈ way → 0 ≤ x ∧ x < (g.length : Int)
  chain : ∀ i, i + 1 < way.length → sx g S (way.getD i 0) = way.getD (i + 1) 0
  out : ∀ i, i + 1 < way.length → I.getD (way.getD i 0).toNat false = false
theorem getD_mem {xs : List Int} {i : Nat} (h : i < xs.length) : xs.getD i 0 ∈ xs := by rw [getD_getI h]; exact List.getElem_mem h
theorem nodup_getD {xs : List Int} (h : xs.Nodup) {i j : Nat} (hi : i < xs.length) (hj : j < xs.length) (e : xs.getD i 0 = xs.getD j 0) : i = j := by
  rw [getD_getI hi, getD_getI hj] at e
  unfold List.Nodup at h
  rw [List.pairwise_iff_getElem] at h
  rcases Nat.lt_trichotomy i j with a | a | a
  · exact absurd e (h i j hi hj a)
  · exact a
  · exact absurd e.symm (h j i hj hi a)
theorem InOK.keep {g S : List (List Int)} {sink : Int} {I : List Bool} (h : InOK g S sink I) {c : List Int} (hc : ∀ x, x ∈ c → I.getD x.toNat false = false) : InOK g (popP S c) sink I := by
  intro x hx hI
  obtain ⟨m, e, hj⟩ := h x hx hI
  have key : ∀ j, j ≤ m → itf (sx g (popP S c)) x j = itf (sx g S) x j := by
    intro j
    induction j with
    | zero => intro _; rfl
    | succ j ih =>
      intro hle
      rw [itf, itf, ih (by omega)]
      refine sx_pop fun hm => ?_
      have a := hc _ hm
      have b := (hj j (by omega)).2
      rw [a] at b; cases b
  exact ⟨m, by rw [key m (Nat.le_refl _)]; exact e, fun j hle => by rw [key j hle]; exact hj j hle⟩
theorem WayOK.itf {g S : List (List Int)} {I : List Bool} {way : List Int} (h : WayOK g S I way) {i : Nat} : ∀ j, i + j < way.length → itf (sx g S) (way.getD i 0) j = way.getD (i + j) 0
  | 0, _ => rfl
  | j + 1, hl => by
    rw [Go.Proofs.Ytkjkfjkapbpgiaa.itf, h.itf j (by omega), h.chain (i + j) (by omega)]
    rfl
def markL (I : List Bool) : List Int → List Bool
  | [] => I
  | x :: r => markL (I.set x.toNat true) r
theorem markL_length : ∀ (w : List Int) (I : List Bool), (markL I w).length = I.length
  | [], I => rfl
  | x :: r, I => by rw [markL, markL_length r, List.length_set]
theorem set_getB {I : List Bool} {i j : Nat} : (I.set i true).getD j false = (I.getD j false || (decide (i = j) && decide (j < I.length))) := by
  by_cases hj : j < I.length
  · rw [List.getD_eq_getElem?_getD, List.getElem?_eq_getElem (by rw [List.length_set]; exact hj), Option.getD_some, List.getElem_set, List.getD_eq_getElem?_getD, List.getElem?_eq_getElem hj, Option.getD_some]
    split <;> simp_all
  · rw [List.getD_eq_getElem?_getD, List.getElem?_eq_none (by rw [List.length_set]; omega), List.getD_eq_getElem?_getD, List.getElem?_eq_none (by omega)]
    simp [hj]
theorem markL_get : ∀ (w : List Int) (I : List Bool) (j : Nat), (∀ x, x ∈ w → 0 ≤ x) → j < I.length → ((markL I w).getD j false = true ↔ I.getD j false = true ∨ (j : Int) ∈ w)
  | [], I, j, _, _ => by simp [markL]
  | x :: r, I, j, h, hj => by
    rw [markL, markL_get r _ j (fun y hy => h y (List.mem_cons_of_mem _ hy)) (by rw [List.length_set]; exact hj), set_getB, List.mem_cons]
    have := h x List.mem_cons_self
    have : (x.toNat = j) ↔ ((j : Int) = x) := by omega
    simp only [Bool.or_eq_true, Bool.and_eq_true, decide_eq_true_eq, hj, and_true, this, or_assoc]
def cntI (I : List Bool) : Nat → Nat
  | 0 => 0
  | i + 1 => cntI I i + (if I.getD i false then 1 else 0)
theorem cntI_all {I : List Bool} : ∀ {n : Nat}, (∀ i, i < n → I.getD i false = true) → cntI I n = n
  | 0, _ => rfl
  | n + 1, h => by rw [cntI, cntI_all fun i hi => h i (by omega), if_pos (h n (by omega))]
theorem cntI_set {I : List Bool} {x : Nat} (hx : I.getD x false = false) (hl : x < I.length) : ∀ n, cntI (I.set x true) n = cntI I n + (if x < n then 1 else 0)
  | 0 => by simp [cntI]
  | n + 1 => by
    rw [cntI, cntI, cntI_set hx hl n, set_getB]
    by_cases e : x = n
    · subst e
      rw [hx, decide_eq_true rfl, decide_eq_true hl, if_neg (Nat.lt_irrefl _), if_pos (Nat.lt_succ_self _)]
      rfl
    · rw [decide_eq_false e, Bool.false_and, Bool.or_false]
      by_cases h : x < n
      · rw [if_pos h, if_pos (show x < n + 1 by omega)]; omega
      · rw [if_neg h, if_neg (show ¬ x < n + 1 by omega), Nat.add_zero, Nat.add_zero]
theorem InOK.done {g S : List (List Int)} {sink : Int} {I : List Bool} (h : InOK g S sink I) (hs : (S.getD sink.toNat []).length = 0) (ha : ∀ i, i < g.length → I.getD i false = true) : ∀ c, ¬ Cyc g S c := by
  intro c hc
  have hh := hc
  obtain ⟨p, k, hk, h0, h1, e, hm⟩ := hc
  obtain ⟨m, e', _⟩ := h p h0 (ha _ (by omega))
  have := hh.cl ((hm p).2 ⟨0, by omega, rfl⟩) m
  rw [e'] at this
  exact hh.top this hs
section
open Go.RowKit Go.Shelf
attribute [local go_sem] Oper.semAt_some
set_option maxRecDepth 100000 in
set_option maxHeartbeats 2000000 in
theorem vals1_in (F : Fence) (n : Nat) (h7 : F.fn 124) (hro : F.round = none) (hn : 1 ≤ n) (l Bs b off len cap : Nat) (zs : List Int) (hlen : len = zs.length) (hreach : len ≤ 1000000) (J : List Int → World → Prop)
    (hJ : ∀ pre W, J pre W → ∀ j, j < len → W.cell? ⟨b, off + j, none⟩ = some (.int .i64 (zs[j]?.getD 0)))
    (hY : ∀ pre x W, J pre W → pre.length < len → YieldAt F (n - 1) Try.prog l #[.int .i64 x] W fun e W' => e = .returned (.bool true) ∧ J (pre ++ [x]) W')
    (W : World) (hBs : W.cell? ⟨Bs, 0, none⟩ = some (.slice (some ⟨b, off, none⟩) len cap)) (h0 : J [] W) :
    CallsIn F n Try.prog 124 #[.func (.yield l) #[] #[], .pointer (some ⟨Bs, 0, none⟩)] W fun e W' => (∃ v, e = .returned v) ∧ J zs W' := by
  refine callsIn_of_wp Try.func124 rfl h7 ?_ hro
  simp only [Try.ntmps124, List.size_toArray, List.length_cons, List.length_nil, Nat.reduceAdd, Nat.reduceSub, Array.replicate_succ, Array.replicate_zero, List.push_toArray, List.append_toArray, List.nil_append, List.cons_append]
  gi_wp2
  gi_loopw [7] (fun i wr => ∃ k : Nat, k ≤ len ∧ i = .int .i64 k ∧ J (zs.take k) wr)
    (fun i _ => match i with | .int _ z => len - z.toNat | _ => 0)
  case atStart => exact ⟨0, Nat.zero_le _, rfl, by simpa using h0⟩
  case round =>
    obtain ⟨k, hk, rfl, hJs⟩ := hrel
    have hcx : k < len → wr.cell? ⟨b, off + k, none⟩ = some (.int .i64 (zs[k]?.getD 0)) := hJ _ _ hJs k
    have hkz : k < len → zs[k]?.getD 0 = zs[k]?.getD 0 := fun _ => rfl
    by_cases hlt : k < len
    · obtain ⟨fn, tmps, assign, body, hy, hR⟩ := hY _ (zs[k]'(by omega)) wr hJs (by simp; omega)
      have hcx' := hcx hlt
      gi_wp2
      refine hR.mono ?_
      rintro e W3 ⟨rfl, hJ3⟩
      gi_wp2
      go_roundw
      case rel => exact ⟨k + 1, by omega, by simp, by rw [List.take_succ_eq_append_getElem (by omega)]; exact hJ3⟩
      case measure => simp; omega
    · obtain rfl : k = len := by omega
      gi_wp2
      go_end0
      exact ⟨⟨_, rfl⟩, by rw [hlen, List.take_length] at hJs; exact hJs⟩
set_option maxRecDepth 100000 in
set_option maxHeartbeats 1000000 in
theorem vals1_nil (F : Fence) (n : Nat) (h7 : F.fn 124) (hro : F.round = none) (l Bs cap : Nat) (p : Option Addr) (J : List Int → World → Prop) (W : World) (hBs : W.cell? ⟨Bs, 0, none⟩ = some (.slice p 0 cap)) (h0 : J [] W) :
    CallsIn F n Try.prog 124 #[.func (.yield l) #[] #[], .pointer (some ⟨Bs, 0, none⟩)] W fun e W' => (∃ v, e = .returned v) ∧ J [] W' := by
  refine callsIn_of_wp Try.func124 rfl h7 ?_ hro
  simp only [Try.ntmps124, List.size_toArray, List.length_cons, List.length_nil, Nat.reduceAdd, Nat.reduceSub, Array.replicate_succ, Array.replicate_zero, List.push_toArray, List.append_toArray, List.nil_append, List.cons_append]
  gi_wp2
  gi_loopw [7] (fun i wr => i = .int .i64 0 ∧ J [] wr) (fun _ _ => 0)
  case atStart => exact ⟨rfl, h0⟩
  case round =>
    obtain ⟨rfl, hJs⟩ := hrel
    gi_wp2
    go_end0
    exact ⟨⟨_, rfl⟩, hJs⟩
end
section
open Go.RowKit Go.Shelf
def apA : Code := (Code.region 2 #[{ dst := some 5, op := Op.assign (Operand.tmp 7), type := 3, pos := "iter.go:51", after := #[], guard := none }] false)
def apB : Code := (Code.block 1 (Code.region 3 #[{ dst := some 8, op := Op.load 27 (Operand.tmp 2), type := 27, pos := "iter.go:52", after := #[], guard := none }, { dst := some 9, op := Op.move (Operand.tmp 5), type := 3, pos := "iter.go:52", after := #[], guard := none }, { dst := some 10, op := Op.buildSlice 27 1 #[(0, Operand.tmp 9)], type := 27, pos := "iter.go:52", after := #[{ on := 1, ground := Ground.data }], guard := none }, { dst := some 11, op := Op.call { callee := Callee.builtin Builtin.append, args := #[Operand.tmp 8, Operand.tmp 10], argTypes := #[27, 27] }, type := 27, pos := "iter.go:52", after := #[{ on := 0, ground := Ground.data }, { on := 2, ground := Ground.data }], guard := none }, { dst := none, op := Op.store 27 (Operand.tmp 2) (Operand.tmp 11), type := 0, pos := "iter.go:52", after := #[{ on := 3, ground := Ground.data }, { on := 3, ground := Ground.chain }, { on := 0, ground := Ground.phase }, { on := 1, ground := Ground.phase }, { on := 2, ground := Ground.phase }, { on := 3, ground := Ground.phase }], guard := none }] false))
def apR (fn : FuncId) (sv : Value) (Bs D : Nat) (st : LoopState) (pend : Option Code) : Loop :=
  { state := st, pending := pend, fn, tmps := #[.slice none 0 0, sv, .pointer (some ⟨Bs, 0, none⟩), undef, .slice none 0 0, undef, sv, undef, undef, undef, undef, undef, undef], params := #[7], assign := apA, body := apB, defers := D }
structure ApAt (w0 : World) (fn : FuncId) (sv : Value) (Bs l D : Nat) (ss : List Int) (W : World) : Prop where
  box : ∃ v, W.heap[Bs]? = some (.cells #[v] 27 (0, 0)) ∧ W.ownsRow w0.heap.size 3 1 v ss.length (ss.map (Value.int .i64))
  L : W.heap[l]? = some (.loop (apR fn sv Bs D .ready none))
  K : W.heap[D]? = some (.deferred (some []))
  below : Below w0.heap.size w0 W
theorem apInfo : (Try.prog.info? 3).map (fun i => (i.zero, i.size, i.bytes)) = some (some (.int .i64 0), 1, 8) := by kernel_rfl
set_option maxRecDepth 100000 in
set_option maxHeartbeats 2000000 in
theorem apYield (F : Fence) (m : Nat) (w0 : World) (fn : FuncId) (hfn : F.fn fn) (sv : Value) (Bs l D : Nat) (hBl : Bs ≠ l) (hDl : D ≠ l) (hDB : D ≠ Bs) (h0B : w0.heap.size ≤ Bs) (h0l : w0.heap.size ≤ l)
    (N : Nat) (hN : N ≤ maxLen) (hNb : N * 8 ≤ 140737488355328) (ss : List Int) (x : Int) (W : World) (h : ApAt w0 fn sv Bs l D ss W) (hlen : ss.length < N) :
    YieldAt F m Try.prog l #[Value.int .i64 x] W fun e W' => e = .returned (.bool true) ∧ ApAt w0 fn sv Bs l D (ss ++ [x]) W' := by
  obtain ⟨i0, hi, hz0, hz1, hz2⟩ := info_parts apInfo
  obtain ⟨v, hv, hrow⟩ := h.box
  refine ⟨fn, #[.slice none 0 0, sv, .pointer (some ⟨Bs, 0, none⟩), undef, .slice none 0 0, undef, sv, Value.int .i64 x, undef, undef, undef, undef, undef], apA, apB, by simpa [apR] using run_yield (P := Try.prog) (args := #[Value.int .i64 x]) h.L rfl, roundIn_of_wpIn hfn ?_⟩
  have hl : l < W.heap.size := (Array.getElem?_eq_some_iff.1 h.L).1
  have hbr := run_beginRound (P := Try.prog) h.L rfl
  obtain ⟨W2, hW2⟩ : ∃ W2, W.putObj l (.loop { apR fn sv Bs D .ready none with state := .busy }) = W2 := ⟨_, rfl⟩
  rw [hW2] at hbr
  have hg2 : W.grownBy W2 (some l) := by rw [← hW2]; exact grownBy_putObj_a _ _ _
  have hv2 : W2.heap[Bs]? = some (.cells #[v] 27 (0, 0)) := by rw [← hW2]; exact (World.putObj_heap_other hBl).trans hv
  have hK2 : W2.heap[D]? = some (.deferred (some [])) := by rw [← hW2]; exact (World.putObj_heap_other hDl).trans h.K
  have hL2 : W2.heap[l]? = some (.loop { apR fn sv Bs D .ready none with state := .busy }) := by rw [← hW2]; exact World.putObj_heap_same hl
  have hrow2 : W2.ownsRow w0.heap.size 3 1 v ss.length (ss.map (Value.int .i64)) := hrow.kept hg2 (ownsRow_ne_a hrow h.L (fun cur e => by cases e))
  have hb2 : Below w0.heap.size w0 W2 := h.below.grown hg2 h.below.size (fun k e => by cases e; exact h0l)
  obtain ⟨hc2, hf2⟩ := cell_of_box_a hv2
  have hBlt : Bs < W2.heap.size := (Array.getElem?_eq_some_iff.1 hv2).1
  have hl2 : l < W2.heap.size := (Array.getElem?_eq_some_iff.1 hL2).1
  have hDlt : D < W2.heap.size := (Array.getElem?_eq_some_iff.1 hK2).1
  have ne_of : ∀ {j : Nat} {o : Obj}, W2.heap[j]? = some o → (∀ cur, o ≠ .cells cur 3 (0, 0)) → some j ≠ v.ownBlock := fun hj hno => by
    rcases ownsRow_ne_a hrow2 hj hno with e | e
    · rw [e]; simp
    · exact fun e' => e e'.symm
  clear hW2
  unfold apA
  gi_wp2_with gi_round_op_a
  unfold apB
  gi_wp2_with (first
    | (gi_at_builtin; refine wpListIn_append_own _ rfl _ _ 27 rfl w0.heap.size 3 i0 (.int .i64 0) 1 8 (by kernel_rfl) hi hz0 hz1 hz2 rfl (by decide) _ _ _ rfl (hrow2.alloc _) ⟨W2.heap.size, 0, none⟩ 1 1 [Value.int .i64 x] rfl rfl (cell_one_new _ _ _) (by simp [Value.oneCell']) (by omega) (by omega) (by have := hb2.size; simp; omega) ?_; intro v' w3 hown' hg3 hnil3
       have hv3 : w3.heap[Bs]? = some (.cells #[v] 27 (0, 0)) := (hg3.block Bs (by simp; omega) (ne_of hv2 (fun cur e => by cases e))).trans ((Below.heap_alloc _ _ Bs hBlt).trans hv2)
       obtain ⟨hc3, hf3⟩ := cell_of_box_a hv3
       obtain ⟨g', cap', cur', rfl, hbase', hgb', hr1, hr2, hr3, hr4⟩ : ∃ g' cap' cur', v' = .slice (some ⟨g', 0, none⟩) (ss.length + 1) cap' ∧ w0.heap.size ≤ g' ∧ w3.heap[g']? = some (.cells cur' 3 (0, 0)) ∧ ss.length + 1 ≤ cap' ∧ cap' ≤ maxLen ∧ cur'.size = cap' * 1 ∧ cur'.toList.take ((ss.length + 1) * 1) = ss.map (Value.int .i64) ++ [Value.int .i64 x] := by
         rcases hown'.2 with ⟨_, h0⟩ | h'
         · exact absurd h0 (by omega)
         · exact h'
       go_frame)
    | gi_round_op_a)
  have hg3' : (W2.alloc (.cells #[Value.int .i64 x] 3)).grownBy w3 v.ownBlock := hg3
  have hL3 : w3.heap[l]? = some (.loop { apR fn sv Bs D .ready none with state := .busy }) := (hg3'.block l (by simp; omega) (ne_of hL2 (fun cur e => by cases e))).trans ((Below.heap_alloc _ _ l hl2).trans hL2)
  have hK3 : w3.heap[D]? = some (.deferred (some [])) := (hg3'.block D (by simp; omega) (ne_of hK2 (fun cur e => by cases e))).trans ((Below.heap_alloc _ _ D hDlt).trans hK2)
  obtain ⟨w4, hw4⟩ : ∃ w4, w3.setCell ⟨Bs, 0, none⟩ (.slice (some ⟨g', 0, none⟩) (ss.length + 1) cap') = w4 := ⟨_, rfl⟩
  rw [hw4]
  have hg4 : w3.grownBy w4 (some Bs) := by rw [← hw4]; exact grownBy_setCell0_a _ _ _
  have hv4 : w4.heap[Bs]? = some (.cells #[.slice (some ⟨g', 0, none⟩) (ss.length + 1) cap'] 27 (0, 0)) := by rw [← hw4]; exact heap_setCell_box_a _ hv3
  have hL4 : w4.heap[l]? = some (.loop { apR fn sv Bs D .ready none with state := .busy }) := (hg4.block l (Array.getElem?_eq_some_iff.1 hL3).1 (fun e => hBl (by cases e; rfl))).trans hL3
  have hK4 : w4.heap[D]? = some (.deferred (some [])) := (hg4.block D (Array.getElem?_eq_some_iff.1 hK3).1 (fun e => hDB (by cases e; rfl))).trans hK3
  have hrow4 := hown'.kept hg4 (ownsRow_ne_a hown' hv3 (fun cur e => by cases e))
  have hl4 : l < w4.heap.size := (Array.getElem?_eq_some_iff.1 hL4).1
  have hb3 : Below w0.heap.size w0 w3 := (hb2.alloc hb2.size _).grown hg3' (by have := hb2.size; simp; omega) (fun k e => (hrow2.lt k e).1)
  have hb4 : Below w0.heap.size w0 w4 := hb3.grown hg4 hb3.size (fun k e => by cases e; exact h0B)
  clear hw4
  refine ⟨_, _, run_endRound none hL4, rfl, ⟨⟨_, (World.putObj_heap_other hBl).trans hv4, ?_⟩, World.putObj_heap_same hl4, (World.putObj_heap_other hDl).trans hK4, hb4.grown (grownBy_putObj_a _ _ _) hb4.size (fun k e => by cases e; exact h0l)⟩⟩
  have := hrow4.kept (grownBy_putObj_a w4 l (.loop { { apR fn sv Bs D .ready none with state := .busy } with state := if (none : Option Code).isNone then .ready else .done, pending := none })) (ownsRow_ne_a hrow4 hL4 (fun cur e => by cases e))
  simpa using this
set_option maxRecDepth 100000 in
set_option maxHeartbeats 2000000 in
theorem appendSeq_in (F : Fence) (n : Nat) (h11 : F.fn 136) (h7 : F.fn 124) (hro : F.round = none) (hn : 4 ≤ n) (Bv : Nat) (p : Option Addr) (len cap : Nat) (zs : List Int) (hlen : len = zs.length) (hreach : len ≤ 1000000) (w : World)
    (hBv : w.cell? ⟨Bv, 0, none⟩ = some (.slice p len cap)) (hBl : Bv < w.heap.size) (hz : zs = [] ∨ ∃ b off, p = some ⟨b, off, none⟩ ∧ b < w.heap.size ∧ ∀ j, j < len → w.cell? ⟨b, off + j, none⟩ = some (.int .i64 (zs[j]?.getD 0))) :
    CallsIn F n Try.prog 136 #[.slice none 0 0, .func (.func 124) #[] #[.pointer (some ⟨Bv, 0, none⟩)]] w fun e w' => ∃ v : Value, e = .returned v ∧ w'.ownsRow w.heap.size 3 1 v zs.length (zs.map (Value.int .i64)) ∧ Below w.heap.size w w' := by
  have h1 : 1 ≤ n := by omega
  refine callsIn_of_wp_marks Try.func136 rfl h11 ?_ hro
  simp only [Try.ntmps136, List.size_toArray, List.length_cons, List.length_nil, Nat.reduceAdd, Nat.reduceSub, Array.replicate_succ, Array.replicate_zero, List.push_toArray, List.append_toArray, List.nil_append, List.cons_append]
  gi_wp2
  refine wpIn_rangeFunc ?_
  intro fn hfn
  rw [hro]
  obtain ⟨sv, hsv⟩ : ∃ sv : Value, sv = .func (.func 124) #[] #[.pointer (some ⟨Bv, 0, none⟩)] := ⟨_, rfl⟩
  obtain ⟨W0, hW0⟩ : ∃ W0, w.alloc (.cells #[.slice none 0 0] 27) = W0 := ⟨_, rfl⟩
  have hs0 : W0.heap.size = w.heap.size + 1 := by rw [← hW0]; simp
  have hv0 : W0.heap[w.heap.size]? = some (.cells #[.slice none 0 0] 27 (0, 0)) := by rw [← hW0]; exact World.alloc_heap_new w _
  have hb0 : Below w.heap.size w W0 := by rw [← hW0]; exact (Below.refl _ w).alloc (Nat.le_refl _) _
  rw [hW0]
  obtain ⟨W1, hW1⟩ : ∃ W1, (W0.alloc (.deferred (some []))).alloc (.loop (apR fn sv w.heap.size W0.heap.size .ready none)) = W1 := ⟨_, rfl⟩
  have hold : ∀ k, k < W0.heap.size → W1.heap[k]? = W0.heap[k]? := fun k hk => by
    rw [← hW1]; exact (Below.heap_alloc _ _ k (by simp; omega)).trans (Below.heap_alloc _ _ k hk)
  have hb1 : Below w.heap.size w W1 := by rw [← hW1]; exact (hb0.alloc hb0.size _).alloc (by have := hb0.size; simp; omega) _
  have hs1 : W1.heap.size = W0.heap.size + 2 := by rw [← hW1]; simp
  have hM : ApAt w fn sv w.heap.size (W0.heap.size + 1) W0.heap.size [] W1 :=
    ⟨⟨_, (hold w.heap.size (by omega)).trans hv0, ⟨rfl, .inl ⟨rfl, rfl⟩⟩⟩,
     by rw [← hW1]; have := World.alloc_heap_new (W0.alloc (.deferred (some []))) (.loop (apR fn sv w.heap.size W0.heap.size .ready none)); rwa [World.size_alloc] at this,
     by rw [← hW1]; exact (Below.heap_alloc _ _ _ (by simp)).trans (World.alloc_heap_new W0 _), hb1⟩
  refine ⟨W0.heap.size + 1, [{ target := .collected W0.heap.size, args := #[] }], W1, { target := .fn (.func 124) #[.pointer (some ⟨Bv, 0, none⟩)], args := #[.func (.yield (W0.heap.size + 1)) #[] #[]] }, W1, 124,
    #[.func (.yield (W0.heap.size + 1)) #[] #[]] ++ #[.pointer (some ⟨Bv, 0, none⟩)], W1, ?_, ?_, ?_, ?_, fun _ => h1, ?_⟩
  · rw [← hW1, hsv]; exact run_enterLoop_outer _ _ _ _ _
  · simp [resolve, go_sem]
  · intro f' hf'; simp [Target.leads] at hf'; subst hf'; exact h7
  · simp [invoke, go_sem, enters_of Try.func124 (by kernel_rfl) rfl]
  · have hcB : ∀ W, Below w.heap.size w W → W.cell? ⟨Bv, 0, none⟩ = some (.slice p len cap) := fun W hW => (hW.cell (p := ⟨Bv, 0, none⟩) hBl).trans hBv
    have hgo : CallsIn F (n - 1) Try.prog 124 #[.func (.yield (W0.heap.size + 1)) #[] #[], .pointer (some ⟨Bv, 0, none⟩)] W1 fun e W' => (∃ v, e = .returned v) ∧ ApAt w fn sv w.heap.size (W0.heap.size + 1) W0.heap.size zs W' := by
      rcases hz with hz | ⟨b, off, rfl, hb, hc⟩
      · subst hz
        obtain rfl : len = 0 := by simpa using hlen
        exact vals1_nil F (n - 1) h7 hro _ Bv cap p _ W1 (hcB W1 hb1) hM
      · refine vals1_in F (n - 1) h7 hro (by omega) _ Bv b off len cap zs hlen hreach _ (fun pre W hW j hj => (hW.below.cell (p := ⟨b, off + j, none⟩) hb).trans (hc j hj)) (fun pre x W hJ hl => ?_) W1 (hcB W1 hb1) hM
        exact apYield F (n - 1 - 1) w fn hfn _ w.heap.size (W0.heap.size + 1) W0.heap.size (by omega) (by omega) (by omega) (Nat.le_refl _) (by omega) len (by simp only [maxLen]; omega) (by omega) pre x W hJ hl
    refine hgo.mono ?_
    rintro e W2 ⟨⟨v0, rfl⟩, h2⟩
    obtain ⟨v, hv, hrow⟩ := h2.box
    have hend := run_endLoop (P := Try.prog) h2.L (by simp [apR])
    obtain ⟨W3, hW3⟩ : ∃ W3, W2.putObj (W0.heap.size + 1) (.loop { apR fn sv w.heap.size W0.heap.size .ready none with state := .exhausted }) = W3 := ⟨_, rfl⟩
    rw [hW3] at hend
    have hg3 : W2.grownBy W3 (some (W0.heap.size + 1)) := by rw [← hW3]; exact grownBy_putObj_a _ _ _
    have hv3 : W3.heap[w.heap.size]? = some (.cells #[v] 27 (0, 0)) := by rw [← hW3]; exact (World.putObj_heap_other (by omega)).trans hv
    have hK3 : W3.heap[W0.heap.size]? = some (.deferred (some [])) := by rw [← hW3]; exact (World.putObj_heap_other (by omega)).trans h2.K
    have hrow3 := hrow.kept hg3 (ownsRow_ne_a hrow h2.L (fun cur e => by cases e))
    have hb3 : Below w.heap.size w W3 := h2.below.grown hg3 h2.below.size (fun k e => by cases e; omega)
    obtain ⟨hc3, hf3⟩ := cell_of_box_a hv3
    clear hW3
    refine ⟨none, W3, hend, ?_⟩
    gi_wp2
    rw [← hs0]
    refine ⟨by simp, .inl ⟨_, _, rfl, run_takeDeferred hK3, ?_⟩⟩
    exact ⟨_, results_tmp rfl _ _ _, v, rfl, hrow3.kept (grownBy_putObj_a _ _ _) (ownsRow_ne_a hrow3 hK3 (fun cur e => by cases e)), hb3.grown (grownBy_putObj_a _ _ _) hb3.size (fun k e => by cases e; omega)⟩
end
theorem k_AppendSeq {S : Nat → Prop} {h : Heap} {b : Nat} {s : Sl} {xs : List Int} (V : IsVar h b [s.v]) (H : RdI S h s xs) (hn : xs.length ≤ 1000000) (K : Value → Heap → Prop) (HK : ∀ t h', OwI h' (Iv h.size h'.size) t xs → Fr No h h' → K t.v h') : callM Try.prog 136 #[nilSl.v, .func (.func 124) #[] #[VP b 0]] h K := by
  refine ⟨fun w hw => .inr ⟨136, _, w, Go.Proofs.enters_of Try.func136 (by kernel_rfl) rfl _ _, rfl, ?_⟩⟩
  subst hw
  obtain ⟨T, hT⟩ := V
  have hb : b < w.heap.size := (Array.getElem?_eq_some_iff.1 hT).1
  have hl := H.len
  refine (callsIn_wide.1 (appendSeq_in Fence.wide 4 trivial trivial rfl (Nat.le_refl _) b s.a s.n s.c xs hl (by omega) w (by simp [World.cell?, hT]) hb ?_)).mono ?_
  · by_cases h0 : xs = []
    · exact .inl h0
    · have hpos : 0 < xs.length := List.length_pos_iff.2 h0
      obtain ⟨a, ha, _, hc⟩ := RdV.cell H 0 (by simpa using hpos)
      have hsp : a.spot = none := by
        cases hs : a.spot with
        | none => rfl
        | some sp => exfalso; unfold hcell at hc; simp [Addr.add, hs] at hc; split at hc <;> simp at hc
      obtain ⟨g, o, q⟩ := a
      simp only at hsp
      subst hsp
      refine .inr ⟨g, o, ha, ?_, fun j hj => ?_⟩
      · have := hcell_lt hc; rw [add_block] at this; exact this
      · obtain ⟨a', ha', _, hc'⟩ := RdV.cell H j (by simp; omega)
        rw [ha] at ha'
        cases ha'
        rw [add_mk] at hc'
        rw [cell_eq, hc']
        simp [List.getElem?_eq_getElem (show j < xs.length by omega)]
  · rintro e w' ⟨v, rfl, hrow, hbl⟩
    have hfr : Fr No w.heap w'.heap := ⟨hbl.size, fun k hk _ => hbl.block k hk⟩
    refine ⟨v, rfl, ⟨hbl.os, hbl.tape, hbl.output⟩, ?_⟩
    rcases hrow.2 with ⟨rfl, h0⟩ | ⟨g, cap, cur, rfl, hg, hgb, r1, r2, r3, r4⟩
    · have : xs = [] := List.eq_nil_of_length_eq_zero h0
      subst this
      exact HK nilSl _ (Ow.nil _ _ _ _) hfr
    · refine HK ⟨some ⟨g, 0, none⟩, xs.length, cap⟩ _ ⟨by simp, .inr ⟨g, 0, cur, rfl, ⟨hg, (Array.getElem?_eq_some_iff.1 hgb).1⟩, hgb, r1, r2, by simp [r3], by simpa using r4⟩⟩ hfr
def SrtTo (ys : List Int) (i : Nat) : Prop := ∀ a b, a < b → b < i → ys.getD a 0 ≤ ys.getD b 0
def namesB (xs : List Int) (n : Int) : Bool := decide ((xs.length : Int) = n) && (xs.all (inR 0 (n - 1)) && decide xs.Nodup)
theorem getD_set' (ys : List Int) (j : Nat) (v : Int) (hj : j < ys.length) (b : Nat) : (ys.set j v).getD b 0 = if b = j then v else ys.getD b 0 := by
  rw [List.getD_eq_getElem?_getD, List.getElem?_set, List.getD_eq_getElem?_getD]
  by_cases h : j = b
  · subst h; rw [if_pos rfl, if_pos rfl]; simp [hj]
  · rw [if_neg h, if_neg (fun e => h e.symm)]
structure SrtAt (ys : List Int) (j i : Nat) : Prop where
  rest : ∀ a b, a < b → b ≤ i → a ≠ j → b ≠ j → ys.getD a 0 ≤ ys.getD b 0
  low : ∀ b, j < b → b ≤ i → ys.getD j 0 ≤ ys.getD b 0
theorem SrtTo.start {ys : List Int} {i : Nat} (h : SrtTo ys i) : SrtAt ys i i := ⟨fun a b h1 h2 h3 h4 => h a b h1 (by omega), fun b h1 h2 => by omega⟩
theorem SrtAt.stop {ys : List Int} {j i : Nat} (h : SrtAt ys j i) (hj : j = 0 ∨ ys.getD (j - 1) 0 ≤ ys.getD j 0) : SrtTo ys (i + 1) := by
  intro a b h1 h2
  by_cases ha : a = j
  · subst ha; exact h.low b h1 (by omega)
  by_cases hb : b = j
  · subst hb
    rcases hj with hj | hj
    · omega
    · by_cases e : a = b - 1
      · subst e; exact hj
      · have := h.rest a (b - 1) (by omega) (by omega) ha (by omega); omega
  · exact h.rest a b h1 (by omega) ha hb
theorem SrtAt.swap {ys : List Int} {j i : Nat} (h : SrtAt ys j i) (hj : 0 < j) (hl : j < ys.length) (hi : j ≤ i) (e : ys.getD j 0 < ys.getD (j - 1) 0) : SrtAt ((ys.set j (ys.getD (j - 1) 0)).set (j - 1) (ys.getD j 0)) (j - 1) i := by
  have g : ∀ b, ((ys.set j (ys.getD (j - 1) 0)).set (j - 1) (ys.getD j 0)).getD b 0 = if b = j - 1 then ys.getD j 0 else if b = j then ys.getD (j - 1) 0 else ys.getD b 0 := fun b => by
    rw [getD_set' _ _ _ (by simp; omega), getD_set' _ _ _ hl]
  refine ⟨fun a b h1 h2 h3 h4 => ?_, fun b h1 h2 => ?_⟩
  · rw [g, g, if_neg h3, if_neg h4]
    by_cases ha : a = j
    · subst ha
      rw [if_pos rfl, if_neg (by omega)]
      exact h.rest (a - 1) b (by omega) h2 (by omega) (by omega)
    · by_cases hb : b = j
      · subst hb
        rw [if_neg ha, if_pos rfl]
        exact h.rest a (b - 1) (by omega) (by omega) ha (by omega)
      · rw [if_neg ha, if_neg hb]; exact h.rest a b h1 h2 ha hb
  · rw [g, g, if_pos rfl, if_neg (by omega)]
    by_cases hb : b = j
    · subst hb; rw [if_pos rfl]; omega
    · rw [if_neg hb]; exact h.low b (by omega) h2
theorem k_LessI (x y : Int) (h : Heap) (K : Value → Heap → Prop) (HK : K (VB (decide (x < y))) h) : callM Try.prog 150 #[VI x, VI y] h K := by
  refine v150 x y h K (v162 x h _ ⟨_, rfl, .nil, fun e => ?_, fun _ => HK⟩)
  simp at e
theorem k_insertionSort {F : Nat → Prop} {h : Heap} {s : Sl} {xs : List Int} (H : OwI h F s xs) (hn : xs.length ≤ 12) (K : Value → Heap → Prop) (HK : ∀ h' ys, ys.Perm xs → SrtTo ys xs.length → OwI h' F s ys → Fr F h h' → K (.tuple #[]) h') : callM Try.prog 144 #[s.v, VI 0, VI (s.n : Int)] h K := by
  have hl : s.n = xs.length := RdI.len H.rdF
  refine v144 s 0 s.n h K ?_
  have hw : w64 (0 + 1) = 1 := w64_eq _ (by omega) (by omega)
  refine ⟨fun n i h' => ∃ ys, 1 ≤ i ∧ (i ≤ xs.length ∨ xs.length = 0) ∧ (n : Int) = 13 - i ∧ ys.Perm xs ∧ SrtTo ys i.toNat ∧ OwI h' F s ys ∧ Fr F h h', ⟨12, by rw [hw]; exact ⟨xs, by omega, by omega, by omega, .refl _, fun a b _ hb => by simp at hb; omega, H, Fr.refl _ _⟩⟩, ?_⟩
  rintro n i h1 ⟨ys, i0, i1, i2, p, so, o, f⟩ hL
  have yl := p.length_eq
  refine ⟨fun e => ?_, fun e => ?_⟩
  · simp only [decide_eq_true_eq] at e
    have hi : i < (xs.length : Int) := by omega
    refine ⟨fun m j h' => ∃ zs, 0 ≤ j ∧ j ≤ i ∧ (m : Int) = j ∧ zs.Perm xs ∧ SrtAt zs j.toNat i.toNat ∧ OwI h' F s zs ∧ Fr F h h', ⟨i.toNat, ys, by omega, by omega, by omega, p, so.start, o, f⟩, ?_⟩
    rintro m j h2 ⟨zs, j0, j1, j2, q, sa, o2, f2⟩ hL2
    have zl := q.length_eq
    have done : SrtTo zs (i.toNat + 1) → ∃ m, m < n ∧ (fun (n : Nat) (i : Int) (h' : Heap) => ∃ ys, 1 ≤ i ∧ (i ≤ xs.length ∨ xs.length = 0) ∧ (n : Int) = 13 - i ∧ ys.Perm xs ∧ SrtTo ys i.toNat ∧ OwI h' F s ys ∧ Fr F h h') m (w64 (i + 1)) h2 := fun hs => by
      rw [w64_eq _ (by omega) (by omega)]
      exact ⟨n - 1, by omega, zs, by omega, by omega, by omega, q, by rw [toNat_succ (by omega)]; exact hs, o2, f2⟩
    refine ⟨fun e2 => ?_, fun e2 => ?_⟩
    · simp only [decide_eq_true_eq] at e2
      rw [w64_eq _ (by omega) (by omega)]
      have R : RdI F h2 s zs := o2.rdF
      have hj : j < (zs.length : Int) := by omega
      refine ⟨R.inb j0 hj, _, R.get j0 hj, R.inb (by omega) (by omega), _, R.get (by omega) (by omega), k_LessI _ _ _ _ ⟨_, rfl, hL2, fun e3 => ?_, fun e3 => done (sa.stop (.inr ?_))⟩⟩
      · simp only [decide_eq_true_eq] at e3
        obtain ⟨w1, w2, w3⟩ := o2.store1 j0 (by omega) (VI (zs[(j - 1).toNat]'(by omega)))
        rw [← List.map_set] at w2
        obtain ⟨x1, x2, x3⟩ := Ow.store1 w2 (i := j - 1) (by omega) (by omega) (VI (zs[j.toNat]'(by omega)))
        rw [← List.map_set] at x2
        refine ⟨R.inb (by omega) (by omega), _, R.get (by omega) (by omega), R.inb j0 hj, _, R.get j0 hj, R.inb j0 hj, w1, .nil, ?_⟩
        rintro h4 rfl hL4
        refine ⟨R.inb (by omega) (by omega), x1, .nil, ?_⟩
        rintro h5 rfl hL5
        have g1 := getD_getI (xs := zs) (i := j.toNat) (by omega)
        have g2 := getD_getI (xs := zs) (i := (j - 1).toNat) (by omega)
        have ej : (j - 1).toNat = j.toNat - 1 := by omega
        refine ⟨m - 1, by omega, _, by omega, by omega, by omega, (List.set_set_perm (i := j.toNat) (j := (j - 1).toNat) (by omega) (by omega)).trans q, ?_, x2, f2.trans ((w3.trans x3).mono fun k _ hk => (o2.foot hk).1)⟩
        have := sa.swap (by omega) (by omega) (by omega) (by rw [← ej, g1, g2]; exact e3)
        rw [← ej, g1, g2] at this
        exact this
      · simp only [decide_eq_false_iff_not] at e3
        have g1 := getD_getI (xs := zs) (i := j.toNat) (by omega)
        have g2 := getD_getI (xs := zs) (i := (j - 1).toNat) (by omega)
        have ej : (j - 1).toNat = j.toNat - 1 := by omega
        rw [← ej, g1, g2]
        omega
    · simp only [decide_eq_false_iff_not] at e2
      exact done (sa.stop (.inl (by omega)))
  · simp only [decide_eq_false_iff_not] at e
    exact HK h1 ys p (fun a b h1 h2 => so a b h1 (by omega)) o f
theorem k_pdqsort {F : Nat → Prop} {h : Heap} {s : Sl} {xs : List Int} (H : OwI h F s xs) (hn : xs.length ≤ 12) (l : Int) (K : Value → Heap → Prop) (HK : ∀ h' ys, ys.Perm xs → SrtTo ys xs.length → OwI h' F s ys → Fr F h h' → K (.tuple #[]) h') : callM Try.prog 137 #[s.v, VI 0, VI (s.n : Int), VI l] h K := by
  have hl : s.n = xs.length := RdI.len H.rdF
  refine v137 s 0 s.n l h K ⟨fun n a b c d e h' => n = 0 ∧ a = 0 ∧ b = s.n ∧ h' = h, ⟨0, rfl, rfl, rfl, rfl⟩, ?_⟩
  rintro n a b c d e h' ⟨rfl, rfl, rfl, rfl⟩ hL
  refine ⟨fun _ => k_insertionSort H hn _ fun h' ys p q o f => ⟨.nil, HK h' ys p q o f⟩, fun e => ?_⟩
  rw [w64_eq _ (by omega) (by omega)] at e
  simp only [decide_eq_false_iff_not] at e
  omega
theorem pop_sidx {P : Program} {t : TypeId} (ht : P.underlying t = some .string) {K : Value → Prop} (k : IntKind) (s : ByteArray) (i : Int) (h0 : 0 ≤ i) (h1 : i.toNat < s.size) (H : K (.int .u8 (s[i.toNat]'h1).toNat)) : pop P (Instr.index t (.string s) (.int k i)) K :=
  .mk' (fun w => by
    have hu := run_underlying' ht w
    have e : s[i.toNat]? = some (s[i.toNat]'h1) := by simp [getElem?_pos s i.toNat h1]
    unfold Instr.index
    simp [asIntOf, go_sem, hu, h0, e]) H
set_option maxRecDepth 100000 in
theorem k_Len64 (x : Int) (h0 : 0 ≤ x) (h1 : x ≤ 12) (h : Heap) (K : Value → Heap → Prop) (HK : ∀ n, K (VI n) h) : callM Try.prog 154 #[Value.int .u64 x] h K := by
  refine v154 x h K ⟨fun a b h' => x = a ∧ h = h', ⟨fun e => by simp at e; omega, fun _ => ⟨rfl, rfl⟩⟩, ?_⟩
  rintro a b h1' ⟨rfl, rfl⟩ hL
  refine ⟨fun a b h' => x = a ∧ h = h', ⟨fun e => by simp at e; omega, fun _ => ⟨rfl, rfl⟩⟩, ?_⟩
  rintro a b h1' ⟨rfl, rfl⟩ hL
  refine ⟨fun a b h' => x = a ∧ h = h', ⟨fun e => by simp at e; omega, fun _ => ⟨rfl, rfl⟩⟩, ?_⟩
  rintro a b h1' ⟨rfl, rfl⟩ hL
  refine rop_conv (k := .u64) (k' := .u8) (by kernel_rfl) (by kernel_rfl) _ ⟨_, rfl, ?_⟩
  have hw : IntKind.u8.wrap x = x := by simp [IntKind.wrap, IntKind.bits, IntKind.signed]; omega
  rw [hw]
  refine pop_sidx (by kernel_rfl) _ _ x h0 (by show x.toNat < 256; omega) ⟨_, rfl, rop_conv (k := .u8) (k' := .i64) (by kernel_rfl) (by kernel_rfl) _ ⟨_, rfl, HK _⟩⟩
theorem k_SortI {F : Nat → Prop} {h : Heap} {s : Sl} {xs : List Int} (H : OwI h F s xs) (hn : xs.length ≤ 12) (K : Value → Heap → Prop) (HK : ∀ h' ys, ys.Perm xs → SrtTo ys xs.length → OwI h' F s ys → Fr F h h' → K (.tuple #[]) h') : callM Try.prog 123 #[s.v] h K := by
  have hl : s.n = xs.length := RdI.len H.rdF
  refine v123 s h K (rop_conv (k := .i64) (k' := .u64) (by kernel_rfl) (by kernel_rfl) _ ⟨_, rfl, ?_⟩)
  have hw : IntKind.u64.wrap (s.n : Int) = s.n := by simp [IntKind.wrap, IntKind.bits, IntKind.signed]; omega
  rw [hw]
  refine v138 _ h _ (k_Len64 _ (by omega) (by omega) _ _ fun n => ⟨n, rfl, .nil, n, rfl, .nil, ?_⟩)
  exact k_pdqsort H hn n _ fun h' ys p q o f => ⟨.nil, HK h' ys p q o f⟩
theorem k_SortedI {S : Nat → Prop} {h : Heap} {s : Sl} {xs : List Int} (H : RdI S h s xs) (hn : xs.length ≤ 12) (K : Value → Heap → Prop) (HK : ∀ t h' ys, ys.Perm xs → SrtTo ys xs.length → OwI h' (Iv h.size h'.size) t ys → Fr No h h' → K t.v h') {b : Nat} (V : IsVar h b [s.v]) : callM Try.prog 105 #[.func (.func 124) #[] #[VP b 0]] h K := by
  refine v105 _ h K (v122 _ h _ (k_AppendSeq V H (by omega) _ fun t h1 o1 f1 => ⟨t, rfl, .nil, t, rfl, .nil, ?_⟩))
  refine k_SortI o1 hn _ fun h2 ys p q o2 f2 => ⟨.nil, HK t h2 ys p q ?_ (f1.ivFresh f2 (Nat.le_refl _))⟩
  have := f2.size
  exact Ow.ivs o2 (Nat.le_refl _) this
theorem srt_ge {ys : List Int} (hs : SrtTo ys ys.length) (hnd : ys.Nodup) (h0 : ∀ y, y ∈ ys → 0 ≤ y) : ∀ i, i < ys.length → (i : Int) ≤ ys.getD i 0 := by
  intro i
  induction i with
  | zero => intro hi; exact h0 _ (by rw [getD_getI hi]; exact List.getElem_mem hi)
  | succ i ih =>
    intro hi
    have h1 := ih (by omega)
    have h2 := hs i (i + 1) (by omega) hi
    have h3 : ys.getD i 0 ≠ ys.getD (i + 1) 0 := fun e => by
      rw [getD_getI (by omega), getD_getI hi] at e
      unfold List.Nodup at hnd
      rw [List.pairwise_iff_getElem] at hnd
      exact hnd i (i + 1) (by omega) hi (by omega) e
    omega
theorem srt_le {ys : List Int} {n : Nat} (hn : ys.length = n) (hs : SrtTo ys ys.length) (hnd : ys.Nodup) (h0 : ∀ y, y ∈ ys → y ≤ (n : Int) - 1) : ∀ d i, i + d + 1 = n → ys.getD i 0 ≤ (i : Int) := by
  intro d
  induction d with
  | zero =>
    intro i hi
    have := h0 (ys.getD i 0) (by rw [getD_getI (by omega)]; exact List.getElem_mem _)
    omega
  | succ d ih =>
    intro i hi
    have h1 := ih (i + 1) (by omega)
    have h2 := hs i (i + 1) (by omega) (by omega)
    have h3 : ys.getD i 0 ≠ ys.getD (i + 1) 0 := fun e => by
      rw [getD_getI (by omega), getD_getI (by omega)] at e
      unfold List.Nodup at hnd
      rw [List.pairwise_iff_getElem] at hnd
      exact hnd i (i + 1) (by omega) (by omega) (by omega) e
    omega
theorem names_srt {xs ys : List Int} (p : ys.Perm xs) (hs : SrtTo ys xs.length) : (∀ i, i < ys.length → ys.getD i 0 = (i : Int)) ↔ (xs.all (inR 0 ((xs.length : Int) - 1)) && decide xs.Nodup) = true := by
  have hl := p.length_eq
  rw [← hl] at hs
  rw [Bool.and_eq_true, decide_eq_true_eq, List.all_eq_true]
  constructor
  · intro h
    refine ⟨fun x hx => ?_, p.nodup_iff.1 ?_⟩
    · obtain ⟨i, hi, e⟩ := List.getElem_of_mem (p.mem_iff.2 hx)
      have := h i hi
      rw [getD_getI hi, e] at this
      rw [inR_iff]
      omega
    · unfold List.Nodup
      rw [List.pairwise_iff_getElem]
      intro i j hi hj hij e
      have h1 := h i hi
      have h2 := h j hj
      rw [getD_getI hi] at h1
      rw [getD_getI hj] at h2
      omega
  · rintro ⟨h1, h2⟩ i hi
    have hnd := p.nodup_iff.2 h2
    have hr : ∀ y, y ∈ ys → 0 ≤ y ∧ y ≤ (xs.length : Int) - 1 := fun y hy => by
      have := h1 y (p.mem_iff.1 hy)
      rwa [inR_iff] at this
    have a := srt_ge hs hnd (fun y hy => (hr y hy).1) i hi
    have b := srt_le hl hs hnd (fun y hy => (hr y hy).2) (xs.length - 1 - i) i (by omega)
    omega
theorem k_areNames {S S' : Nat → Prop} {h : Heap} {g s : Sl} {xss : List (List Int)} {xs : List Int} (G : RdR S h g xss) (H : RdI S' h s xs) (hg : xss.length ≤ 12) (K : Value → Heap → Prop) (HK : ∀ h', Fr No h h' → K (VB (namesB xs xss.length)) h') : callM Try.prog 57 #[.agg #[g.v], s.v] h K := by
  refine v57 g s h K ⟨fun e b1 h1 hb1 f1 hL1 => ?_, fun e b1 h1 hb1 f1 hL1 => ?_⟩
  · have := HK h1 f1.in_nil
    rw [namesB, decide_eq_false, Bool.false_and] at this
    · exact this
    · have := not_t e; rw [G.len, H.len] at this; simpa using this
  have hl : xs.length = xss.length := by have := not_f e; rw [G.len, H.len] at this; simp at this; omega
  have f1 := f1.in_nil
  refine v106 s h1 _ fun b2 h2 hb2 f2 hL2 => ⟨_, rfl, hL1.of_no f2.in_nil, ?_⟩
  have f2 := f2.in_nil
  refine k_SortedI ((H.no f1).no f2) (by omega) _ (fun t h3 ys p q o3 f3 => ⟨t, rfl, (hL1.of_no f2).of_no f3, ?_⟩) hL2.head
  have f03 := (f1.no_trans f2).no_trans f3
  have pl := p.length_eq
  have R : RdI (Iv h2.size h3.size) h3 t ys := o3.rdF
  have key := names_srt p q
  have hkn : namesB xs xss.length = (xs.all (inR 0 ((xs.length : Int) - 1)) && decide xs.Nodup) := by
    rw [namesB, decide_eq_true (by omega), Bool.true_and, hl]
  refine ⟨fun n i h' => h' = h3 ∧ 0 ≤ i ∧ i + n = (ys.length : Int) ∧ ∀ j : Nat, (j : Int) < i → ys.getD j 0 = (j : Int), ⟨ys.length, rfl, by omega, by omega, fun j hj => by omega⟩, ?_⟩
  rintro n i h4 ⟨rfl, i0, i1, i2⟩ hL
  refine ⟨fun e => ?_, fun e => ?_⟩
  · have hi := R.lt e
    refine ⟨R.inb i0 hi, _, R.get i0 hi, fun e2 => ?_, fun e2 => ?_⟩
    · have := HK h4 f03
      rw [hkn] at this
      cases hb : (xs.all (inR 0 ((xs.length : Int) - 1)) && decide xs.Nodup) with
      | false => rw [hb] at this; exact this
      | true =>
        have := (key.2 hb) i.toNat (by omega)
        rw [getD_getI (by omega)] at this
        have e3 := not_t e2
        simp only [decide_eq_false_iff_not] at e3
        omega
    · have e3 := not_f e2
      simp only [decide_eq_true_eq] at e3
      rw [R.succ i0 hi]
      refine ⟨n - 1, by omega, rfl, by omega, by omega, fun j hj => ?_⟩
      by_cases h5 : (j : Int) < i
      · exact i2 j h5
      · have : j = i.toNat := by omega
        subst this
        rw [getD_getI (by omega)]
        omega
  · have hi := R.ge e
    have := HK h4 f03
    rw [hkn, key.1 fun j hj => i2 j (by omega)] at this
    exact this
theorem k_grNames {S : Nat → Prop} {h : Heap} {s : Sl} {xs : List Int} (H : RdI S h s xs) (n : Int) (h0 : 0 ≤ n) (h1 : n ≤ 1000) (K : Value → Heap → Prop) (HK : K (VB (namesB xs n)) h) : callM Try.prog 52 #[s.v, VI n] h K := by
  unfold namesB at HK
  refine v52 s n h K ⟨fun e => ?_, fun e => ?_⟩
  · have := not_t e; rw [H.len] at this
    simp only [decide_eq_false_iff_not] at this
    rw [decide_eq_false this, Bool.false_and] at HK; exact HK
  have e := not_f e
  rw [H.len] at e
  simp only [decide_eq_true_eq] at e
  rw [decide_eq_true e, Bool.true_and] at HK
  rw [w64_eq _ (by omega) (by omega)]
  refine k_spec_l1All H _ _ _ ⟨_, rfl, .nil, fun e2 => ?_, fun e2 => ?_⟩
  · rw [not_t e2, Bool.false_and] at HK; exact HK
  rw [not_f e2, Bool.true_and] at HK
  refine ⟨fun m i h' => h' = h ∧ 0 ≤ i ∧ i + m = (xs.length : Int) ∧ (xs.take i.toNat).Nodup, ⟨xs.length, rfl, by omega, by omega, by simp⟩, ?_⟩
  rintro m i h2 ⟨rfl, i0, i1, i2⟩ hL
  refine ⟨fun e3 => ?_, fun e3 => ?_⟩
  · have hi := H.lt e3
    have hnl := H.len
    have hnc := RdV.cap H
    refine ⟨H.inb i0 hi, _, H.get i0 hi, ?_⟩
    refine pop_cut_h rIs .i64 i0 (by omega) ⟨_, rfl, ?_⟩
    have c := RdI.cut H (l := 0) (m := i.toNat) (by omega) (by omega)
    simp only [List.drop_zero, Nat.sub_zero] at c
    refine k_l1Has c _ _ ⟨_, rfl, hL, fun e4 => ?_, fun e4 => ?_⟩
    · rw [decide_eq_false] at HK
      · exact HK
      · simp only [decide_eq_true_eq] at e4
        intro hnd
        obtain ⟨j, hj, ej⟩ := List.getElem_of_mem e4
        simp only [List.length_take] at hj
        rw [List.getElem_take] at ej
        unfold List.Nodup at hnd
        rw [List.pairwise_iff_getElem] at hnd
        exact hnd j i.toNat (by omega) (by omega) (by omega) ej
    · simp only [decide_eq_false_iff_not] at e4
      rw [H.succ i0 hi]
      refine ⟨m - 1, by omega, rfl, by omega, by omega, ?_⟩
      rw [take_snoc xs i0 hi, List.nodup_append]
      exact ⟨i2, by simp, fun a ha b hb e5 => by simp only [List.mem_cons, List.not_mem_nil, or_false] at hb; rw [hb] at e5; exact e4 (e5 ▸ ha)⟩
  · have hi := H.ge e3
    rw [List.take_of_length_le (by omega)] at i2
    rw [decide_eq_true i2] at HK
    exact HK
theorem Red.snoc {g T : List (List Int)} {c : List Int} (hc : Cyc g T c) : ∀ {n : Nat} {S : List (List Int)}, Red g n S T → Red g (n + 1) S (popP T c)
  | 0, S, h => by rw [show S = T from h]; exact ⟨c, hc, rfl⟩
  | n + 1, S, h => by obtain ⟨d, hd, hr⟩ := h; exact ⟨d, hd, Red.snoc hc hr⟩
theorem names_all {xs : List Int} {n : Nat} (h : namesB xs n = true) : xs.length = n ∧ (∀ x, x ∈ xs → 0 ≤ x ∧ x < (n : Int)) ∧ xs.Nodup ∧ ∀ i : Nat, i < n → (i : Int) ∈ xs := by
  unfold namesB at h
  rw [Bool.and_eq_true, decide_eq_true_eq] at h
  obtain ⟨hl, h2⟩ := h
  have hl : xs.length = n := by omega
  have h3 := h2
  rw [Bool.and_eq_true, decide_eq_true_eq, List.all_eq_true] at h3
  refine ⟨hl, fun x hx => ?_, h3.2, fun i hi => ?_⟩
  · have := h3.1 x hx
    rw [inR_iff] at this
    omega
  · have p := List.mergeSort_perm xs (fun a b => decide (a ≤ b))
    have q := List.pairwise_mergeSort (le := fun a b : Int => decide (a ≤ b)) (fun a b c => by simp; omega) (fun a b => by simp; omega) xs
    have so : SrtTo (xs.mergeSort fun a b => decide (a ≤ b)) xs.length := fun a b h1 h2 => by
      rw [List.pairwise_iff_getElem] at q
      have hb : b < (xs.mergeSort fun a b => decide (a ≤ b)).length := by rw [p.length_eq]; exact h2
      have := q a b (by omega) hb h1
      rw [getD_getI (by omega), getD_getI hb]
      simpa using this
    have hm := (names_srt p so).2 (by rw [hl]; exact h2) i (by rw [p.length_eq]; omega)
    have hi2 : i < (xs.mergeSort fun a b => decide (a ≤ b)).length := by rw [p.length_eq]; omega
    rw [getD_getI hi2] at hm
    rw [← hm]
    exact p.mem_iff.1 (List.getElem_mem hi2)
def Way (g : List (List Int)) (p : Int) : Nat → Int → Prop
  | 0, q => p = q
  | k + 1, q => ∃ x, Way g p k x ∧ q ∈ g.getD x.toNat []
theorem Way.rng {g : List (List Int)} (hg : graphB g = true) {p : Int} (h0 : 0 ≤ p) (h1 : p < (g.length : Int)) : ∀ {k : Nat} {q : Int}, Way g p k q → 0 ≤ q ∧ q < (g.length : Int)
  | 0, q, h => by rw [← show p = q from h]; exact ⟨h0, h1⟩
  | k + 1, q, h => by
    obtain ⟨x, hx, hq⟩ := h
    have hr := Way.rng hg h0 h1 hx
    rw [getD_get (by omega)] at hq
    exact (graph_mem hg (List.getElem_mem (show x.toNat < g.length by omega))).2 q hq
theorem Way.trans {g : List (List Int)} {p q r : Int} {a : Nat} (h : Way g p a q) : ∀ {b : Nat}, Way g q b r → Way g p (a + b) r
  | 0, k => by rw [← show q = r from k]; exact h
  | b + 1, k => by
    obtain ⟨x, hx, hr⟩ := k
    exact ⟨x, h.trans hx, hr⟩
theorem set_getI {l : List Int} {i j : Nat} {v : Int} (hi : i < l.length) : (l.set i v).getD j 0 = if i = j then v else l.getD j 0 := by
  rw [List.getD_eq_getElem?_getD, List.getElem?_set, List.getD_eq_getElem?_getD]
  by_cases h : i = j
  · subst h; simp [hi]
  · simp [h]
structure BIn (x : Int) (qs far : List Int) (far' new : List Int) : Prop where
  len : far'.length = far.length
  old : ∀ y : Nat, 0 ≤ far.getD y 0 → far'.getD y 0 = far.getD y 0
  chg : ∀ y : Nat, far.getD y 0 < 0 → far'.getD y 0 = far.getD y 0 ∨ far'.getD y 0 = far.getD x.toNat 0 + 1 ∧ (y : Int) ∈ qs ∧ (y : Int) ∈ new
  met : ∀ y, y ∈ qs → 0 ≤ far'.getD y.toNat 0
  nw : ∀ z, z ∈ new → z ∈ qs ∧ far'.getD z.toNat 0 = far.getD x.toNat 0 + 1
  cnt : new.length + negs far' = negs far
theorem bfsIn_spec (x : Int) : ∀ (qs far out : List Int), (∀ q, q ∈ qs → 0 ≤ q ∧ q < (far.length : Int)) → 0 ≤ far.getD x.toNat 0 → ∃ far' new, bfsIn x qs (far, out) = (far', out ++ new) ∧ BIn x qs far far' new
  | [], far, out, _, _ => ⟨far, [], by rw [bfsIn, List.append_nil], rfl, fun _ _ => rfl, fun _ _ => .inl rfl, fun y hy => by simp at hy, fun z hz => by simp at hz, by simp⟩
  | q :: qs, far, out, hr, hx => by
    have hq := hr q List.mem_cons_self
    rw [bfsIn]
    by_cases hn : far.getD q.toNat 0 < 0
    · rw [if_pos hn]
      simp only
      have hqx : q.toNat ≠ x.toNat := fun e => by rw [e] at hn; omega
      have gx : (far.set q.toNat (far.getD x.toNat 0 + 1)).getD x.toNat 0 = far.getD x.toNat 0 := by rw [set_getI (by omega), if_neg hqx]
      obtain ⟨far', new, e, B⟩ := bfsIn_spec x qs (far.set q.toNat (far.getD x.toNat 0 + 1)) (out ++ [q]) (fun r h => by rw [List.length_set]; exact hr r (List.mem_cons_of_mem _ h)) (by rw [gx]; exact hx)
      have hc := negs_set (l := far) (i := q.toNat) (v := far.getD x.toNat 0 + 1) (by omega) (by rw [← getD_getI (by omega)]; exact hn) (by omega)
      have hqf : far'.getD q.toNat 0 = far.getD x.toNat 0 + 1 := by
        have := B.old q.toNat (by rw [set_getI (by omega), if_pos rfl]; omega)
        rw [this, set_getI (by omega), if_pos rfl]
      refine ⟨far', q :: new, by rw [e, List.append_assoc]; rfl, by rw [B.len, List.length_set], fun y hy => ?_, fun y hy => ?_, fun y hy => ?_, fun z hz => ?_, by have := B.cnt; simp only [List.length_cons]; omega⟩
      · have hne : q.toNat ≠ y := fun e => by rw [e] at hn; omega
        have := B.old y (by rw [set_getI (by omega), if_neg hne]; exact hy)
        rw [this, set_getI (by omega), if_neg hne]
      · by_cases hne : q.toNat = y
        · subst hne
          refine .inr ⟨hqf, ?_, ?_⟩ <;> rw [show ((q.toNat : Nat) : Int) = q by omega] <;> exact List.mem_cons_self
        · have g1 : (far.set q.toNat (far.getD x.toNat 0 + 1)).getD y 0 = far.getD y 0 := by rw [set_getI (by omega), if_neg hne]
          rcases B.chg y (by rw [g1]; exact hy) with h | ⟨h1, h2, h3⟩
          · exact .inl (h.trans g1)
          · exact .inr ⟨by rw [h1, gx], List.mem_cons_of_mem _ h2, List.mem_cons_of_mem _ h3⟩
      · rcases List.mem_cons.1 hy with rfl | hy
        · rw [hqf]; omega
        · exact B.met y hy
      · rcases List.mem_cons.1 hz with rfl | hz
        · exact ⟨List.mem_cons_self, hqf⟩
        · have := B.nw z hz
          exact ⟨List.mem_cons_of_mem _ this.1, by rw [this.2, gx]⟩
    · rw [if_neg hn]
      obtain ⟨far', new, e, B⟩ := bfsIn_spec x qs far out (fun r h => hr r (List.mem_cons_of_mem _ h)) hx
      refine ⟨far', new, e, B.len, B.old, fun y hy => ?_, fun y hy => ?_, fun z hz => ⟨List.mem_cons_of_mem _ (B.nw z hz).1, (B.nw z hz).2⟩, B.cnt⟩
      · rcases B.chg y hy with h | ⟨h1, h2, h3⟩
        · exact .inl h
        · exact .inr ⟨h1, List.mem_cons_of_mem _ h2, h3⟩
      · rcases List.mem_cons.1 hy with rfl | hy
        · rw [B.old _ (by omega)]; omega
        · exact B.met y hy
structure BQ (g : List (List Int)) (p : Int) (far qu : List Int) : Prop where
  len : far.length = g.length
  way : ∀ y : Nat, y < g.length → 0 ≤ far.getD y 0 → Way g p (far.getD y 0).toNat y
  lo : ∀ y : Nat, -1 ≤ far.getD y 0
  qin : ∀ x, x ∈ qu → 0 ≤ x ∧ x < (g.length : Int) ∧ 0 ≤ far.getD x.toNat 0
  ord : qu.Pairwise fun a b => far.getD a.toNat 0 ≤ far.getD b.toNat 0
  top : ∀ x r, qu = x :: r → ∀ y : Nat, y < g.length → far.getD y 0 ≤ far.getD x.toNat 0 + 1
  done : ∀ x : Nat, x < g.length → 0 ≤ far.getD x 0 → (x : Int) ∈ qu ∨ ∀ y, y ∈ g.getD x [] → 0 ≤ far.getD y.toNat 0 ∧ far.getD y.toNat 0 ≤ far.getD x 0 + 1
  home : far.getD p.toNat 0 = 0
  hi : ∀ y : Nat, y < g.length → far.getD y 0 + negs far < g.length
theorem bfs_done {g : List (List Int)} (hg : graphB g = true) {p : Int} : ∀ (f : Nat) (far qu : List Int), BQ g p far qu → qu.length + negs far ≤ f → BQ g p (bfsP g f far qu) []
  | 0, far, qu, B, h => by
    have : qu = [] := List.eq_nil_of_length_eq_zero (by omega)
    subst this
    exact B
  | f + 1, far, [], B, h => B
  | f + 1, far, x :: rest, B, h => by
    have hx := B.qin x List.mem_cons_self
    have hxl : x.toNat < g.length := by omega
    have hq : ∀ q, q ∈ g.getD x.toNat [] → 0 ≤ q ∧ q < (far.length : Int) := fun q hq => by
      rw [getD_get hxl] at hq
      rw [B.len]
      exact (graph_mem hg (List.getElem_mem hxl)).2 q hq
    obtain ⟨far', new, e, C⟩ := bfsIn_spec x (g.getD x.toNat []) far [] hq hx.2.2
    rw [bfsP, e]
    simp only [List.nil_append]
    have gx : far'.getD x.toNat 0 = far.getD x.toNat 0 := C.old _ hx.2.2
    have hgrow : ∀ y : Nat, 0 ≤ far.getD y 0 → far'.getD y 0 = far.getD y 0 := C.old
    have hle : ∀ y : Nat, y < g.length → far'.getD y 0 ≤ far.getD x.toNat 0 + 1 := fun y hy => by
      by_cases h0 : 0 ≤ far.getD y 0
      · rw [C.old y h0]; exact B.top x rest rfl y hy
      · rcases C.chg y (by omega) with h | ⟨h, _⟩
        · rw [h]; omega
        · omega
    have hrest : ∀ z, z ∈ rest → far'.getD z.toNat 0 = far.getD z.toNat 0 := fun z hz => C.old _ (B.qin z (List.mem_cons_of_mem _ hz)).2.2
    obtain ⟨o1, o2⟩ := List.pairwise_cons.1 B.ord
    refine bfs_done hg f far' (rest ++ new) ⟨by rw [C.len, B.len], fun y hy h0 => ?_, fun y => ?_, fun z hz => ?_, ?_, fun z r hz y hy => ?_, fun y hy h0 => ?_, ?_, fun y hy => ?_⟩ ?_
    · by_cases h1 : 0 ≤ far.getD y 0
      · rw [C.old y h1]; exact B.way y hy h1
      · rcases C.chg y (by omega) with h | ⟨h, h2, _⟩
        · rw [h] at h0; omega
        · rw [h, show (far.getD x.toNat 0 + 1).toNat = (far.getD x.toNat 0).toNat + 1 by omega]
          refine ⟨x, ?_, h2⟩
          have := B.way x.toNat hxl hx.2.2
          rwa [show ((x.toNat : Nat) : Int) = x by omega] at this
    · by_cases h1 : 0 ≤ far.getD y 0
      · rw [C.old y h1]; omega
      · have := B.lo y
        rcases C.chg y (by omega) with h | ⟨h, _⟩ <;> omega
    · rcases List.mem_append.1 hz with hz | hz
      · have := B.qin z (List.mem_cons_of_mem _ hz)
        exact ⟨this.1, this.2.1, by rw [hrest z hz]; exact this.2.2⟩
      · have a := C.nw z hz
        have b := hq z a.1
        rw [B.len] at b
        exact ⟨b.1, b.2, by rw [a.2]; omega⟩
    · rw [List.pairwise_append]
      refine ⟨o2.imp_of_mem fun {a b} ha hb hab => by rw [hrest a ha, hrest b hb]; exact hab, ?_, fun a ha b hb => ?_⟩
      · rw [List.pairwise_iff_getElem]
        intro i j hi hj _
        rw [(C.nw _ (List.getElem_mem hi)).2, (C.nw _ (List.getElem_mem hj)).2]
        omega
      · rw [hrest a ha, (C.nw b hb).2]
        have := B.qin a (List.mem_cons_of_mem _ ha)
        exact B.top x rest rfl a.toNat (by omega)
    · have hz1 : far.getD x.toNat 0 ≤ far'.getD z.toNat 0 := by
        have hzm : z ∈ rest ++ new := by rw [hz]; exact List.mem_cons_self
        rcases List.mem_append.1 hzm with h | h
        · rw [hrest z h]; exact o1 z h
        · rw [(C.nw z h).2]; omega
      have := hle y hy
      omega
    · by_cases hyx : (y : Int) = x
      · refine .inr fun z hz => ?_
        have hyx' : y = x.toNat := by omega
        rw [hyx'] at hz ⊢
        have := hq z hz
        rw [B.len] at this
        exact ⟨C.met z hz, by rw [gx]; exact hle z.toNat (by omega)⟩
      · by_cases h1 : 0 ≤ far.getD y 0
        · rcases B.done y hy h1 with h | h
          · rcases List.mem_cons.1 h with h | h
            · exact absurd h hyx
            · exact .inl (List.mem_append.2 (.inl h))
          · refine .inr fun z hz => ?_
            obtain ⟨a, b⟩ := h z hz
            rw [C.old _ a, C.old _ h1]
            exact ⟨a, b⟩
        · rcases C.chg y (by omega) with h | ⟨_, _, h⟩
          · rw [h] at h0; omega
          · exact .inl (List.mem_append.2 (.inr h))
    · rw [C.old _ (by rw [B.home]; omega)]; exact B.home
    · have hc := C.cnt
      by_cases h1 : 0 ≤ far.getD y 0
      · rw [C.old y h1]; have := B.hi y hy; omega
      · rcases C.chg y (by omega) with h | ⟨h, _, h3⟩
        · rw [h]; have := B.hi y hy; omega
        · have := List.length_pos_of_mem h3
          have := B.hi x.toNat hxl
          rw [h]; omega
    · have := C.cnt
      simp only [List.length_cons, List.length_append] at *
      omega
theorem far_bq {g : List (List Int)} (hg : graphB g = true) {p : Int} (h0 : 0 ≤ p) (h1 : p < (g.length : Int)) : BQ g p (farP g p) [] := by
  obtain ⟨b1, b2⟩ := bok0 (n := g.length) (p := p.toNat) (by omega)
  have gd : ∀ y : Nat, ((List.replicate g.length (-1 : Int)).set p.toNat 0).getD y 0 = if p.toNat = y then 0 else if y < g.length then -1 else 0 := fun y => by
    rw [set_getI (by simp; omega)]
    split
    · rfl
    · rw [List.getD_eq_getElem?_getD, List.getElem?_replicate]; split <;> rfl
  refine bfs_done hg g.length _ [p] ⟨by simp, fun y hy h => ?_, fun y => ?_, fun x hx => ?_, by simp, fun x r hx y hy => ?_, fun x hx h => ?_, ?_, fun y hy => ?_⟩ (by simp only [List.length_cons, List.length_nil]; omega)
  · rw [gd] at h ⊢
    split at h
    · rename_i e
      rw [if_pos e]
      show p = (y : Int)
      omega
    · simp at h
  · rw [gd]; split
    · omega
    · split <;> omega
  · simp only [List.mem_cons, List.not_mem_nil, or_false] at hx
    subst hx
    exact ⟨h0, h1, by rw [gd, if_pos rfl]; omega⟩
  · simp only [List.cons.injEq] at hx
    rw [← hx.1, gd, gd, if_pos rfl]
    split
    · omega
    · (try split) <;> omega
  · rw [gd] at h
    split at h
    · exact .inl (by simp; omega)
    · simp at h
  · rw [gd, if_pos rfl]
  · rw [gd]
    split
    · omega
    · (try split) <;> omega
theorem far_le {g : List (List Int)} (hg : graphB g = true) {p : Int} (h0 : 0 ≤ p) (h1 : p < (g.length : Int)) : ∀ {k : Nat} {q : Int}, Way g p k q → 0 ≤ (farP g p).getD q.toNat 0 ∧ (farP g p).getD q.toNat 0 ≤ k
  | 0, q, h => by rw [← show p = q from h, (far_bq hg h0 h1).home]; omega
  | k + 1, q, h => by
    obtain ⟨x, hx, hq⟩ := h
    obtain ⟨a, b⟩ := far_le hg h0 h1 hx
    have hr := hx.rng hg h0 h1
    rcases (far_bq hg h0 h1).done x.toNat (by omega) a with c | c
    · simp at c
    · have := c q hq
      omega
theorem far_way {g : List (List Int)} (hg : graphB g = true) {p q : Int} (h0 : 0 ≤ p) (h1 : p < (g.length : Int)) (q0 : 0 ≤ q) (q1 : q < (g.length : Int)) (h : 0 ≤ (farP g p).getD q.toNat 0) : Way g p ((farP g p).getD q.toNat 0).toNat q := by
  have := (far_bq hg h0 h1).way q.toNat (by omega) h
  rwa [show ((q.toNat : Nat) : Int) = q by omega] at this
theorem far_iff {g : List (List Int)} (hg : graphB g = true) {p q : Int} (h0 : 0 ≤ p) (h1 : p < (g.length : Int)) (q0 : 0 ≤ q) (q1 : q < (g.length : Int)) : 0 ≤ (farP g p).getD q.toNat 0 ↔ ∃ k, Way g p k q :=
  ⟨fun h => ⟨_, far_way hg h0 h1 q0 q1 h⟩, fun ⟨k, h⟩ => (far_le hg h0 h1 h).1⟩
theorem far_lo {g : List (List Int)} (hg : graphB g = true) {p : Int} (h0 : 0 ≤ p) (h1 : p < (g.length : Int)) (q : Nat) : -1 ≤ (farP g p).getD q 0 := (far_bq hg h0 h1).lo q
theorem far_eq {g g' : List (List Int)} (hg : graphB g = true) (hg' : graphB g' = true) {p q p' q' : Int} (h0 : 0 ≤ p) (h1 : p < (g.length : Int)) (q0 : 0 ≤ q) (q1 : q < (g.length : Int)) (h0' : 0 ≤ p') (h1' : p' < (g'.length : Int)) (q0' : 0 ≤ q') (q1' : q' < (g'.length : Int)) (hw : ∀ k, Way g p k q ↔ Way g' p' k q') : (farP g p).getD q.toNat 0 = (farP g' p').getD q'.toNat 0 := by
  have a1 := far_lo hg h0 h1 q.toNat
  have a2 := far_lo hg' h0' h1' q'.toNat
  by_cases h : 0 ≤ (farP g p).getD q.toNat 0
  · have w := (hw _).1 (far_way hg h0 h1 q0 q1 h)
    obtain ⟨b1, b2⟩ := far_le hg' h0' h1' w
    have w' := (hw _).2 (far_way hg' h0' h1' q0' q1' b1)
    obtain ⟨c1, c2⟩ := far_le hg h0 h1 w'
    omega
  · have : ¬ 0 ≤ (farP g' p').getD q'.toNat 0 := fun h' => h ((far_iff hg h0 h1 q0 q1).2 ⟨_, (hw _).2 (far_way hg' h0' h1' q0' q1' h')⟩)
    omega
theorem far_zero {g : List (List Int)} (hg : graphB g = true) {p q : Int} (h0 : 0 ≤ p) (h1 : p < (g.length : Int)) (q0 : 0 ≤ q) (q1 : q < (g.length : Int)) : (farP g p).getD q.toNat 0 = 0 ↔ p = q := by
  constructor
  · intro h
    have := far_way hg h0 h1 q0 q1 (by omega)
    rw [h] at this
    exact this
  · rintro rfl; exact (far_bq hg h0 h1).home
theorem far_hi {g : List (List Int)} (hg : graphB g = true) {p : Int} (h0 : 0 ≤ p) (h1 : p < (g.length : Int)) (q : Nat) (hq : q < g.length) : (farP g p).getD q 0 < g.length := by
  have := (far_bq hg h0 h1).hi q hq
  omega
def reachL (far : List Int) : Nat → List Int
  | 0 => []
  | i + 1 => reachL far i ++ (if 0 ≤ far.getD i 0 then [(i : Int)] else [])
def reachP (g : List (List Int)) (p : Int) : List Int := reachL (farP g p) g.length
theorem mem_reachL {far : List Int} {x : Int} : ∀ {n : Nat}, x ∈ reachL far n ↔ 0 ≤ x ∧ x < (n : Int) ∧ 0 ≤ far.getD x.toNat 0
  | 0 => by simp [reachL]; omega
  | n + 1 => by
    rw [reachL, List.mem_append, mem_reachL]
    by_cases h : 0 ≤ far.getD n 0
    · rw [if_pos h, List.mem_singleton]
      constructor
      · rintro (⟨a, b, c⟩ | rfl)
        · exact ⟨a, by omega, c⟩
        · exact ⟨by omega, by omega, by simpa using h⟩
      · rintro ⟨a, b, c⟩
        by_cases e : x = n
        · exact .inr e
        · exact .inl ⟨a, by omega, c⟩
    · rw [if_neg h]
      constructor
      · rintro (⟨a, b, c⟩ | h)
        · exact ⟨a, by omega, c⟩
        · simp at h
      · rintro ⟨a, b, c⟩
        refine .inl ⟨a, ?_, c⟩
        by_cases e : x = n
        · rw [show x.toNat = n by omega] at c; omega
        · omega
theorem reachL_len (far : List Int) : ∀ n, (reachL far n).length ≤ n
  | 0 => Nat.le_refl _
  | n + 1 => by have := reachL_len far n; rw [reachL, List.length_append]; split <;> simp <;> omega
theorem reachL_rise (far : List Int) : ∀ n, (reachL far n).Pairwise (· < ·)
  | 0 => .nil
  | n + 1 => by
    rw [reachL, List.pairwise_append]
    refine ⟨reachL_rise far n, ?_, fun a ha b hb => ?_⟩
    · split <;> simp
    · have := mem_reachL.1 ha
      split at hb
      · simp only [List.mem_singleton] at hb; omega
      · simp at hb
theorem reachL_cnt (far : List Int) : ∀ n, n ≤ far.length → (reachL far n).length = (far.take n).countP (fun x => decide (0 ≤ x))
  | 0, _ => by simp [reachL]
  | n + 1, h => by
    rw [reachL, List.length_append, reachL_cnt far n (by omega), List.take_succ_eq_append_getElem (by omega), List.countP_append, List.countP_singleton, getD_getI (by omega)]
    by_cases h : 0 ≤ far[n]
    · simp [h]
    · simp [h]
theorem mem_reach {g : List (List Int)} (hg : graphB g = true) {p : Int} (h0 : 0 ≤ p) (h1 : p < (g.length : Int)) {x : Int} : x ∈ reachP g p ↔ 0 ≤ x ∧ x < (g.length : Int) ∧ ∃ k, Way g p k x := by
  rw [reachP, mem_reachL]
  constructor
  · rintro ⟨a, b, c⟩; exact ⟨a, b, (far_iff hg h0 h1 a b).1 c⟩
  · rintro ⟨a, b, c⟩; exact ⟨a, b, (far_iff hg h0 h1 a b).2 c⟩
def wlP (g : List (List Int)) (p q : Int) : Int × Bool := if (graphB g && (inR 0 ((g.length : Int) - 1) p && inR 0 ((g.length : Int) - 1) q)) && decide (0 ≤ (farP g p).getD q.toNat 0) then ((farP g p).getD q.toNat 0, true) else (0, false)
def roP (g : List (List Int)) (p : Int) : List Int × Bool := if graphB g && inR 0 ((g.length : Int) - 1) p then (reachP g p, true) else ([], false)
theorem k_reachL {S : Nat → Prop} {h : Heap} {g : Sl} {xss : List (List Int)} (G : RdR S h g xss) (hg : graphB xss = true) {p : Int} (h0 : 0 ≤ p) (h1 : p < (xss.length : Int)) (K : Value → Heap → Prop) (HK : ∀ (t : Sl) (h' : Heap), OwI h' (Iv h.size h'.size) t (reachP xss p) → Fr No h h' → K t.v h') : callM Try.prog 69 #[.agg #[g.v], VI p] h K := by
  refine v69 g p h K fun b1 h1' hb1 f1 hL1 => ?_
  have f1 := f1.in_nil
  have hgl := graph_len hg
  have l1 : b1 < h1'.size := hL1.head.lt
  have z1 := f1.size
  refine eop_lit rIs (fun k => h1'.size ≤ k) (fun _ h => h) 0 (by omega) [] rfl rfl fun t h2 n2 c2 o2 f2 m2 _ => ⟨t, rfl, hL1.of_no f2, ?_⟩
  have z2 := f2.size
  refine k_lengths ((G.no f1).no f2) hg h0 h1 _ fun w h3 o3 fl f3 => ⟨w, rfl, (hL1.of_no f2).of_no f3, ?_⟩
  have z3 := f3.size
  have R3 : RdI (Iv h2.size h3.size) h3 w _ := Ow.rdI o3
  have o2' : OwI h3 (fun k => (Iv h1'.size h2.size k ∨ h3.size ≤ k)) t [] := (Ow.no o2 f3).mono fun k _ hk => by
    have := (o2.foot (by assumption)).2
    exact .inl ⟨hk, this⟩
  refine ⟨fun n x i h' => 0 ≤ i ∧ i + n = ((farP xss p).length : Int) ∧ OwI h' (fun k => Iv h1'.size h2.size k ∨ h3.size ≤ k) x (reachL (farP xss p) i.toNat) ∧ RdI (Iv h2.size h3.size) h' w (farP xss p) ∧ Fr (fun k => Iv h1'.size h2.size k ∨ h3.size ≤ k) h3 h' ∧ h3.size ≤ h'.size, ⟨(farP xss p).length, by omega, by omega, o2', R3, Fr.refl _ _, Nat.le_refl _⟩, ?_⟩
  rintro n x i h4 ⟨i0, i1, o4, R4, f4, z4⟩ hL4
  refine ⟨fun e => ?_, fun e => ?_⟩
  · have hi := R4.lt e
    have hci : ((i.toNat : Nat) : Int) = i := by omega
    have est : reachL (farP xss p) (i + 1).toNat = reachL (farP xss p) i.toNat ++ (if 0 ≤ (farP xss p)[i.toNat]'(by omega) then [i] else []) := by rw [toNat_succ i0, reachL, hci, getD_getI (by omega)]
    rw [R4.succ i0 hi]
    refine ⟨R4.inb i0 hi, _, R4.get i0 hi, fun c => ?_, fun c => ?_⟩
    · simp only [decide_eq_true_eq] at c
      refine eop_putI o4 (fun k hk => .inr (by omega)) hL4 (fun q hq hk => ?_) (by have := reachL_len (farP xss p) i.toNat; omega) (fun t2 h6 => ∃ m : Nat, m < n ∧ _) fun y h6 o6 f6 V6 => ?_
      · simp only [List.mem_cons, List.not_mem_nil, or_false] at hq
        subst hq
        simp only at hk
        rcases hk with e | e
        · have := e.1; omega
        · omega
      · have z6 := f6.size
        refine ⟨n - 1, by omega, by omega, by omega, by rw [est, if_pos c]; exact o6, R4.fr f6 fun k hk hk2 => ?_, f4.trans f6, by omega⟩
        have h1 := hk.1; have h2 := hk.2
        rcases hk2 with e | e
        · have := e.2; omega
        · omega
    · simp only [decide_eq_false_iff_not] at c
      exact ⟨n - 1, by omega, by omega, by omega, by rw [est, if_neg c, List.append_nil]; exact o4, R4, f4, z4⟩
  · have hi := R4.ge e
    rw [show i.toNat = xss.length by omega] at o4
    refine HK x h4 (o4.mono fun k hl hk => ?_) (((f1.no_trans f2).no_trans f3).fresh f4 fun k hk => ?_)
    · have := (o4.foot hl).2
      rcases hk with e | e
      · have := e.1; exact ⟨by omega, by omega⟩
      · exact ⟨by omega, by omega⟩
    · rcases hk with e | e
      · have := e.1; omega
      · omega
theorem k_grReach {S : Nat → Prop} {h : Heap} {g : Sl} {xss : List (List Int)} (G : RdR S h g xss) (hg : graphB xss = true) {p : Int} (h0 : 0 ≤ p) (h1 : p < (xss.length : Int)) (K : Value → Heap → Prop) (HK : ∀ (t : Sl) (h' : Heap), OwI h' (Iv h.size h'.size) t (reachP xss p) → Fr No h h' → K t.v h') : callM Try.prog 70 #[.agg #[g.v], VI p] h K := by
  refine v70 g p h K fun b1 h1' hb1 f1 hL1 => ?_
  have f1 := f1.in_nil
  have hgl := graph_len hg
  have l1 : b1 < h1'.size := hL1.head.lt
  have z1 := f1.size
  refine k_grFar (G.no f1) hg h0 h1 _ fun w h3 o3 fl f3 => ⟨w, rfl, hL1.of_no f3, ?_⟩
  have z3 := f3.size
  have R3 : RdI (Iv h1'.size h3.size) h3 w _ := Ow.rdI o3
  refine ⟨fun n x i h' => 0 ≤ i ∧ i + n = ((farP xss p).length : Int) ∧ OwI h' (fun k => h3.size ≤ k) x (reachL (farP xss p) i.toNat) ∧ RdI (Iv h1'.size h3.size) h' w (farP xss p) ∧ Fr (fun k => h3.size ≤ k) h3 h' ∧ h3.size ≤ h'.size, ⟨(farP xss p).length, by omega, by omega, Ow.nil _ _ _ _, R3, Fr.refl _ _, Nat.le_refl _⟩, ?_⟩
  rintro n x i h4 ⟨i0, i1, o4, R4, f4, z4⟩ hL4
  refine ⟨fun e => ?_, fun e => ?_⟩
  · have hi := R4.lt e
    have hci : ((i.toNat : Nat) : Int) = i := by omega
    have est : reachL (farP xss p) (i + 1).toNat = reachL (farP xss p) i.toNat ++ (if 0 ≤ (farP xss p)[i.toNat]'(by omega) then [i] else []) := by rw [toNat_succ i0, reachL, hci, getD_getI (by omega)]
    rw [R4.succ i0 hi]
    refine ⟨R4.inb i0 hi, _, R4.get i0 hi, fun c => ?_, fun c => ?_⟩
    · simp only [decide_eq_true_eq] at c
      refine eop_putI o4 (fun k hk => by omega) hL4 (fun q hq hk => ?_) (by have := reachL_len (farP xss p) i.toNat; omega) (fun t2 h6 => ∃ m : Nat, m < n ∧ _) fun y h6 o6 f6 V6 => ?_
      · simp only [List.mem_cons, List.not_mem_nil, or_false] at hq
        subst hq
        simp only at hk
        omega
      · have z6 := f6.size
        exact ⟨n - 1, by omega, by omega, by omega, by rw [est, if_pos c]; exact o6, R4.fr f6 fun k hk hk2 => by have := hk.2; omega, f4.trans f6, by omega⟩
    · simp only [decide_eq_false_iff_not] at c
      exact ⟨n - 1, by omega, by omega, by omega, by rw [est, if_neg c, List.append_nil]; exact o4, R4, f4, z4⟩
  · have hi := R4.ge e
    rw [show i.toNat = xss.length by omega] at o4
    exact HK x h4 (o4.mono fun k hl hk => ⟨by omega, (o4.foot hl).2⟩) ((f1.no_trans f3).fresh f4 fun k hk => by omega)
theorem k_WayLength {S : Nat → Prop} {h : Heap} {g : Sl} {xss : List (List Int)} (G : RdR S h g xss) (p q : Int) (K : Value → Heap → Prop) (HK : ∀ h', Fr No h h' → K (.tuple #[VI (wlP xss p q).1, VB (wlP xss p q).2]) h') : callM Try.prog 25 #[.agg #[g.v], VI p, VI q] h K := by
  refine v25 g p q h K fun b1 h1 hb1 f1 hL1 => ?_
  have f1 := f1.in_nil
  unfold wlP at HK
  refine eop_lit rIs (fun k => h1.size ≤ k) (fun _ h => h) 2 (by omega) [VI p, VI q] rfl rfl fun t h2 n2 c2 o2 f2 m2 _ => ⟨t, rfl, hL1.of_no f2, ?_⟩
  have o2 : RdI (fun k => h1.size ≤ k) h2 t [p, q] := o2.rdF
  refine k_has ((G.no f1).no f2) o2 _ fun h3 f3 => ⟨_, rfl, (hL1.of_no f2).of_no f3, fun e => ?_, fun e => ?_⟩
  all_goals simp only [List.all_cons, List.all_nil, Bool.and_true] at e
  · rw [not_t e, Bool.false_and] at HK
    exact HK _ ((f1.no_trans f2).no_trans f3)
  have e := not_f e
  have f13 := (f1.no_trans f2).no_trans f3
  rw [e, Bool.true_and] at HK
  rw [Bool.and_eq_true, Bool.and_eq_true, inR_iff, inR_iff] at e
  refine k_lengths (G.no f13) e.1 e.2.1.1 (by omega) _ fun w h4 o4 fl f4 => ⟨w, rfl, ((hL1.of_no f2).of_no f3).of_no f4, ?_⟩
  have R4 : RdI (Iv h3.size h4.size) h4 w _ := Ow.rdI o4
  rw [getD_getI (show q.toNat < (farP xss p).length by omega)] at HK
  refine ⟨R4.inb e.2.2.1 (by omega), _, R4.get e.2.2.1 (by omega), fun c => ?_, fun c => ?_⟩
  · simp only [decide_eq_true_eq] at c
    rw [decide_eq_false (by omega)] at HK
    exact HK _ (f13.no_trans f4)
  simp only [decide_eq_false_iff_not] at c
  rw [decide_eq_true (by omega)] at HK
  refine k_lengths ((G.no f13).no f4) e.1 e.2.1.1 (by omega) _ fun w h5 o5 fl f5 => ⟨w, rfl, (((hL1.of_no f2).of_no f3).of_no f4).of_no f5, ?_⟩
  have R5 : RdI (Iv h4.size h5.size) h5 w _ := Ow.rdI o5
  exact ⟨R5.inb e.2.2.1 (by omega), _, R5.get e.2.2.1 (by omega), HK _ ((f13.no_trans f4).no_trans f5)⟩
theorem k_spec_WayLength {S : Nat → Prop} {h : Heap} {g : Sl} {xss : List (List Int)} (G : RdR S h g xss) (p q : Int) (K : Value → Heap → Prop) (HK : ∀ h', Fr No h h' → K (.tuple #[VI (wlP xss p q).1, VB (wlP xss p q).2]) h') : callM Try.prog 26 #[.agg #[g.v], VI p, VI q] h K := by
  refine v26 g p q h K fun b1 h1 hb1 f1 hL1 => ?_
  have f1 := f1.in_nil
  unfold wlP at HK
  refine k_spec_grPlace (G.no f1) p _ fun h2 f2 => ⟨_, rfl, hL1.of_no f2, fun e => ?_, fun e => ?_⟩
  · rw [← Bool.and_assoc, not_t e, Bool.false_and, Bool.false_and] at HK
    exact HK _ (f1.no_trans f2)
  have e := not_f e
  have f02 := f1.no_trans f2
  rw [Bool.and_eq_true, inR_iff] at e
  refine k_spec_grPlace (G.no f02) q _ fun h3 f3 => ⟨_, rfl, (hL1.of_no f2).of_no f3, fun e2 => ?_, fun e2 => ?_⟩
  · have e2 := not_t e2
    rw [e.1, Bool.true_and] at e2
    rw [e2, Bool.and_false, Bool.and_false, Bool.false_and] at HK
    exact HK _ (f02.no_trans f3)
  have e2 := not_f e2
  have f13 := f02.no_trans f3
  rw [e.1, Bool.true_and] at e2
  rw [e.1, e2, (inR_iff (x := p)).2 e.2, Bool.true_and, Bool.true_and, Bool.true_and] at HK
  rw [inR_iff] at e2
  refine k_grFar (G.no f13) e.1 e.2.1 (by omega) _ fun w h4 o4 fl f4 => ⟨w, rfl, ((hL1.of_no f2).of_no f3).of_no f4, ?_⟩
  have R4 : RdI (Iv h3.size h4.size) h4 w _ := Ow.rdI o4
  rw [getD_getI (show q.toNat < (farP xss p).length by omega)] at HK
  refine ⟨R4.inb e2.1 (by omega), _, R4.get e2.1 (by omega), fun c => ?_, fun c => ?_⟩
  · simp only [decide_eq_true_eq] at c
    rw [decide_eq_false (by omega)] at HK
    exact HK _ (f13.no_trans f4)
  simp only [decide_eq_false_iff_not] at c
  rw [decide_eq_true (by omega)] at HK
  refine k_grFar ((G.no f13).no f4) e.1 e.2.1 (by omega) _ fun w h5 o5 fl f5 => ⟨w, rfl, (((hL1.of_no f2).of_no f3).of_no f4).of_no f5, ?_⟩
  have R5 : RdI (Iv h4.size h5.size) h5 w _ := Ow.rdI o5
  exact ⟨R5.inb e2.1 (by omega), _, R5.get e2.1 (by omega), HK _ ((f13.no_trans f4).no_trans f5)⟩
theorem k_ReachOf {S : Nat → Prop} {h : Heap} {g : Sl} {xss : List (List Int)} (G : RdR S h g xss) (p : Int) (K : Value → Heap → Prop) (HK : ∀ t h', OwI h' (Iv h.size h'.size) t (roP xss p).1 → Fr No h h' → K (.tuple #[t.v, VB (roP xss p).2]) h') : callM Try.prog 27 #[.agg #[g.v], VI p] h K := by
  refine v27 g p h K fun b1 h1 hb1 f1 hL1 => ?_
  have f1 := f1.in_nil
  unfold roP at HK
  refine eop_lit rIs (fun k => h1.size ≤ k) (fun _ h => h) 1 (by omega) [VI p] rfl rfl fun t h2 n2 c2 o2 f2 m2 _ => ⟨t, rfl, hL1.of_no f2, ?_⟩
  have o2 : RdI (fun k => h1.size ≤ k) h2 t [p] := o2.rdF
  refine k_has ((G.no f1).no f2) o2 _ fun h3 f3 => ⟨_, rfl, (hL1.of_no f2).of_no f3, fun e => ?_, fun e => ?_⟩
  all_goals simp only [List.all_cons, List.all_nil, Bool.and_true] at e
  · rw [not_t e] at HK
    exact HK nilSl _ (Ow.nil _ _ _ _) ((f1.no_trans f2).no_trans f3)
  have e := not_f e
  have f13 := (f1.no_trans f2).no_trans f3
  rw [e] at HK
  rw [Bool.and_eq_true, inR_iff] at e
  have z := f13.size
  exact k_reachL (G.no f13) e.1 e.2.1 (by omega) _ fun w h4 o4 f4 => ⟨w, rfl, ((hL1.of_no f2).of_no f3).of_no f4, HK w h4 (o4.ivs (by omega) (Nat.le_refl _)) (f13.no_trans f4)⟩
theorem k_spec_ReachOf {S : Nat → Prop} {h : Heap} {g : Sl} {xss : List (List Int)} (G : RdR S h g xss) (p : Int) (K : Value → Heap → Prop) (HK : ∀ t h', OwI h' (Iv h.size h'.size) t (roP xss p).1 → Fr No h h' → K (.tuple #[t.v, VB (roP xss p).2]) h') : callM Try.prog 28 #[.agg #[g.v], VI p] h K := by
  refine v28 g p h K fun b1 h1 hb1 f1 hL1 => ?_
  have f1 := f1.in_nil
  unfold roP at HK
  refine k_spec_grPlace (G.no f1) p _ fun h3 f3 => ⟨_, rfl, hL1.of_no f3, fun e => ?_, fun e => ?_⟩
  · rw [not_t e] at HK
    exact HK nilSl _ (Ow.nil _ _ _ _) (f1.no_trans f3)
  have e := not_f e
  have f13 := f1.no_trans f3
  rw [e] at HK
  rw [Bool.and_eq_true, inR_iff] at e
  have z := f13.size
  exact k_grReach (G.no f13) e.1 e.2.1 (by omega) _ fun w h4 o4 f4 => ⟨w, rfl, (hL1.of_no f3).of_no f4, HK w h4 (o4.ivs (by omega) (Nat.le_refl _)) (f13.no_trans f4)⟩
structure CurD (a n : Nat) (h : Heap) (c : Sl) (i : Int) : Prop where
  code : ∃ vs, RdV (fun k => k < a) h 1 c vs ∧ ∀ v, v ∈ vs → ∃ m : Int, v = Value.int .u8 m ∧ 0 ≤ m ∧ m ≤ 255
  lo : 0 ≤ i
  hi : i ≤ (n : Int)
theorem CurD.fr {a n : Nat} {h h' : Heap} {c : Sl} {i : Int} {T : Nat → Prop} (D : CurD a n h c i) (f : Fr T h h') (hT : ∀ k, k < a → ¬ T k) : CurD a n h' c i := by
  obtain ⟨vs, h1, h2⟩ := D.code
  exact ⟨⟨vs, h1.fr f hT, h2⟩, D.lo, D.hi⟩
theorem CurD.no {a n : Nat} {h h' : Heap} {c : Sl} {i : Int} (D : CurD a n h c i) (f : Fr No h h') : CurD a n h' c i := D.fr f fun _ _ h => h
theorem CurD.up {a n m : Nat} {h : Heap} {c : Sl} {i : Int} (D : CurD a n h c i) (hm : n ≤ m) : CurD a m h c i := ⟨D.code, D.lo, by have := D.hi; omega⟩
theorem u64_rng (x : Int) : 0 ≤ IntKind.wrap .u64 x ∧ IntKind.wrap .u64 x < 18446744073709551616 := by
  rw [IntKind.wrap_u64]; omega
theorem and255 {x : Int} (h0 : 0 ≤ x) (h1 : x < 18446744073709551616) : 0 ≤ bits .and .u64 x 255 ∧ bits .and .u64 x 255 ≤ 255 := by
  have e := u64_and_nat x.toNat 255 (by omega) (by omega)
  rw [show ((x.toNat : Nat) : Int) = x by omega] at e
  have : x.toNat &&& 255 ≤ 255 := Nat.and_le_right
  rw [show ((255 : Nat) : Int) = 255 from rfl] at e
  rw [e]; omega
theorem vcur {h h' : Heap} {L : List (Nat × List Value)} (H : Vars h L) (i : Nat) {b : Nat} {cs cs' : List Value} (hi : nthL L i = some (b, cs)) (f : Fr (In [b]) h h') (V : IsVar h' b cs') : Vars h' (setL L i cs') :=
  H.set hi (f.mono fun k _ hk => by simpa [In] using hk) V
theorem k_next_ {a n b : Nat} {h : Heap} {c : Sl} {i sd : Int} (V : IsVar h b [c.v, VI i, .int .u64 sd]) (hb : a ≤ b) (D : CurD a n h c i) (hn : n ≤ 1000000000000) (K : Value → Heap → Prop) (HK : ∀ (x i' sd' : Int) h', 0 ≤ x → x ≤ 255 → IsVar h' b [c.v, VI i', .int .u64 sd'] → CurD a (n + 1) h' c i' → Fr (In [b]) h h' → K (VI x) h') : callM Try.prog 131 #[VP b 0] h K := by
  have h0 := D.lo
  have h1 := D.hi
  have lb := V.lt
  have fin : ∀ (x i' sd' : Int) (h1 h2 h' : Heap), 0 ≤ x → x ≤ 255 → 0 ≤ i' → i' ≤ (n : Int) + 1 → Fr No h h1 → Fr (In [b]) h1 h2 → Fr (In [b]) h2 h' → IsVar h' b [c.v, VI i', .int .u64 sd'] → K (VI x) h' := fun x i' sd' h1 h2 h' x0 x1 i0 i1 f1 f2 f3 V' => by
    have f := (f1.of_no.trans f2).trans f3
    obtain ⟨vs, d1, d2⟩ := D.code
    exact HK x i' sd' h' x0 x1 V' ⟨⟨vs, d1.fr f fun k hk hk2 => by simp [In] at hk2; omega, d2⟩, i0, by omega⟩ f
  refine v131 b c i sd h K (.cons V (by simp) .nil) ⟨fun x h' => 0 ≤ x ∧ x ≤ 255 ∧ h' = h, ⟨fun e => ?_, fun e => ⟨by omega, by omega, rfl⟩⟩, ?_⟩
  · obtain ⟨vs, d1, d2⟩ := D.code
    have hl := d1.len
    simp only [decide_eq_true_eq] at e
    have hi : i < (vs.length : Int) := by omega
    obtain ⟨m, e1, m0, m1⟩ := d2 _ (List.getElem_mem (show i.toNat < vs.length by omega))
    refine ⟨d1.inb h0 hi, m, by rw [d1.get h0 hi, e1], rop_conv (show Try.prog.underlying _ = some (.int .u8) from by kernel_rfl) (show Try.prog.underlying _ = some (.int .i64) from by kernel_rfl) m ⟨m, ?_, m0, m1, rfl⟩⟩
    show Value.int .i64 (w64 m) = VI m
    rw [w64_eq _ (by omega) (by omega)]
  · rintro x hh ⟨x0, x1, rfl⟩ hL h2 f2 hL2
    rw [w64_eq (i + 1) (by omega) (by omega)]
    refine rop_conv (show Try.prog.underlying _ = some (.int .i64) from by kernel_rfl) (show Try.prog.underlying _ = some (.int .u64) from by kernel_rfl) x ⟨_, rfl, fun e h3 f3 hL3 => ?_, fun e => ?_⟩
    · exact fin x _ _ hh h2 h3 x0 x1 (by omega) (by omega) (Fr.refl _ _) f2 f3 hL3.head
    · refine pop_shr .u64 _ 40 (by omega) ⟨_, rfl, pop_and .u64 _ 255 ⟨_, rfl, fun h3 f3 hL3 => ?_⟩⟩
      have hw := u64_rng (IntKind.wrap .u64 (IntKind.wrap .u64 (sd * 6364136223846793005) + IntKind.wrap .u64 x) + 1442695040888963407)
      have hd : 0 ≤ (IntKind.wrap .u64 (IntKind.wrap .u64 (IntKind.wrap .u64 (sd * 6364136223846793005) + IntKind.wrap .u64 x) + 1442695040888963407)).fdiv (2 ^ (min (40 : Int).toNat IntKind.u64.bits)) ∧ (IntKind.wrap .u64 (IntKind.wrap .u64 (IntKind.wrap .u64 (sd * 6364136223846793005) + IntKind.wrap .u64 x) + 1442695040888963407)).fdiv (2 ^ (min (40 : Int).toNat IntKind.u64.bits)) < 18446744073709551616 := by
        rw [show (2 : Int) ^ (min (40 : Int).toNat IntKind.u64.bits) = 1099511627776 from rfl, Int.fdiv_eq_ediv_of_nonneg _ (by omega)]
        omega
      have ha := and255 hd.1 hd.2
      refine rop_conv (show Try.prog.underlying _ = some (.int .u64) from by kernel_rfl) (show Try.prog.underlying _ = some (.int .i64) from by kernel_rfl) _ ⟨_, rfl, ?_⟩
      rw [show IntKind.i64.wrap (bits .and .u64 ((IntKind.wrap .u64 (IntKind.wrap .u64 (IntKind.wrap .u64 (sd * 6364136223846793005) + IntKind.wrap .u64 x) + 1442695040888963407)).fdiv (2 ^ (min (40 : Int).toNat IntKind.u64.bits))) 255) = bits .and .u64 ((IntKind.wrap .u64 (IntKind.wrap .u64 (IntKind.wrap .u64 (sd * 6364136223846793005) + IntKind.wrap .u64 x) + 1442695040888963407)).fdiv (2 ^ (min (40 : Int).toNat IntKind.u64.bits))) 255 from w64_eq _ (by omega) (by omega)]
      exact fin _ _ _ hh h2 h3 ha.1 ha.2 (by omega) (by omega) (Fr.refl _ _) f2 f3 hL3.head
theorem k_pick {a n b : Nat} {h : Heap} {c : Sl} {i sd : Int} (V : IsVar h b [c.v, VI i, .int .u64 sd]) (hb : a ≤ b) (D : CurD a n h c i) (hn : n ≤ 100000000000) (m : Int) (K : Value → Heap → Prop) (HK : ∀ (x i' sd' : Int) h', 0 ≤ x → (1 ≤ m → x < m) → IsVar h' b [c.v, VI i', .int .u64 sd'] → CurD a (n + 2) h' c i' → Fr (In [b]) h h' → K (VI x) h') : callM Try.prog 110 #[VP b 0, VI m] h K := by
  refine v110 b c i sd m h K (.cons V (by simp) .nil) ⟨fun e => ?_, fun e => ?_⟩
  · simp only [decide_eq_true_eq] at e
    exact HK 0 i sd h (by omega) (fun _ => by omega) V (D.up (by omega)) (Fr.refl _ _)
  simp only [decide_eq_false_iff_not] at e
  refine k_next_ V hb D (by omega) _ fun x i1 sd1 h1 x0 x1 V1 D1 f1 => ⟨c, i1, sd1, x, rfl, .cons V1 (by simp) .nil, fun y d i2 sd2 h2 => 0 ≤ y ∧ d = c ∧ CurD a (n + 2) h2 c i2 ∧ Fr (In [b]) h h2, ⟨fun e2 => ?_, fun e2 => ⟨x0, rfl, D1.up (by omega), f1⟩⟩, ?_⟩
  · refine k_next_ V1 hb D1 (by omega) _ fun x' i2 sd2 h2 x0' x1' V2 D2 f2 => ⟨c, i2, sd2, x', rfl, .cons V2 (by simp) .nil, ?_⟩
    rw [w64_eq (x * 256) (by omega) (by omega), w64_eq _ (by omega) (by omega)]
    exact ⟨by omega, rfl, D2, f1.trans f2⟩
  · rintro y d i2 sd2 h2 ⟨y0, rfl, D2, f2⟩ hL2
    exact ⟨by omega, HK _ i2 sd2 h2 (Int.tmod_nonneg _ y0) (fun _ => Int.tmod_lt_of_pos _ (by omega)) hL2.head D2 f2⟩
theorem k_one {a n b : Nat} {h : Heap} {c : Sl} {i sd : Int} (V : IsVar h b [c.v, VI i, .int .u64 sd]) (hb : a ≤ b) (D : CurD a n h c i) (hn : n ≤ 100000000000) (m : Int) (K : Value → Heap → Prop) (HK : ∀ (x : Bool) (i' sd' : Int) h', IsVar h' b [c.v, VI i', .int .u64 sd'] → CurD a (n + 2) h' c i' → Fr (In [b]) h h' → K (VB x) h') : callM Try.prog 78 #[VP b 0, VI m] h K := by
  refine v78 b c i sd m h K (.cons V (by simp) .nil) ?_
  exact k_pick V hb D hn m _ fun x i1 sd1 h1 x0 x1 V1 D1 f1 => ⟨c, i1, sd1, x, rfl, .cons V1 (by simp) .nil, HK _ i1 sd1 h1 V1 D1 f1⟩
theorem k_among {a n b : Nat} {h : Heap} {c : Sl} {i sd : Int} (V : IsVar h b [c.v, VI i, .int .u64 sd]) (hb : a ≤ b) (D : CurD a n h c i) (hn : n ≤ 100000000000) {S : Nat → Prop} {s : Sl} {xs : List Int} (R : RdI S h s xs) (hS : ¬ S b) (hne : xs ≠ []) (K : Value → Heap → Prop) (HK : ∀ (x i' sd' : Int) h', x ∈ xs → IsVar h' b [c.v, VI i', .int .u64 sd'] → CurD a (n + 2) h' c i' → Fr (In [b]) h h' → K (VI x) h') : callM Try.prog 79 #[VP b 0, s.v] h K := by
  refine v79 b c i sd s h K (.cons V (by simp) .nil) ?_
  have hl := R.len
  have hp := List.length_pos_iff.2 hne
  refine k_pick V hb D hn _ _ fun x i1 sd1 h1 x0 x1 V1 D1 f1 => ⟨c, i1, sd1, x, rfl, .cons V1 (by simp) .nil, ?_⟩
  have R1 := R.fr f1 fun k hk hk2 => by simp [In] at hk2; subst hk2; exact hS hk
  have hx : x < (xs.length : Int) := by have := x1 (by omega); omega
  exact ⟨R1.inb x0 hx, _, R1.get x0 hx, HK _ i1 sd1 h1 (List.getElem_mem _) V1 D1 f1⟩
theorem eop_put {L : List (Nat × List Value)} {lo : Nat} {h : Heap} {o : Sl} {xs : List Int} {x : Int} (O : OwI h (fun k => lo ≤ k) o xs) (hlo : lo ≤ h.size) (hL : Vars h L) (hoff : ∀ p, p ∈ L → p.1 < lo) (hb : xs.length ≤ 1000000) (R : Sl → Heap → Prop) (HR : ∀ t h', OwI h' (fun k => lo ≤ k) t (xs ++ [x]) → Fr (fun k => lo ≤ k) h h' → Vars h' L → R t h') : eop Try.prog (Instr.buildSlice tIs 1 #[(0, VI x)]) h fun rv h1 => ∃ t : Sl, rv = t.v ∧ Vars h1 L ∧ eop Try.prog (appS tIs tIs tIs o.v t.v) h1 fun rv2 h2 => ∃ t2 : Sl, rv2 = t2.v ∧ Vars h2 L ∧ R t2 h2 := by
  refine eop_lit rIs (fun k => h.size ≤ k) (fun _ h => h) 1 (by omega) [VI x] rfl rfl fun t h1 n1 c1 o1 f1 m1 _ => ⟨t, rfl, hL.of_no f1, ?_⟩
  have z1 := f1.size
  have O1 : OwI h1 (fun k => lo ≤ k) o xs := Ow.no O f1
  have on := O1.rd.len
  have tn := o1.rd.len
  simp only [List.length_map, Nat.mul_one, List.length_cons, List.length_nil] at on tn
  refine eop_append rIs O1 (fun k hk => by omega) o1.rd (plainVI [x]) (by omega) fun s' h2 n2 o2 f2 d2 => ?_
  have g2 : Fr (fun k => lo ≤ k) h1 h2 := f2.mono fun k _ hk => (O1.foot hk).1
  have V2 : Vars h2 L := (hL.of_no f1).fr g2 fun p hp hk => by have := hoff p hp; omega
  exact ⟨s', rfl, V2, HR s' h2 (by rw [OwI, List.map_append]; exact o2) (f1.of_no.trans g2) V2⟩
theorem eop_putR {L : List (Nat × List Value)} {lo m : Nat} {h : Heap} {s x : Sl} {xss : List (List Int)} {ys : List Int} (O : OwX h (Iv lo m) s xss) (X : OwI h (fun k => m ≤ k) x ys) (hlo : lo ≤ m) (hm : m ≤ h.size) (hL : Vars h L) (hoff : ∀ p, p ∈ L → p.1 < lo) (hb : xss.length ≤ 1000000) (R : Sl → Heap → Prop) (HR : ∀ t h', OwX h' (fun k => lo ≤ k) t (xss ++ [ys]) → Fr (fun k => lo ≤ k) h h' → Vars h' L → R t h') : eop Try.prog (Instr.buildSlice tIss 1 #[(0, x.v)]) h fun rv h1 => ∃ t : Sl, rv = t.v ∧ Vars h1 L ∧ eop Try.prog (appS tIss tIss tIss s.v t.v) h1 fun rv2 h2 => ∃ t2 : Sl, rv2 = t2.v ∧ Vars h2 L ∧ R t2 h2 := by
  refine eop_lit rIss (fun k => h.size ≤ k) (fun _ h => h) 1 (by omega) [x.v] rfl rfl fun t h1 n1 c1 o1 f1 m1 _ => ⟨t, rfl, hL.of_no f1, ?_⟩
  have z1 := f1.size
  refine OwR.snoc rIss (OwR.no O f1) (F' := fun k => lo ≤ k) (fun k _ hk => hk.1) (fun k hk => by omega) ((Ow.no X f1).mono fun k _ hk => Nat.le_trans hlo hk) (fun k hk hk2 => by have := (X.foot hk).1; have := hk2.2; omega) o1.rd (by omega) fun y h2 o2 f2 => ?_
  have g2 : Fr (fun k => lo ≤ k) h1 h2 := f2.mono fun k _ hk => hk.1
  have V2 : Vars h2 L := (hL.of_no f1).fr g2 fun p hp hk => by have := hoff p hp; omega
  exact ⟨y, rfl, V2, HR y h2 o2 (f1.of_no.trans g2) V2⟩
def cycR (n : Int) (both : Bool) (p : Int) : List Int := [(p + 1).tmod n] ++ (if both then [(p + n - 1).tmod n] else [])
def cycL' (n : Int) (both : Bool) : Nat → List (List Int)
  | 0 => []
  | p + 1 => cycL' n both p ++ [cycR n both p]
theorem cycL_length (n : Int) (both : Bool) : ∀ p, (cycL' n both p).length = p
  | 0 => rfl
  | p + 1 => by rw [cycL', List.length_append, cycL_length n both p]; rfl
def cycP (n : Nat) (both : Bool) : List (List Int) := cycL' n both n
theorem k_grCycle {h : Heap} (n : Nat) (hn : n ≤ 1000) (both : Bool) (K : Value → Heap → Prop) (HK : ∀ t h', OwX h' (Iv h.size h'.size) t (cycP n both) → Fr No h h' → K (.agg #[t.v]) h') : callM Try.prog 130 #[VI n, VB both] h K := by
  refine v130 n both h K fun b1 b2 h3 hb1 hb2 f3 hL3 => ?_
  have f3 := f3.in_nil
  have z3 := f3.size
  have l2 : b2 < h3.size := hL3.head.lt
  have l1 : b1 < h3.size := hL3.tail.head.lt
  refine ⟨fun m p x h' => 0 ≤ p ∧ p + m = (n : Int) ∧ OwX h' (fun k => h3.size ≤ k) x (cycL' n both p.toNat) ∧ Fr (fun k => h.size ≤ k) h h' ∧ h3.size ≤ h'.size, ⟨n, by omega, by omega, OwR.nil _ _ _ _, f3.of_no, Nat.le_refl _⟩, ?_⟩
  rintro m p x h4 ⟨p0, p1, o4, f4, z4⟩ hL4
  refine ⟨fun e => ?_, fun e => ?_⟩
  · simp only [decide_eq_true_eq] at e
    refine ⟨by omega, ?_⟩
    rw [w64_eq (p + 1) (by omega) (by omega), w64_eq (p + n) (by omega) (by omega), w64_eq (p + n - 1) (by omega) (by omega)]
    have o4i := OwR.toIv o4
    refine eop_lit rIs (fun k => h4.size ≤ k) (fun _ h => h) 1 (by omega) [VI ((p + 1).tmod n)] rfl rfl fun t h5 n5 c5 o5 f5 m5 _ => ⟨t, rfl, hL4.of_no f5, fun y h' => OwI h' (fun k => h4.size ≤ k) y (cycR n both p) ∧ OwX h' (Iv h3.size h4.size) x (cycL' n both p.toNat) ∧ Fr (fun k => h.size ≤ k) h h' ∧ h4.size ≤ h'.size, ⟨fun eb => ⟨by omega, ?_⟩, fun eb => ⟨?_, OwR.no o4i f5, f4.trans f5.of_no, f5.size⟩⟩, ?_⟩
    · refine eop_put (lo := h4.size) (xs := [(p + 1).tmod n]) o5 f5.size (hL4.of_no f5) (fun q hq => by
        simp only [List.mem_cons, List.not_mem_nil, or_false] at hq
        rcases hq with rfl | rfl <;> simp only <;> omega) (by simp) _ fun u h6 o6 f6 V6 => ⟨?_, OwR.fr (OwR.no o4i f5) f6 fun k hk hk2 hk3 => by have := hk2.2; omega, (f4.trans f5.of_no).trans (f6.mono fun k _ hk => by have := f4.size; omega), by have := f5.size; have := f6.size; omega⟩
      unfold cycR
      rw [if_pos eb]; exact o6
    · unfold cycR
      rw [if_neg (by rw [eb]; simp)]
      exact o5
    rintro y h8 ⟨o8, q8, f8, z8⟩ hL8
    refine eop_putR (lo := h3.size) (m := h4.size) q8 o8 z4 z8 hL8 (fun q hq => by
      simp only [List.mem_cons, List.not_mem_nil, or_false] at hq
      rcases hq with rfl | rfl <;> simp only <;> omega) (by rw [cycL_length]; omega) _ fun u h10 o10 f10 V10 h11 f11 hL11 => ?_
    refine ⟨m - 1, by omega, by omega, by omega, ?_, (f8.trans (f10.mono fun k _ hk => by omega)).trans (f11.mono fun k _ hk => by simp [In] at hk; omega), by have := f10.size; have := f11.size; omega⟩
    have ep : (p + 1).toNat = p.toNat + 1 := by omega
    rw [ep, cycL', show ((p.toNat : Nat) : Int) = p by omega]
    exact OwR.fr o10 f11 fun k hk hk2 hk3 => by simp [In] at hk3; omega
  · simp only [decide_eq_false_iff_not] at e
    intro h12 f12 hL12
    have ep : p.toNat = n := by omega
    rw [ep] at o4
    have g12 : Fr (fun k => h.size ≤ k) h4 h12 := f12.mono fun k _ hk => by simp [In] at hk; omega
    have o12 : OwX h12 (fun k => h3.size ≤ k) x (cycL' n both n) := OwR.fr o4 f12 fun k hk hk2 hk3 => by simp [In] at hk3; omega
    exact HK x h12 (OwR.ivs (OwR.toIv o12) z3 (Nat.le_refl _)) ((f4.trans g12).mono fun k hk hk2 => absurd hk2 (by omega))
end Go.Proofs.Ytkjkfjkapbpgiaa
