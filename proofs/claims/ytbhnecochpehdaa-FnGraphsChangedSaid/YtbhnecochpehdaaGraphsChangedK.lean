/-
  What each function that the law 'FnGraphsChanged' comes to does: the contracts.
-/
import Derived.Test.YtbhnecochpehdaaGraphsChangedU
import Derived.Test.YtbhnecochpehdaaM4
set_option linter.unusedVariables false
set_option linter.unusedSimpArgs false
namespace Go.Proofs.Ytbhnecochpehdaa
open Go Go.Mx
@[reducible] def tI : TypeId := 3
@[reducible] def tIs : TypeId := 25
@[reducible] def tIss : TypeId := 22
theorem rIs : rowC Try.prog tIs = some (tI, 1, 8, [VI 0]) := by kernel_rfl
theorem rIss : rowC Try.prog tIss = some (tIs, 1, 24, [nilSl.v]) := by kernel_rfl
@[reducible] def OwI (h : Heap) (F : Nat → Prop) (s : Sl) (xs : List Int) : Prop := Ow h F tI 1 s (xs.map VI)
@[reducible] def OwX (h : Heap) (F : Nat → Prop) (s : Sl) (xss : List (List Int)) : Prop := OwR h F tIs tI s xss
theorem plainVI (xs : List Int) : (xs.map VI).all plainV = true := by simp [List.all_eq_true, plainV]

theorem k_bool {f : FuncId} {args : Array Value} {h : Heap} {v w : Value} (H : Ret Try.prog f args h v) (e : v = w) : Ret Try.prog f args h w := e ▸ H

theorem k_impl_in (n lo hi : Int) (h : Heap) (K : Value → Heap → Prop) (H : K (VB (decide (lo ≤ n) && decide (n ≤ hi))) h) : callM Try.prog 113 #[VI n, VI lo, VI hi] h K := by
  refine v113 n lo hi h K ⟨fun e => ?_, fun e => ?_⟩
  · rw [e, Bool.true_and] at H; exact H
  · rw [e, Bool.false_and] at H; exact H

theorem k_spec_l1In (n lo hi : Int) (h : Heap) (K : Value → Heap → Prop) (H : K (VB (decide (lo ≤ n) && decide (n ≤ hi))) h) : callM Try.prog 117 #[VI n, VI lo, VI hi] h K := by
  refine v117 n lo hi h K ⟨fun e => ?_, fun e => ?_⟩
  · rw [e, Bool.true_and] at H; exact H
  · rw [e, Bool.false_and] at H; exact H

def inR (lo hi x : Int) : Bool := decide (lo ≤ x) && decide (x ≤ hi)
def graphB (g : List (List Int)) : Bool := inR 1 8 g.length && g.all fun l => !decide (5 < (l.length : Int)) && l.all (inR 0 ((g.length : Int) - 1))
theorem not_t {b : Bool} (h : (!b) = true) : b = false := by simpa using h
theorem not_f {b : Bool} (h : (!b) = false) : b = true := by simpa using h

theorem k_spec_l1All {S : Nat → Prop} {h : Heap} {l : Sl} {xs : List Int} (H : RdI S h l xs) (lo hi_1 : Int) (K : Value → Heap → Prop) (HK : K (VB (xs.all (inR lo hi_1))) h) : callM Try.prog 104 #[l.v, VI lo, VI hi_1] h K := by
  refine v104 l lo hi_1 h K ?_
  refine ⟨fun n i h' => h' = h ∧ 0 ≤ i ∧ i + n = (xs.length : Int) ∧ xs.all (inR lo hi_1) = (xs.drop i.toNat).all (inR lo hi_1), ⟨xs.length, rfl, by omega, by omega, by simp⟩, ?_⟩
  rintro n i _ ⟨rfl, h0, h1, h2⟩ hL
  refine ⟨fun e => ?_, fun e => ?_⟩
  · have hi := H.lt e
    refine ⟨H.inb h0 hi, _, H.get h0 hi, ?_⟩
    rw [drop_cons xs h0 hi, List.all_cons] at h2
    refine k_spec_l1In _ _ _ _ _ ⟨_, rfl, hL, fun e2 => ?_, fun e2 => ?_⟩
    · have e3 : inR lo hi_1 (xs[i.toNat]'(by omega)) = false := not_t e2
      rw [h2, e3] at HK
      exact HK
    · have e3 : inR lo hi_1 (xs[i.toNat]'(by omega)) = true := not_f e2
      rw [e3, Bool.true_and] at h2
      rw [H.succ h0 hi]
      exact ⟨n - 1, by omega, rfl, by omega, by omega, h2⟩
  · have hi := H.ge e
    rw [List.drop_of_length_le (by omega)] at h2
    rw [h2] at HK
    exact HK

theorem k_spec_grGood {S : Nat → Prop} {h : Heap} {g : Sl} {xss : List (List Int)} (H : RdR S h g xss) : Ret Try.prog 165 #[.agg #[g.v]] h (VB (graphB xss)) := by
  intro K HK
  refine v165 g h K ?_
  intro b1 h1 hb1 hf1 hL1
  have f1 := hf1.in_nil
  have hlen := H.len
  refine k_spec_l1In _ _ _ _ _ ⟨_, rfl, hL1, fun e => ?_, fun e => ?_⟩
  · have e3 : inR 1 8 xss.length = false := by have := not_t e; rw [hlen] at this; exact this
    have : graphB xss = false := by unfold graphB; rw [e3]; rfl
    rw [← this]; exact HK _ f1
  · have e3 : inR 1 8 xss.length = true := by have := not_f e; rw [hlen] at this; exact this
    have hw : w64 ((g.n : Int) - 1) = (xss.length : Int) - 1 := by rw [hlen]; exact w64_eq _ (by omega) (by have := maxLen_lt H.big; omega)
    have hg : graphB xss = xss.all fun l => !decide (5 < (l.length : Int)) && l.all (inR 0 ((xss.length : Int) - 1)) := by unfold graphB; rw [e3]; rfl
    rw [hw]
    refine ⟨fun n i h' => Fr No h1 h' ∧ 0 ≤ i ∧ i + n = (xss.length : Int) ∧ graphB xss = (xss.drop i.toNat).all (fun l => !decide (5 < (l.length : Int)) && l.all (inR 0 ((xss.length : Int) - 1))), ⟨xss.length, Fr.refl _ _, by omega, by omega, by simp [hg]⟩, ?_⟩
    rintro n i h3 ⟨f3, h0, h2, h4⟩ hL
    have H3 := (H.no f1).no f3
    refine ⟨fun e => ?_, fun e => ?_⟩
    · have hi := H.lt e
      obtain ⟨si, hc, Hi⟩ := H3.get h0 hi
      refine ⟨H3.inb h0 hi, si, hc, fun e5 => ?_, fun e5 => ?_⟩
      · rw [drop_cons xss h0 hi, List.all_cons] at h4
        rw [Hi.len] at e5
        rw [e5] at h4
        have h5 : graphB xss = false := by rw [h4]; rfl
        rw [← h5]; exact HK _ (f1.trans f3)
      · rw [drop_cons xss h0 hi, List.all_cons] at h4
        rw [Hi.len] at e5
        rw [e5] at h4
        refine k_spec_l1All Hi _ _ _ ⟨_, rfl, hL, fun e6 => ?_, fun e6 => ?_⟩
        · rw [not_t e6] at h4
          have h5 : graphB xss = false := by rw [h4]; rfl
          rw [← h5]; exact HK _ (f1.trans f3)
        · rw [not_f e6] at h4
          rw [H.succ h0 hi]
          exact ⟨n - 1, by omega, f3, by omega, by omega, by rw [h4]; rfl⟩
    · have hi := H.ge e
      rw [List.drop_of_length_le (by omega)] at h4
      have h5 : graphB xss = true := by rw [h4]; rfl
      rw [← h5]; exact HK _ (f1.trans f3)

theorem k_IndexFunc {S : Nat → Prop} {h : Heap} {s : Sl} {xs : List Int} (H : RdI S h s xs) (f : Value) (p : Int → Bool) (hf : ∀ (x : Int) (K : Value → Heap → Prop), K (VB (p x)) h → callV Try.prog f [VI x] h K) (K : Value → Heap → Prop) (HK : ∀ r : Int, decide (0 ≤ r) = xs.any p → K (VI r) h) : callM Try.prog 159 #[s.v, f] h K := by
  refine v159 s f h K ⟨fun n i h' => h' = h ∧ 0 ≤ i ∧ i + n = (xs.length : Int) ∧ xs.any p = (xs.drop i.toNat).any p, ⟨xs.length, rfl, by omega, by omega, by simp⟩, ?_⟩
  rintro n i _ ⟨rfl, i0, i1, i2⟩ hL
  refine ⟨fun e => ?_, fun e => ?_⟩
  · have hi := H.lt e
    rw [drop_cons xs i0 hi, List.any_cons] at i2
    refine ⟨H.inb i0 hi, _, H.get i0 hi, hf _ _ ⟨_, rfl, .nil, fun e => ?_, fun e => ?_⟩⟩
    · rw [e, Bool.true_or] at i2
      exact HK _ (by rw [i2]; simpa using i0)
    · rw [e, Bool.false_or] at i2
      rw [H.succ i0 hi]
      exact ⟨n - 1, by omega, rfl, by omega, by omega, i2⟩
  · have hi := H.ge e
    rw [List.drop_of_length_le (by omega)] at i2
    exact HK _ (by rw [i2]; rfl)

theorem k_ContainsFunc {S : Nat → Prop} {h : Heap} {s : Sl} {xs : List Int} (H : RdI S h s xs) (f : Value) (p : Int → Bool) (hf : ∀ (x : Int) (K : Value → Heap → Prop), K (VB (p x)) h → callV Try.prog f [VI x] h K) (K : Value → Heap → Prop) (HK : K (VB (xs.any p)) h) : callM Try.prog 102 #[s.v, f] h K := by
  refine v102 s f h K (k_IndexFunc H f p hf _ fun r hr => ⟨r, rfl, .nil, ?_⟩)
  rw [hr]; exact HK

theorem k_isGraph1 {h : Heap} {b : Nat} {n : Int} (x : Int) {L : List (Nat × List Value)} (hL : Vars h ((b, [VI n]) :: L)) (K : Value → Heap → Prop) (HK : K (VB (!inR 0 (w64 (n - 1)) x)) h) : callV Try.prog (.func (.func 150) #[] #[VP b 0]) [VI x] h K := by
  refine v150 x b n h K (.cons hL.head (by simp) .nil) ?_
  refine k_impl_in _ _ _ _ _ ⟨_, rfl, .cons hL.head (by simp) .nil, ?_⟩
  exact HK

theorem k_has1 {h : Heap} {b : Nat} {g : Sl} (x : Int) {L : List (Nat × List Value)} (hL : Vars h ((b, [g.v]) :: L)) (K : Value → Heap → Prop) (HK : K (VB (!inR 0 (w64 (g.n - 1)) x)) h) : callV Try.prog (.func (.func 161) #[] #[VP b 0]) [VI x] h K := by
  refine v161 x b g h K (.cons hL.head (by simp) .nil) ?_
  refine k_impl_in _ _ _ _ _ ⟨_, rfl, .cons hL.head (by simp) .nil, ?_⟩
  exact HK

theorem graphB_eq {xss : List (List Int)} (e3 : inR 1 8 xss.length = true) : graphB xss = xss.all fun l => !decide (5 < (l.length : Int)) && l.all (inR 0 ((xss.length : Int) - 1)) := by unfold graphB; rw [e3]; rfl
theorem graphB_no {xss : List (List Int)} (e3 : inR 1 8 xss.length = false) : graphB xss = false := by unfold graphB; rw [e3]; rfl
theorem any_not {xs : List Int} {p : Int → Bool} : xs.any (fun x => !p x) = !xs.all p := by
  induction xs with
  | nil => rfl
  | cons x xs ih => simp only [List.any_cons, List.all_cons, ih, Bool.not_and]
theorem len_w64 {S : Nat → Prop} {h : Heap} {g : Sl} {xss : List (List Int)} (H : RdR S h g xss) : w64 ((g.n : Int) - 1) = (xss.length : Int) - 1 := by
  rw [H.len]
  have h1 := maxLen_lt H.big
  have h2 := H.len
  exact w64_eq _ (by omega) (by omega)

theorem k_isGraph {S : Nat → Prop} {h : Heap} {g : Sl} {xss : List (List Int)} (H : RdR S h g xss) : Ret Try.prog 88 #[.agg #[g.v]] h (VB (graphB xss)) := by
  intro K HK
  refine v88 g h K fun b1 b2 h1 hb1 hb2 hf1 hL1 => ?_
  have f1 := hf1.in_nil
  have hlen := H.len
  refine k_impl_in _ _ _ _ _ ⟨_, rfl, hL1, fun e => ?_, fun e => ?_⟩
  · have e3 : inR 1 8 xss.length = false := by have := not_t e; rw [hlen] at this; exact this
    rw [← graphB_no e3]; exact HK _ f1
  · have e3 : inR 1 8 xss.length = true := by have := not_f e; rw [hlen] at this; exact this
    have hg := graphB_eq e3
    refine ⟨fun n i x h' => h' = h1 ∧ x = (g.n : Int) ∧ 0 ≤ i ∧ i + n = (xss.length : Int) ∧ graphB xss = (xss.drop i.toNat).all (fun l => !decide (5 < (l.length : Int)) && l.all (inR 0 ((xss.length : Int) - 1))), ⟨xss.length, rfl, rfl, by omega, by omega, by simp [hg]⟩, ?_⟩
    rintro n i x _ ⟨rfl, rfl, h0, h2, h4⟩ hL
    have H3 := H.no f1
    refine ⟨fun e => ?_, fun e => ?_⟩
    · have hi := H.lt e
      obtain ⟨si, hc, Hi⟩ := H3.get h0 hi
      rw [drop_cons xss h0 hi, List.all_cons] at h4
      refine ⟨H3.inb h0 hi, si, hc, fun e5 => ?_, fun e5 => ?_⟩
      · rw [Hi.len] at e5
        rw [e5] at h4
        have h5 : graphB xss = false := by rw [h4]; rfl
        rw [← h5]; exact HK _ f1
      · rw [Hi.len] at e5
        rw [e5] at h4
        refine k_ContainsFunc Hi _ _ (fun x K HK => k_isGraph1 x hL K HK) _ ?_
        refine ⟨_, _, rfl, hL, fun e6 => ?_, fun e6 => ?_⟩
        · rw [any_not, len_w64 H] at e6
          rw [not_t e6] at h4
          have h5 : graphB xss = false := by rw [h4]; rfl
          rw [← h5]; exact HK _ f1
        · rw [any_not, len_w64 H] at e6
          rw [not_f e6] at h4
          rw [H.succ h0 hi]
          exact ⟨n - 1, by omega, rfl, rfl, by omega, by omega, by rw [h4]; rfl⟩
    · have hi := H.ge e
      rw [List.drop_of_length_le (by omega)] at h4
      have h5 : graphB xss = true := by rw [h4]; rfl
      rw [← h5]; exact HK _ f1

theorem k_has {S S' : Nat → Prop} {h : Heap} {g s : Sl} {xss : List (List Int)} {ps : List Int} (H : RdR S h g xss) (Hp : RdI S' h s ps) : Ret Try.prog 107 #[.agg #[g.v], s.v] h (VB (graphB xss && ps.all (inR 0 ((xss.length : Int) - 1)))) := by
  intro K HK
  refine v107 g s h K fun b1 h1 hb1 f1 hL1 => ?_
  have f1 := f1.in_nil
  refine k_isGraph (H.no f1) _ fun h2 f2 => ⟨_, rfl, hL1.of_no f2, fun e => ?_, fun e => ?_⟩
  · rw [e, Bool.true_and] at HK
    have hL2 := hL1.of_no f2
    refine k_ContainsFunc ((Hp.no f1).no f2) _ _ (fun x K HK => k_has1 x hL2 K HK) _ ?_
    refine ⟨_, _, rfl, hL2, ?_⟩
    rw [any_not, len_w64 H, Bool.not_not]
    exact HK _ (f1.trans f2)
  · rw [e, Bool.false_and] at HK
    exact HK _ (f1.trans f2)

theorem k_spec_grPlace {S : Nat → Prop} {h : Heap} {g : Sl} {xss : List (List Int)} (H : RdR S h g xss) (p : Int) : Ret Try.prog 116 #[.agg #[g.v], VI p] h (VB (graphB xss && inR 0 ((xss.length : Int) - 1) p)) := by
  intro K HK
  refine v116 g p h K fun b1 h1 hb1 f1 hL1 => ?_
  have f1 := f1.in_nil
  refine k_spec_grGood (H.no f1) _ fun h2 f2 => ⟨_, rfl, hL1.of_no f2, fun e => ?_, fun e => ?_⟩
  · rw [e, Bool.true_and] at HK
    refine k_spec_l1In _ _ _ _ _ ⟨_, rfl, hL1.of_no f2, ?_⟩
    rw [len_w64 H]
    exact HK _ (f1.trans f2)
  · rw [e, Bool.false_and] at HK
    exact HK _ (f1.trans f2)

def rotB (l : List Int) (r : Int) : Bool := inR 0 (max ((l.length : Int) - 1) 0) r
def walkB (g : List (List Int)) (rs : List Int) (p : Int) : Bool := graphB g && inR 0 ((g.length : Int) - 1) p && decide (rs.length = g.length) && (g.zip rs).all fun q => rotB q.1 q.2
theorem walkB_no1 {g : List (List Int)} {rs : List Int} {p : Int} (e : (graphB g && inR 0 ((g.length : Int) - 1) p) = false) : walkB g rs p = false := by unfold walkB; rw [e]; rfl
theorem walkB_no2 {g : List (List Int)} {rs : List Int} {p : Int} (e : ¬ rs.length = g.length) : walkB g rs p = false := by unfold walkB; rw [decide_eq_false e]; simp
theorem walkB_eq {g : List (List Int)} {rs : List Int} {p : Int} (e : (graphB g && inR 0 ((g.length : Int) - 1) p) = true) (e2 : rs.length = g.length) : walkB g rs p = (g.zip rs).all fun q => rotB q.1 q.2 := by unfold walkB; rw [e, decide_eq_true e2]; rfl
theorem zip_drop (g : List (List Int)) (rs : List Int) {i : Int} (h0 : 0 ≤ i) (h1 : i < (g.length : Int)) (h2 : i < (rs.length : Int)) : (g.zip rs).drop i.toNat = (g[i.toNat]'(by omega), rs[i.toNat]'(by omega)) :: (g.zip rs).drop (i + 1).toNat := by
  have := drop_cons (g.zip rs) h0 (by simp; omega)
  simpa using this
theorem len_w64I {S : Nat → Prop} {h : Heap} {g : Sl} {xs : List Int} (H : RdI S h g xs) : w64 ((g.n : Int) - 1) = (xs.length : Int) - 1 := by
  rw [H.len]
  have h1 := maxLen_lt (RdV.big H)
  have h2 := H.len
  exact w64_eq _ (by omega) (by omega)

theorem loopI {S : Nat → Prop} {h : Heap} {s : Sl} {xs : List Int} (H : RdI S h s xs) : (xs.length : Int) ≤ maxLen := by have := H.len; have := H.big; omega

def numI (k : Int) : List Int → List Int
  | [] => []
  | _ :: xs => k :: numI (k + 1) xs
theorem numI_length : ∀ (k : Int) (xs : List Int), (numI k xs).length = xs.length
  | _, [] => rfl
  | k, _ :: xs => by simp [numI, numI_length (k + 1) xs]
theorem numI_get : ∀ (xs : List Int) (k : Int) (i : Nat) (h : i < (numI k xs).length), (numI k xs)[i] = k + i
  | [], k, i, h => by simp [numI] at h
  | x :: xs, k, 0, h => by simp [numI]
  | x :: xs, k, i + 1, h => by
    simp only [numI, List.getElem_cons_succ]
    rw [numI_get xs (k + 1) i]
    omega
def totR (xss : List (List Int)) : Nat := (xss.map List.length).sum
def numR (k : Int) : List (List Int) → List (List Int)
  | [] => []
  | xs :: xss => numI k xs :: numR (k + xs.length) xss
theorem numR_length : ∀ (k : Int) (xss : List (List Int)), (numR k xss).length = xss.length
  | _, [] => rfl
  | k, xs :: xss => by simp [numR, numR_length (k + xs.length) xss]
theorem numR_get : ∀ (xss : List (List Int)) (k : Int) (i : Nat) (h : i < (numR k xss).length) (h' : i < xss.length), (numR k xss)[i] = numI (k + totR (xss.take i)) xss[i]
  | [], k, i, h, _ => by simp [numR] at h
  | x :: xs, k, 0, h, _ => by simp [numR, totR]
  | x :: xs, k, i + 1, h, h' => by
    simp only [numR, List.getElem_cons_succ]
    rw [numR_get xs _ i (by simpa [numR] using h) (by simpa using h')]
    congr 1
    simp [totR]
    omega
theorem totR_take_le : ∀ (xss : List (List Int)) (i : Nat), totR (xss.take i) ≤ totR xss
  | [], i => by simp [totR]
  | x :: xs, 0 => by simp [totR]
  | x :: xs, i + 1 => by
    have := totR_take_le xs i
    simp only [totR, List.take_succ_cons, List.map_cons, List.sum_cons] at *
    omega
theorem totR_snoc (xss : List (List Int)) (i : Nat) (h : i < xss.length) : totR (xss.take (i + 1)) = totR (xss.take i) + xss[i].length := by
  rw [List.take_succ_eq_append_getElem h]
  simp only [totR, List.map_append, List.sum_append, List.map_cons, List.map_nil, List.sum_cons, List.sum_nil]
  omega

def firstXs : List (List Int) := [[1, 2], [0, 2], [0]]
def DeskIs (h h' : Heap) (v : Value) : Prop := ∃ (g w : Sl) (m : Nat), v = .agg #[g.v, w.v, VI 0] ∧ OwX h' (fun k => h.size ≤ k ∧ k < m) g firstXs ∧ OwI h' (fun k => h.size ≤ k ∧ m ≤ k) w [0, 0, 0] ∧ Fr No h h'
theorem own_lt {h : Heap} {F : Nat → Prop} {e : TypeId} {sz : Nat} {s : Sl} {vs : List Value} (H : Ow h F e sz s vs) {n : Nat} (hn : h.size ≤ n) : ∀ k, s.own k → k < n := fun k hk => Nat.lt_of_lt_of_le (H.foot hk).2 hn
theorem lit_first {h1 : Heap} {K : Value → Heap → Prop} (HK : ∀ (g : Sl) (h' : Heap), OwX h' (fun k => h1.size ≤ k) g firstXs → Fr No h1 h' → K g.v h') :
    eop Try.prog (Instr.buildSlice tIs 2 #[(0, VI 1), (1, VI 2)]) h1 fun rv_1 h_2 => ∃ t1_1 : Sl, rv_1 = t1_1.v ∧ Fr No h1 h_2 ∧
    eop Try.prog (Instr.buildSlice tIs 2 #[(0, VI 0), (1, VI 2)]) h_2 fun rv_2 h_3 => ∃ t2_1 : Sl, rv_2 = t2_1.v ∧ Fr No h_2 h_3 ∧
    eop Try.prog (Instr.buildSlice tIs 1 #[(0, VI 0)]) h_3 fun rv_3 h_4 => ∃ t3_1 : Sl, rv_3 = t3_1.v ∧ Fr No h_3 h_4 ∧
    eop Try.prog (Instr.buildSlice tIss 3 #[(0, t1_1.v), (1, t2_1.v), (2, t3_1.v)]) h_4 K := by
  refine eop_lit rIs (fun k => h1.size ≤ k) (fun _ h => h) 2 (by omega) [VI 1, VI 2] rfl rfl fun t1 h2 n1 c1 o1 f1 l1 _ => ⟨t1, rfl, f1, ?_⟩
  refine eop_lit rIs (fun k => h1.size ≤ k) (fun _ h => Nat.le_trans f1.size h) 2 (by omega) [VI 0, VI 2] rfl rfl fun t2 h3 n2 c2 o2 f2 l2 _ => ⟨t2, rfl, f2, ?_⟩
  have f13 := f1.no_trans f2
  refine eop_lit rIs (fun k => h1.size ≤ k) (fun _ h => Nat.le_trans f13.size h) 1 (by omega) [VI 0] rfl rfl fun t3 h4 n3 c3 o3 f3 l3 _ => ⟨t3, rfl, f3, ?_⟩
  have f14 := f13.no_trans f3
  refine eop_lit rIss (fun k => h1.size ≤ k) (fun _ h => Nat.le_trans f14.size h) 3 (by omega) [t1.v, t2.v, t3.v] rfl rfl fun t4 h5 n4 c4 o4 f4 l4 _ => ?_
  have g1 := own_lt o1 (Nat.le_refl _)
  have g2 := own_lt o2 (Nat.le_refl _)
  have g3 := own_lt o3 (Nat.le_refl _)
  have s3 := f2.size
  have s4 := f3.size
  refine HK t4 h5 (OwR.of [t1, t2, t3] rfl o4 ?_ ?_ ?_) (f14.trans f4)
  · intro p hp
    simp only [firstXs, List.zip_cons_cons, List.zip_nil_right, List.mem_cons, List.not_mem_nil, or_false] at hp
    rcases hp with rfl | rfl | rfl
    · exact ((o1.no f2).no f3).no f4
    · exact (o2.no f3).no f4
    · exact o3.no f4
  · simp only [List.pairwise_cons, List.mem_cons, List.not_mem_nil, or_false, forall_eq_or_imp, forall_eq, List.Pairwise.nil, and_true]
    refine ⟨⟨fun k a b => ?_, fun k a b => ?_⟩, fun k a b => ?_, by simp⟩
    · have := g1 k a; have := l2 k b; omega
    · have := g1 k a; have := l3 k b; omega
    · have := g2 k a; have := l3 k b; omega
  · intro a ha k hk hk2
    have := l4 k hk
    simp only [List.mem_cons, List.not_mem_nil, or_false] at ha
    rcases ha with rfl | rfl | rfl
    · have := g1 k hk2; omega
    · have := g2 k hk2; omega
    · have := g3 k hk2; omega

theorem frOwn {h h' : Heap} {F : Nat → Prop} {e : TypeId} {sz : Nat} {s : Sl} {vs : List Value} {b : Heap} (H : Ow h F e sz s vs) (f : Fr s.own h h') : Fr F h h' := f.mono fun _ _ hk => (H.foot hk).1

theorem nil_of_none {S : Nat → Prop} {h : Heap} {s : Sl} {xs : List Int} (H : RdI S h s xs) (hn : s.a = none) : xs = [] := by
  cases xs with
  | nil => rfl
  | cons x xs =>
    obtain ⟨a, ha, _⟩ := RdV.cell H 0 (by simp)
    rw [hn] at ha
    cases ha

theorem k_Clone {S : Nat → Prop} {h : Heap} {s : Sl} {xs : List Int} (H : RdI S h s xs) (hn : xs.length ≤ 1000000000) (K : Value → Heap → Prop) (HK : ∀ t h', OwI h' (Iv h.size h'.size) t xs → Fr No h h' → K t.v h') : callM Try.prog 142 #[s.v] h K := by
  refine v142 s h K (pop_isnil rIs _ _ ⟨_, rfl, fun e => ?_, fun e => ?_⟩)
  · have : xs = [] := nil_of_none H (by simpa using e)
    subst this
    exact HK nilSl h (Ow.nil _ _ _ _) (Fr.refl _ _)
  · refine eop_lit rIs (fun k => h.size ≤ k) (fun _ h => h) 0 (by omega) [] rfl rfl fun t h1 n1 c1 o1 f1 l1 _ => ⟨t, rfl, .nil, ?_⟩
    refine eop_append rIs o1 (fun k hk => Nat.le_trans f1.size hk) (H.no f1) (plainVI _) (by have := H.len; omega) fun t' h2 n2 o2 f2 l2 => ⟨t', rfl, .nil, ?_⟩
    exact HK t' h2 (Ow.toIv (by simpa using o2)) (f1.fresh f2 l1)

theorem k_l1Own {S : Nat → Prop} {h : Heap} {s : Sl} {xs : List Int} (H : RdI S h s xs) (hn : xs.length ≤ 1000000000) (K : Value → Heap → Prop) (HK : ∀ t h', OwI h' (Iv h.size h'.size) t xs → Fr No h h' → K t.v h') : callM Try.prog 130 #[s.v] h K := by
  refine v130 s h K ?_
  refine eop_lit rIs (fun k => h.size ≤ k) (fun _ h => h) 0 (by omega) [] rfl rfl fun t h1 n1 c1 o1 f1 l1 _ => ⟨t, rfl, .nil, ?_⟩
  refine eop_append rIs o1 (fun k hk => Nat.le_trans f1.size hk) (H.no f1) (plainVI _) (by have := H.len; omega) fun t' h2 n2 o2 f2 l2 => ⟨t', rfl, .nil, ?_⟩
  exact HK t' h2 (Ow.toIv (by simpa using o2)) (f1.fresh f2 l1)

/-- Every list of these is short. -/
def shortR (n : Nat) (xss : List (List Int)) : Prop := xss.length ≤ n ∧ ∀ l, l ∈ xss → l.length ≤ n
theorem tot_short {n : Nat} : ∀ {xss : List (List Int)} {m : Nat}, xss.length ≤ m → (∀ l, l ∈ xss → l.length ≤ n) → totR xss ≤ m * n
  | [], m, _, _ => by simp [totR]
  | x :: xs, 0, h, _ => by simp at h
  | x :: xs, m + 1, h, h2 => by
    have h3 := tot_short (n := n) (xss := xs) (m := m) (by simpa using h) fun l hl => h2 l (List.mem_cons_of_mem _ hl)
    have h4 := h2 x (by simp)
    have h5 : totR (x :: xs) = x.length + totR xs := by simp [totR]
    rw [h5, Nat.add_mul]
    omega
theorem short_of_tot {xss : List (List Int)} : ∀ l, l ∈ xss → l.length ≤ totR xss := by
  induction xss with
  | nil => intro l h; simp at h
  | cons x xs ih =>
    intro l hl
    have h5 : totR (x :: xs) = x.length + totR xs := by simp [totR]
    rcases List.mem_cons.1 hl with rfl | hl
    · omega
    · have := ih l hl; omega

theorem k_copied {S : Nat → Prop} {h : Heap} {g : Sl} {xss : List (List Int)} (H : RdR S h g xss) (hn : xss.length + totR xss ≤ 1000000000) (K : Value → Heap → Prop) (HK : ∀ t h', OwX h' (Iv h.size h'.size) t xss → Fr No h h' → K (.agg #[t.v]) h') : callM Try.prog 114 #[.agg #[g.v]] h K := by
  refine v114 g h K fun b1 b2 b3 h4 hb1 hb2 hb3 f4 hL4 => ?_
  have f4 := f4.in_nil
  have l3 : b3 < h4.size := hL4.head.lt
  have l2 : b2 < h4.size := hL4.tail.head.lt
  have l1 : b1 < h4.size := hL4.tail.tail.head.lt
  have s4 := f4.size
  refine ⟨fun n i x h' => 0 ≤ i ∧ i + n = (xss.length : Int) ∧ OwX h' (fun k => h4.size ≤ k) x (xss.take i.toNat) ∧ Fr No h h' ∧ h4.size ≤ h'.size, ⟨xss.length, by omega, by omega, by simpa using OwR.nil _ _ _ _, f4, Nat.le_refl _⟩, ?_⟩
  rintro n i x h5 ⟨i0, i1, o5, f5, z5⟩ hL5
  have H5 := H.no f5
  refine ⟨fun e => ?_, fun e => ?_⟩
  · have hi := H.lt e
    obtain ⟨si, c1, c2⟩ := H5.get i0 hi
    have hsi := short_of_tot (xss[i.toNat]'(by omega)) (List.getElem_mem (by omega))
    refine ⟨H5.inb i0 hi, si, c1, k_Clone c2 (by omega) _ fun t h6 o6 f6 => ⟨t, rfl, hL5.of_no f6, ?_⟩⟩
    refine eop_lit rIss (fun k => h6.size ≤ k) (fun _ h => h) 1 (by omega) [t.v] rfl rfl fun u h7 n7 c7 o7 f7 l7 _ => ⟨u, rfl, (hL5.of_no f6).of_no f7, ?_⟩
    have s6 := f6.size
    have s7 := f7.size
    refine OwR.snoc rIss ((o5.toIv.no f6).no f7) (F' := fun k => h4.size ≤ k) (fun k _ hk => hk.1) (fun k hk => by omega) ((Ow.no o6 f7).mono fun k _ hk => Nat.le_trans z5 hk.1) (fun k hk hk2 => by have := (o6.foot hk).1.1; have := hk2.2; omega) o7.rd (by simp; omega) fun y h8 o8 f8 => ⟨y, rfl, ((hL5.of_no f6).of_no f7).iv f8 ⟨.inl l3, .inl l2, .inl l1, trivial⟩, fun h9 f9 hL9 => ?_⟩
    have s8 := f8.size
    have f9 := f9.inIv (lo := h.size) (hi := h4.size) ⟨⟨hb3, l3⟩, trivial⟩
    have s9 := f9.size
    rw [H.succ i0 hi]
    refine ⟨n - 1, by omega, by omega, by omega, ?_, ?_, by omega⟩
    · rw [take_snoc xss i0 hi]
      exact (o8.toIv.iv f9 (.inr (Nat.le_refl _))).mono fun k _ hk => hk.1
    · exact ((((f5.no_trans f6).no_trans f7).ivFresh f8 (by omega))).ivFresh f9 (Nat.le_refl _)
  · have hi := H.ge e
    rw [List.take_of_length_le (by omega)] at o5
    intro h10 f10 hL10
    have f10 := f10.inIv (lo := h.size) (hi := h4.size) ⟨⟨hb2, l2⟩, trivial⟩
    exact HK x h10 ((o5.toIv.iv f10 (.inr (Nat.le_refl _))).mono fun k hk2 hk => ⟨Nat.le_trans s4 hk.1, hk2⟩) (f5.ivFresh f10 (Nat.le_refl _))

theorem k_grCopy {S : Nat → Prop} {h : Heap} {g : Sl} {xss : List (List Int)} (H : RdR S h g xss) (hn : xss.length + totR xss ≤ 1000000000) (K : Value → Heap → Prop) (HK : ∀ t h', OwX h' (Iv h.size h'.size) t xss → Fr No h h' → K (.agg #[t.v]) h') : callM Try.prog 118 #[.agg #[g.v]] h K := by
  refine v118 g h K fun b1 b2 b3 h4 hb1 hb2 hb3 f4 hL4 => ?_
  have f4 := f4.in_nil
  have l3 : b3 < h4.size := hL4.head.lt
  have l2 : b2 < h4.size := hL4.tail.head.lt
  have l1 : b1 < h4.size := hL4.tail.tail.head.lt
  have s4 := f4.size
  refine ⟨fun n i x h' => 0 ≤ i ∧ i + n = (xss.length : Int) ∧ OwX h' (fun k => h4.size ≤ k) x (xss.take i.toNat) ∧ Fr No h h' ∧ h4.size ≤ h'.size, ⟨xss.length, by omega, by omega, by simpa using OwR.nil _ _ _ _, f4, Nat.le_refl _⟩, ?_⟩
  rintro n i x h5 ⟨i0, i1, o5, f5, z5⟩ hL5
  have H5 := H.no f5
  refine ⟨fun e => ?_, fun e => ?_⟩
  · have hi := H.lt e
    obtain ⟨si, c1, c2⟩ := H5.get i0 hi
    have hsi := short_of_tot (xss[i.toNat]'(by omega)) (List.getElem_mem (by omega))
    refine ⟨H5.inb i0 hi, si, c1, k_l1Own c2 (by omega) _ fun t h6 o6 f6 => ⟨t, rfl, hL5.of_no f6, ?_⟩⟩
    refine eop_lit rIss (fun k => h6.size ≤ k) (fun _ h => h) 1 (by omega) [t.v] rfl rfl fun u h7 n7 c7 o7 f7 l7 _ => ⟨u, rfl, (hL5.of_no f6).of_no f7, ?_⟩
    have s6 := f6.size
    have s7 := f7.size
    refine OwR.snoc rIss ((o5.toIv.no f6).no f7) (F' := fun k => h4.size ≤ k) (fun k _ hk => hk.1) (fun k hk => by omega) ((Ow.no o6 f7).mono fun k _ hk => Nat.le_trans z5 hk.1) (fun k hk hk2 => by have := (o6.foot hk).1.1; have := hk2.2; omega) o7.rd (by simp; omega) fun y h8 o8 f8 => ⟨y, rfl, ((hL5.of_no f6).of_no f7).iv f8 ⟨.inl l3, .inl l2, .inl l1, trivial⟩, fun h9 f9 hL9 => ?_⟩
    have s8 := f8.size
    have f9 := f9.inIv (lo := h.size) (hi := h4.size) ⟨⟨hb3, l3⟩, trivial⟩
    have s9 := f9.size
    rw [H.succ i0 hi]
    refine ⟨n - 1, by omega, by omega, by omega, ?_, ?_, by omega⟩
    · rw [take_snoc xss i0 hi]
      exact (o8.toIv.iv f9 (.inr (Nat.le_refl _))).mono fun k _ hk => hk.1
    · exact ((((f5.no_trans f6).no_trans f7).ivFresh f8 (by omega))).ivFresh f9 (Nat.le_refl _)
  · have hi := H.ge e
    rw [List.take_of_length_le (by omega)] at o5
    intro h10 f10 hL10
    have f10 := f10.inIv (lo := h.size) (hi := h4.size) ⟨⟨hb2, l2⟩, trivial⟩
    exact HK x h10 ((o5.toIv.iv f10 (.inr (Nat.le_refl _))).mono fun k hk2 hk => ⟨Nat.le_trans s4 hk.1, hk2⟩) (f5.ivFresh f10 (Nat.le_refl _))

def toldP (xss : List (List Int)) : List (List Int) := if graphB xss then xss else []
def addP (g : List (List Int)) (p q : Int) : List (List Int) × Bool :=
  if graphB g && inR 0 ((g.length : Int) - 1) p && inR 0 ((g.length : Int) - 1) q then (toldP (g.set p.toNat (g.getD p.toNat [] ++ [q])), graphB (g.set p.toNat (g.getD p.toNat [] ++ [q]))) else ([], false)
theorem inR_iff {lo hi x : Int} : inR lo hi x = true ↔ lo ≤ x ∧ x ≤ hi := by simp [inR]
theorem graph_len {g : List (List Int)} (h : graphB g = true) : 1 ≤ g.length ∧ g.length ≤ 8 := by
  unfold graphB at h
  rw [Bool.and_eq_true, inR_iff] at h
  omega
theorem graph_mem {g : List (List Int)} (h : graphB g = true) {l : List Int} (hl : l ∈ g) : l.length ≤ 5 ∧ ∀ x, x ∈ l → 0 ≤ x ∧ x < (g.length : Int) := by
  unfold graphB at h
  rw [Bool.and_eq_true] at h
  have := List.all_eq_true.1 h.2 l hl
  rw [Bool.and_eq_true] at this
  obtain ⟨h1, h2⟩ := this
  simp only [Bool.not_eq_true', decide_eq_false_iff_not] at h1
  refine ⟨by omega, fun x hx => ?_⟩
  have := List.all_eq_true.1 h2 x hx
  rw [inR_iff] at this
  omega
theorem graph_tot {g : List (List Int)} (h : graphB g = true) : totR g ≤ 40 := by
  have := tot_short (n := 5) (xss := g) (m := 8) (graph_len h).2 fun l hl => (graph_mem h hl).1
  omega
theorem toldP_tot (g : List (List Int)) : (toldP g).length + totR (toldP g) ≤ 48 := by
  unfold toldP
  split
  · rename_i h
    have := graph_tot h
    have := graph_len h
    omega
  · simp [totR]
theorem addP_tot (g : List (List Int)) (p q : Int) : (addP g p q).1.length + totR (addP g p q).1 ≤ 48 := by
  unfold addP
  split
  · exact toldP_tot _
  · simp [totR]
theorem getD_get {g : List (List Int)} {i : Nat} (h : i < g.length) : g.getD i [] = g[i] := by simp [List.getD, List.getElem?_eq_getElem h]

theorem k_told {x y : Nat} {h : Heap} {g : Sl} {xss : List (List Int)} (H : OwX h (Iv x y) g xss) (hy : y ≤ h.size) (K : Value → Heap → Prop) (HK : ∀ t h', OwX h' (Iv x y) t (toldP xss) → Fr No h h' → K (.tuple #[.agg #[t.v], VB (graphB xss)]) h') : callM Try.prog 121 #[.agg #[g.v]] h K := by
  refine v121 g h K fun b1 b2 h2 hb1 hb2 f2 hL2 => ?_
  have f2 := f2.in_nil
  have l2 : b2 < h2.size := hL2.head.lt
  refine k_isGraph (H.rd.no f2) _ fun h3 f3 => ⟨_, rfl, hL2.of_no f3, fun e h4 f4 hL4 => ?_, fun e h4 f4 hL4 => ?_⟩
  · have f4 := f4.inIv (lo := h.size) (hi := h2.size) ⟨⟨hb2, l2⟩, trivial⟩
    have e := not_t e
    have := HK nilSl h4 (by unfold toldP; rw [e]; exact OwR.nil _ _ _ _) ((f2.no_trans f3).ivFresh f4 (Nat.le_refl _))
    rw [e] at this
    exact this
  · have f4 := f4.inIv (lo := h.size) (hi := h2.size) ⟨⟨hb2, l2⟩, trivial⟩
    have e := not_f e
    have := HK g h4 (by unfold toldP; rw [e]; exact ((H.no f2).no f3).iv f4 (.inl hy)) ((f2.no_trans f3).ivFresh f4 (Nat.le_refl _))
    rw [e] at this
    exact this

theorem k_grIf {x y : Nat} {h : Heap} {g : Sl} {xss : List (List Int)} (H : OwX h (Iv x y) g xss) (hy : y ≤ h.size) (K : Value → Heap → Prop) (HK : ∀ t h', OwX h' (Iv x y) t (toldP xss) → Fr No h h' → K (.tuple #[.agg #[t.v], VB (graphB xss)]) h') : callM Try.prog 122 #[.agg #[g.v]] h K := by
  refine v122 g h K fun b1 b2 h2 hb1 hb2 f2 hL2 => ?_
  have f2 := f2.in_nil
  have l2 : b2 < h2.size := hL2.head.lt
  refine k_spec_grGood (H.rd.no f2) _ fun h3 f3 => ⟨_, rfl, hL2.of_no f3, fun e h4 f4 hL4 => ?_, fun e h4 f4 hL4 => ?_⟩
  · have f4 := f4.inIv (lo := h.size) (hi := h2.size) ⟨⟨hb2, l2⟩, trivial⟩
    have e := not_t e
    have := HK nilSl h4 (by unfold toldP; rw [e]; exact OwR.nil _ _ _ _) ((f2.no_trans f3).ivFresh f4 (Nat.le_refl _))
    rw [e] at this
    exact this
  · have f4 := f4.inIv (lo := h.size) (hi := h2.size) ⟨⟨hb2, l2⟩, trivial⟩
    have e := not_f e
    have := HK g h4 (by unfold toldP; rw [e]; exact ((H.no f2).no f3).iv f4 (.inl hy)) ((f2.no_trans f3).ivFresh f4 (Nat.le_refl _))
    rw [e] at this
    exact this

theorem k_AddExit {S : Nat → Prop} {h : Heap} {g : Sl} {xss : List (List Int)} (H : RdR S h g xss) (p q : Int) (K : Value → Heap → Prop) (HK : ∀ t h', OwX h' (Iv h.size h'.size) t (addP xss p q).1 → Fr No h h' → K (.tuple #[.agg #[t.v], VB (addP xss p q).2]) h') : callM Try.prog 60 #[.agg #[g.v], VI p, VI q] h K := by
  refine v60 g p q h K fun b1 b2 h2 hb1 hb2 f2 hL2 => ?_
  have f2 := f2.in_nil
  have l2 : b2 < h2.size := hL2.head.lt
  have l1 : b1 < h2.size := hL2.tail.head.lt
  have s2 := f2.size
  refine eop_lit rIs (fun k => h2.size ≤ k) (fun _ h => h) 2 (by omega) [VI p, VI q] rfl rfl fun t h3 n3 c3 o3 f3 m3 _ => ⟨t, rfl, hL2.of_no f3, ?_⟩
  have o3 : RdI (fun k => h2.size ≤ k) h3 t [p, q] := o3.rdF
  have hL3 := hL2.of_no f3
  have s3 := f3.size
  refine k_has ((H.no f2).no f3) o3 _ fun h4 f4 => ⟨_, rfl, hL3.of_no f4, fun e h5 f5 hL5 => ?_, fun e => ?_⟩
  all_goals simp only [List.all_cons, List.all_nil, Bool.and_true] at e
  · have f5 := f5.inIv (lo := h.size) (hi := h2.size) ⟨⟨hb2, l2⟩, trivial⟩
    have e2 : addP xss p q = ([], false) := by unfold addP; rw [Bool.and_assoc, not_t e]; rfl
    have := HK nilSl h5 (by rw [e2]; exact OwR.nil _ _ _ _) (((f2.no_trans f3).no_trans f4).ivFresh f5 (Nat.le_refl _))
    rw [e2] at this
    exact this
  · have e := not_f e
    have e2 : addP xss p q = (toldP (xss.set p.toNat (xss.getD p.toNat [] ++ [q])), graphB (xss.set p.toNat (xss.getD p.toNat [] ++ [q]))) := by unfold addP; rw [Bool.and_assoc, e]; rfl
    rw [Bool.and_eq_true, Bool.and_eq_true, inR_iff, inR_iff] at e
    obtain ⟨hg, ⟨hp0, hp1⟩, hq⟩ := e
    have hlen := graph_len hg
    have htot := graph_tot hg
    rw [e2] at HK
    have f24 := (f2.no_trans f3).no_trans f4
    have s4 := f4.size
    refine k_copied (H.no f24) (by omega) _ fun u h6 o6 f6 => ⟨u, rfl, (hL3.of_no f4).of_no f6, o6.rd.inb hp0 (by omega), fun b3 h8 hb3 f8 hL8 => ?_⟩
    have f8 := f8.in_nil
    have s6 := f6.size
    have s8 := f8.size
    have l3 : b3 < h8.size := hL8.head.lt
    have o8 := o6.no f8
    obtain ⟨si, c1, c2, _⟩ := o8.inner hp0 (by omega)
    refine ⟨si, c1, ?_⟩
    refine eop_lit rIs (fun k => h8.size ≤ k) (fun _ h => h) 1 (by omega) [VI q] rfl rfl fun v h9 n9 c9 o9 f9 m9 _ => ⟨v, rfl, hL8.of_no f9, hcell_fr c1 f9 (fun h => h), ?_⟩
    have s9 := f9.size
    have o9 : RdI (fun k => h8.size ≤ k) h9 v [q] := o9.rdF
    have hsi := (graph_mem hg (List.getElem_mem (show p.toNat < xss.length by omega))).1
    have hL9 := hL8.of_no f9
    have o8' := o8.no f9
    have c2' : OwI h9 (fun k => h4.size ≤ k) si (xss[p.toNat]'(by omega)) := (Ow.no c2 f9).mono fun k _ hk => hk.1
    refine eop_append rIs c2' (fun k hk => by omega) o9 (plainVI _) (by have h1 := RdI.len c2'.rdF; have h2 := o9.len; simp at h2; omega) fun w h10 n10 o10 f10 d10 => ⟨w, rfl, ?_⟩
    have f10' : Fr (Iv h4.size h6.size) h9 h10 := f10.mono fun k _ hk => (c2.foot hk).1
    have hL10 := hL9.iv f10' ⟨.inr hb3, .inl (by omega), .inl (by omega), trivial⟩
    have s10 := f10.size
    rw [← List.map_append] at o10
    obtain ⟨i11, w11, o11, f11⟩ := o8'.outer2 hp0 (by omega) (hcell_fr c1 f9 fun h => h) f10 (F' := fun k => h4.size ≤ k) o10 (fun k _ hk => hk.1) fun k hk => (d10 k hk).imp id fun hk2 hk3 => by have := hk3.2; omega
    have f11' : Fr (Iv h4.size h6.size) h10 _ := o8'.ownF f11
    have hL11 := hL10.iv f11' ⟨.inr hb3, .inl (by omega), .inl (by omega), trivial⟩
    refine ⟨hL10, i11, w11, hL11, fun h11 e11 _ => ?_⟩
    subst e11
    have s11 := f11.size
    refine k_told o11.toIv (Nat.le_refl _) _ fun z h12 o12 f12 => ⟨z, _, rfl, hL11.of_no f12, fun h13 f13 hL13 => ?_⟩
    have f13 := f13.inIv (lo := h.size) (hi := h2.size) ⟨⟨hb2, l2⟩, trivial⟩
    have s12 := f12.size
    have s13 := f13.size
    rw [getD_get (show p.toNat < xss.length by omega)] at HK
    refine HK z h13 ((o12.iv f13 (.inr (by omega))).mono fun k hk hF => ⟨by have := hF.1; omega, hk⟩) ?_
    exact ((((((f24.no_trans f6).no_trans f8).no_trans f9).ivFresh f10' (by omega)).ivFresh f11' (by omega)).no_trans f12).ivFresh f13 (Nat.le_refl _)

theorem k_spec_AddExit {S : Nat → Prop} {h : Heap} {g : Sl} {xss : List (List Int)} (H : RdR S h g xss) (p q : Int) (K : Value → Heap → Prop) (HK : ∀ t h', OwX h' (Iv h.size h'.size) t (addP xss p q).1 → Fr No h h' → K (.tuple #[.agg #[t.v], VB (addP xss p q).2]) h') : callM Try.prog 61 #[.agg #[g.v], VI p, VI q] h K := by
  refine v61 g p q h K fun b1 b2 h2 hb1 hb2 f2 hL2 => ?_
  have f2 := f2.in_nil
  have l2 : b2 < h2.size := hL2.head.lt
  have l1 : b1 < h2.size := hL2.tail.head.lt
  have s2 := f2.size
  refine k_spec_grPlace (H.no f2) p _ fun h3 f3 => ⟨_, rfl, hL2.of_no f3, fun e h5 f5 hL5 => ?_, fun e => ?_⟩
  · have f5 := f5.inIv (lo := h.size) (hi := h2.size) ⟨⟨hb2, l2⟩, trivial⟩
    have e2 : addP xss p q = ([], false) := by unfold addP; rw [not_t e]; rfl
    have := HK nilSl h5 (by rw [e2]; exact OwR.nil _ _ _ _) ((f2.no_trans f3).ivFresh f5 (Nat.le_refl _))
    rw [e2] at this
    exact this
  have hL3 := hL2.of_no f3
  have s3 := f3.size
  have e1 := not_f e
  refine k_spec_grPlace ((H.no f2).no f3) q _ fun h4 f4 => ⟨_, rfl, hL3.of_no f4, fun e h5 f5 hL5 => ?_, fun e => ?_⟩
  · have f5 := f5.inIv (lo := h.size) (hi := h2.size) ⟨⟨hb2, l2⟩, trivial⟩
    have e := not_t e
    have e2 : addP xss p q = ([], false) := by
      unfold addP
      rw [Bool.and_eq_true] at e1
      rw [e1.1, Bool.true_and] at e
      rw [e1.1, e1.2, e]; rfl
    have := HK nilSl h5 (by rw [e2]; exact OwR.nil _ _ _ _) (((f2.no_trans f3).no_trans f4).ivFresh f5 (Nat.le_refl _))
    rw [e2] at this
    exact this
  · have e := not_f e
    have e2 : addP xss p q = (toldP (xss.set p.toNat (xss.getD p.toNat [] ++ [q])), graphB (xss.set p.toNat (xss.getD p.toNat [] ++ [q]))) := by
      unfold addP
      rw [Bool.and_eq_true] at e
      rw [e1, e.2]; rfl
    rw [Bool.and_eq_true, inR_iff] at e e1
    obtain ⟨hg, hp0, hp1⟩ := e1
    have hlen := graph_len hg
    have htot := graph_tot hg
    rw [e2] at HK
    have f24 := (f2.no_trans f3).no_trans f4
    have s4 := f4.size
    refine k_grCopy (H.no f24) (by omega) _ fun u h6 o6 f6 => ⟨u, rfl, (hL3.of_no f4).of_no f6, o6.rd.inb hp0 (by omega), fun b3 h8 hb3 f8 hL8 => ?_⟩
    have f8 := f8.in_nil
    have s6 := f6.size
    have s8 := f8.size
    have l3 : b3 < h8.size := hL8.head.lt
    have o8 := o6.no f8
    obtain ⟨si, c1, c2, _⟩ := o8.inner hp0 (by omega)
    refine ⟨si, c1, ?_⟩
    refine eop_lit rIs (fun k => h8.size ≤ k) (fun _ h => h) 1 (by omega) [VI q] rfl rfl fun v h9 n9 c9 o9 f9 m9 _ => ⟨v, rfl, hL8.of_no f9, hcell_fr c1 f9 (fun h => h), ?_⟩
    have s9 := f9.size
    have o9 : RdI (fun k => h8.size ≤ k) h9 v [q] := o9.rdF
    have hsi := (graph_mem hg (List.getElem_mem (show p.toNat < xss.length by omega))).1
    have hL9 := hL8.of_no f9
    have o8' := o8.no f9
    have c2' : OwI h9 (fun k => h4.size ≤ k) si (xss[p.toNat]'(by omega)) := (Ow.no c2 f9).mono fun k _ hk => hk.1
    refine eop_append rIs c2' (fun k hk => by omega) o9 (plainVI _) (by have h1 := RdI.len c2'.rdF; have h2 := o9.len; simp at h2; omega) fun w h10 n10 o10 f10 d10 => ⟨w, rfl, ?_⟩
    have f10' : Fr (Iv h4.size h6.size) h9 h10 := f10.mono fun k _ hk => (c2.foot hk).1
    have hL10 := hL9.iv f10' ⟨.inr hb3, .inl (by omega), .inl (by omega), trivial⟩
    have s10 := f10.size
    rw [← List.map_append] at o10
    obtain ⟨i11, w11, o11, f11⟩ := o8'.outer2 hp0 (by omega) (hcell_fr c1 f9 fun h => h) f10 (F' := fun k => h4.size ≤ k) o10 (fun k _ hk => hk.1) fun k hk => (d10 k hk).imp id fun hk2 hk3 => by have := hk3.2; omega
    have f11' : Fr (Iv h4.size h6.size) h10 _ := o8'.ownF f11
    have hL11 := hL10.iv f11' ⟨.inr hb3, .inl (by omega), .inl (by omega), trivial⟩
    refine ⟨hL10, i11, w11, hL11, fun h11 e11 _ => ?_⟩
    subst e11
    have s11 := f11.size
    refine k_grIf o11.toIv (Nat.le_refl _) _ fun z h12 o12 f12 => ⟨z, _, rfl, hL11.of_no f12, fun h13 f13 hL13 => ?_⟩
    have f13 := f13.inIv (lo := h.size) (hi := h2.size) ⟨⟨hb2, l2⟩, trivial⟩
    have s12 := f12.size
    have s13 := f13.size
    rw [getD_get (show p.toNat < xss.length by omega)] at HK
    refine HK z h13 ((o12.iv f13 (.inr (by omega))).mono fun k hk hF => ⟨by have := hF.1; omega, hk⟩) ?_
    exact ((((((f24.no_trans f6).no_trans f8).no_trans f9).ivFresh f10' (by omega)).ivFresh f11' (by omega)).no_trans f12).ivFresh f13 (Nat.le_refl _)

theorem k_Grow0 (h : Heap) (n : Nat) (hn : n ≤ 1000000000) (K : Value → Heap → Prop) (HK : ∀ t h', OwI h' (Iv h.size h'.size) t [] → Fr No h h' → K t.v h') : callM Try.prog 164 #[nilSl.v, VI n] h K := by
  refine v164 nilSl n h K ⟨fun h' => h' = h, ⟨fun e => ?_, fun _ => rfl⟩, ?_⟩
  · simp only [decide_eq_true_eq] at e
    omega
  rintro hh rfl hL
  have e0 : w64 ((nilSl.c : Int) - (nilSl.n : Int)) = 0 := by decide
  refine pop_cap rIs ⟨_, rfl, ?_⟩
  rw [e0, show w64 ((n : Int) - 0) = n from w64_eq _ (by omega) (by omega)]
  refine ⟨fun e => ?_, fun e => ?_⟩
  · simp only [decide_eq_true_eq] at e
    refine pop_cap rIs ⟨_, rfl, pop_cut_h rIs .i64 (by simp [nilSl]) (Int.le_refl _) ⟨_, rfl, ?_⟩⟩
    have e2 : nilSl.cut 1 0 ((nilSl.c : Int)).toNat nilSl.c = nilSl := rfl
    rw [e2]
    refine eop_zeros rIs (show Try.prog.underlying tI = some (.int .i64) by kernel_rfl) (fun k => hh.size ≤ k) (fun _ h => h) _ n (by omega) (by omega) fun t h2 n2 o2 f2 l2 => ⟨t, rfl, .nil, ?_⟩
    refine pop_cut_h rIs .i64 (by simp [nilSl]) (by have := o2.cap; simp [nilSl]) ⟨_, rfl, ?_⟩
    have o3 := o2.cut (l := 0) (m := 0) (Nat.le_refl _) (Nat.zero_le _)
    have e3 : ((0 : Nat) - 0) * 1 = 0 := rfl
    rw [e3, List.take_zero] at o3
    exact HK _ h2 (Ow.toIv o3) f2
  · exact HK nilSl _ (Ow.nil _ _ _ _) (Fr.refl _ _)

theorem totR_flat (xss : List (List Int)) : xss.flatten.length = totR xss := by simp [totR, List.length_flatten]

theorem k_Concat {S : Nat → Prop} {h : Heap} {s : Sl} {xss : List (List Int)} (H : RdR S h s xss) (hn : xss.length + totR xss ≤ 1000000000) (K : Value → Heap → Prop) (HK : ∀ t h', OwI h' (Iv h.size h'.size) t xss.flatten → Fr No h h' → K t.v h') : callM Try.prog 115 #[s.v] h K := by
  refine v115 s h K ⟨fun n z i h' => h' = h ∧ 0 ≤ i ∧ i + n = (xss.length : Int) ∧ z = totR (xss.take i.toNat), ⟨xss.length, rfl, by omega, by omega, by simp [totR]⟩, ?_⟩
  rintro n z i hh ⟨rfl, i0, i1, rfl⟩ hL
  refine ⟨fun e => ?_, fun e => ?_⟩
  · have hi := H.lt e
    obtain ⟨si, c1, c2⟩ := H.get i0 hi
    have hsn := totR_snoc xss i.toNat (by omega)
    have hle := totR_take_le xss (i.toNat + 1)
    have hw : w64 ((totR (xss.take i.toNat) : Int) + si.n) = totR (xss.take (i.toNat + 1)) := by rw [c2.len, hsn]; exact w64_eq _ (by omega) (by omega)
    refine ⟨H.inb i0 hi, si, c1, ?_⟩
    rw [hw]
    refine ⟨fun e => ?_, fun e => ?_⟩
    · simp only [decide_eq_true_eq] at e
      omega
    · rw [H.succ i0 hi]
      exact ⟨n - 1, by omega, rfl, by omega, by omega, by rw [toNat_succ i0]⟩
  · have hi := H.ge e
    rw [List.take_of_length_le (by omega)]
    refine k_Grow0 _ (totR xss) (by omega) _ fun t h2 o2 f2 => ⟨t, rfl, .nil, ?_⟩
    refine ⟨fun n x i h' => 0 ≤ i ∧ i + n = (xss.length : Int) ∧ OwI h' (fun k => hh.size ≤ k) x (xss.take i.toNat).flatten ∧ Fr No hh h', ⟨xss.length, by omega, by omega, Ow.mono o2 fun k _ hk => hk.1, f2⟩, ?_⟩
    rintro n x i h3 ⟨i0, i1, o3, f3⟩ hL
    have H3 := H.no f3
    refine ⟨fun e => ?_, fun e => ?_⟩
    · have hi := H.lt e
      obtain ⟨si, c1, c2⟩ := H3.get i0 hi
      have hsn := totR_snoc xss i.toNat (by omega)
      have hle := totR_take_le xss (i.toNat + 1)
      have hfl := totR_flat (xss.take i.toNat)
      refine ⟨H3.inb i0 hi, si, c1, eop_append rIs o3 (fun k hk => Nat.le_trans f3.size hk) c2 (plainVI _) (by have h1 := c2.len; have h2 := RdI.len o3.rdF; omega) fun y h4 n4 o4 f4 d4 => ⟨y, rfl, .nil, ?_⟩⟩
      rw [H.succ i0 hi]
      refine ⟨n - 1, by omega, by omega, by omega, ?_, f3.fresh f4 fun k hk => (o3.foot hk).1⟩
      rw [take_snoc xss i0 hi, List.flatten_append, List.flatten_cons, List.flatten_nil, List.append_nil]
      rw [← List.map_append] at o4
      exact o4
    · have hi := H.ge e
      rw [List.take_of_length_le (by omega)] at o3
      exact HK x h3 o3.toIv f3

def rotL (l : List Int) (k : Nat) : List Int := l.drop (k % l.length) ++ l.take (k % l.length)
def turnP (g : List (List Int)) (p k : Int) : List (List Int) × Bool :=
  if graphB g && inR 0 ((g.length : Int) - 1) p && inR 0 1000 k then (g.set p.toNat (rotL (g.getD p.toNat []) k.toNat), true) else ([], false)
theorem rotL_length (l : List Int) (k : Nat) : (rotL l k).length = l.length := by
  unfold rotL
  simp
  rcases Nat.eq_zero_or_pos l.length with h | h
  · simp [h]
  · have := Nat.mod_lt k h
    omega
theorem rot_get (l : List Int) (j i : Nat) (h : i < l.length) (hj : j < l.length) : (l.drop j ++ l.take j)[i]? = l[(i + j) % l.length]? := by
  by_cases h1 : i < (l.drop j).length
  · rw [List.getElem?_append_left h1]
    simp only [List.length_drop] at h1
    rw [Nat.mod_eq_of_lt (by omega), List.getElem?_drop]
    congr 1
    omega
  · rw [List.getElem?_append_right (by omega)]
    simp only [List.length_drop] at h1 ⊢
    rw [Nat.mod_eq_sub_mod (by omega), Nat.mod_eq_of_lt (by omega), List.getElem?_take, if_pos (by omega)]
    congr 1
    omega
theorem rotL_get (l : List Int) (k i : Nat) (h : i < l.length) : (rotL l k)[i]'(by rw [rotL_length]; exact h) = l[(i + k) % l.length]'(Nat.mod_lt _ (by omega)) := by
  have hm := Nat.mod_lt k (show 0 < l.length by omega)
  have := rot_get l (k % l.length) i h hm
  rw [Nat.add_mod_mod, List.getElem?_eq_getElem (by simp; omega), List.getElem?_eq_getElem (Nat.mod_lt _ (by omega))] at this
  exact Option.some.inj this
theorem totR_set (xss : List (List Int)) (i : Nat) (ys : List Int) : totR (xss.set i ys) ≤ totR xss + ys.length := by
  induction xss generalizing i with
  | nil => simp [totR]
  | cons x xs ih =>
    cases i with
    | zero => simp [totR]; omega
    | succ i =>
      have := ih i
      simp only [totR, List.set_cons_succ, List.map_cons, List.sum_cons] at *
      omega
theorem turnP_tot (g : List (List Int)) (p k : Int) : (turnP g p k).1.length + totR (turnP g p k).1 ≤ 100 := by
  unfold turnP
  split
  · rename_i h
    rw [Bool.and_eq_true, Bool.and_eq_true, inR_iff, inR_iff] at h
    obtain ⟨⟨h1, h2, h3⟩, _⟩ := h
    have a := graph_tot h1
    have b := graph_len h1
    have c := totR_set g p.toNat (rotL (g.getD p.toNat []) k.toNat)
    rw [rotL_length, getD_get (by omega)] at c
    have d := (graph_mem h1 (List.getElem_mem (show p.toNat < g.length by omega))).1
    simp only [List.length_set]
    rw [getD_get (by omega)]
    omega
  · simp [totR]
theorem tmod_nat {k n : Int} (h0 : 0 ≤ k) (hn : 0 ≤ n) : Int.tmod k n = ((k.toNat % n.toNat : Nat) : Int) := by
  obtain ⟨a, rfl⟩ := Int.eq_ofNat_of_zero_le h0
  obtain ⟨b, rfl⟩ := Int.eq_ofNat_of_zero_le hn
  rfl

theorem k_TurnExits {S : Nat → Prop} {h : Heap} {g : Sl} {xss : List (List Int)} (H : RdR S h g xss) (p k : Int) (K : Value → Heap → Prop) (HK : ∀ t h', OwX h' (Iv h.size h'.size) t (turnP xss p k).1 → Fr No h h' → K (.tuple #[.agg #[t.v], VB (turnP xss p k).2]) h') : callM Try.prog 56 #[.agg #[g.v], VI p, VI k] h K := by
  refine v56 g p k h K fun b1 b2 h2 hb1 hb2 f2 hL2 => ?_
  have f2 := f2.in_nil
  have l2 : b2 < h2.size := hL2.head.lt
  have l1 : b1 < h2.size := hL2.tail.head.lt
  have s2 := f2.size
  refine eop_lit rIs (fun k => h2.size ≤ k) (fun _ h => h) 1 (by omega) [VI p] rfl rfl fun t h3 n3 c3 o3 f3 m3 _ => ⟨t, rfl, hL2.of_no f3, ?_⟩
  have o3 : RdI (fun k => h2.size ≤ k) h3 t [p] := o3.rdF
  have hL3 := hL2.of_no f3
  have s3 := f3.size
  refine k_has ((H.no f2).no f3) o3 _ fun h4 f4 => ⟨_, rfl, hL3.of_no f4, fun e h5 f5 hL5 => ?_, fun e => ?_⟩
  all_goals simp only [List.all_cons, List.all_nil, Bool.and_true] at e
  · have f5 := f5.inIv (lo := h.size) (hi := h2.size) ⟨⟨hb2, l2⟩, trivial⟩
    have e2 : turnP xss p k = ([], false) := by unfold turnP; rw [not_t e]; rfl
    have := HK nilSl h5 (by rw [e2]; exact OwR.nil _ _ _ _) (((f2.no_trans f3).no_trans f4).ivFresh f5 (Nat.le_refl _))
    rw [e2] at this
    exact this
  have e := not_f e
  have hL4 := hL3.of_no f4
  refine k_impl_in _ _ _ _ _ ⟨_, rfl, hL4, fun e1 h5 f5 hL5 => ?_, fun e1 => ?_⟩
  · have f5 := f5.inIv (lo := h.size) (hi := h2.size) ⟨⟨hb2, l2⟩, trivial⟩
    have e1 : inR 0 1000 k = false := not_t e1
    have e2 : turnP xss p k = ([], false) := by unfold turnP; rw [e, e1]; rfl
    have := HK nilSl h5 (by rw [e2]; exact OwR.nil _ _ _ _) (((f2.no_trans f3).no_trans f4).ivFresh f5 (Nat.le_refl _))
    rw [e2] at this
    exact this
  have e1 : inR 0 1000 k = true := not_f e1
  have e2 : turnP xss p k = (xss.set p.toNat (rotL (xss.getD p.toNat []) k.toNat), true) := by unfold turnP; rw [e, e1]; rfl
  rw [Bool.and_eq_true, inR_iff] at e
  rw [inR_iff] at e1
  obtain ⟨hg, hp0, hp1⟩ := e
  obtain ⟨hk0, hk1⟩ := e1
  have hlen := graph_len hg
  have htot := graph_tot hg
  have hpl : p.toNat < xss.length := by omega
  rw [e2, getD_get hpl] at HK
  have hsi := (graph_mem hg (List.getElem_mem hpl)).1
  have f24 := (f2.no_trans f3).no_trans f4
  have s4 := f4.size
  refine k_copied (H.no f24) (by omega) _ fun u h6 o6 f6 => ⟨u, rfl, hL4.of_no f6, fun b3 h8 hb3 f8 hL8 => ?_⟩
  have f8 := f8.in_nil
  have s6 := f6.size
  have s8 := f8.size
  have l3 : b3 < h8.size := hL8.head.lt
  have o8 := o6.no f8
  have f28 := (f24.no_trans f6).no_trans f8
  have H8 := H.no f28
  obtain ⟨si, c1, c2⟩ := H8.get hp0 (by omega)
  have hlq := c2.len
  refine ⟨fun h' => OwX h' (fun k => h4.size ≤ k) u (xss.set p.toNat (rotL (xss[p.toNat]'hpl) k.toNat)) ∧ Fr No h h' ∧ h4.size ≤ h'.size, ⟨H8.inb hp0 (by omega), si, c1, fun e3 => ?_, fun e3 => ?_⟩, ?_⟩
  · simp only [decide_eq_true_eq] at e3
    have hq : 0 < (xss[p.toNat]'hpl).length := by omega
    have hmod := Nat.mod_lt k.toNat hq
    have hj : Int.tmod k (si.n : Int) = ((k.toNat % (xss[p.toNat]'hpl).length : Nat) : Int) := by rw [tmod_nat hk0 (by omega), hlq]; simp
    refine ⟨by omega, ?_⟩
    rw [hj]
    refine pop_cut_l rIs .i64 (by omega) (by omega) ⟨_, rfl, pop_cut_h rIs .i64 (by omega) (by have := RdV.cap c2; omega) ⟨_, rfl, ?_⟩⟩
    simp only [Int.toNat_natCast]
    have r1 := c2.cut (l := k.toNat % (xss[p.toNat]'hpl).length) (m := si.n) (by omega) (by omega)
    have r2 := c2.cut (l := 0) (m := k.toNat % (xss[p.toNat]'hpl).length) (by omega) (by omega)
    rw [List.take_of_length_le (by simp; omega)] at r1
    rw [List.drop_zero, Nat.sub_zero] at r2
    refine eop_lit rIss (fun k => h8.size ≤ k) (fun _ h => h) 2 (by omega) [(si.cut 1 (k.toNat % (xss[p.toNat]'hpl).length) si.n si.c).v, (si.cut 1 0 (k.toNat % (xss[p.toNat]'hpl).length) si.c).v] rfl rfl fun v h10 n10 c10 o10 f10 m10 _ => ⟨v, rfl, hL8.of_no f10, ?_⟩
    have s10 := f10.size
    have R10 : RdR (fun _ => True) h10 v [(xss[p.toNat]'hpl).drop (k.toNat % (xss[p.toNat]'hpl).length), (xss[p.toNat]'hpl).take (k.toNat % (xss[p.toNat]'hpl).length)] := by
      refine ⟨[si.cut 1 (k.toNat % (xss[p.toNat]'hpl).length) si.n si.c, si.cut 1 0 (k.toNat % (xss[p.toNat]'hpl).length) si.c], rfl, o10.rd.mono fun _ _ => trivial, fun i a b => ?_⟩
      match i, a with
      | 0, _ => exact (r1.no f10).mono fun _ _ => trivial
      | 1, _ => exact (r2.no f10).mono fun _ _ => trivial
    refine k_Concat R10 (by simp [totR]; omega) _ fun w h11 o11 f11 => ⟨w, rfl, (hL8.of_no f10).of_no f11, ?_⟩
    have s11 := f11.size
    have o11' : OwI h11 (fun k => h4.size ≤ k) w (rotL (xss[p.toNat]'hpl) k.toNat) := by
      have e4 : [(xss[p.toNat]'hpl).drop (k.toNat % (xss[p.toNat]'hpl).length), (xss[p.toNat]'hpl).take (k.toNat % (xss[p.toNat]'hpl).length)].flatten = rotL (xss[p.toNat]'hpl) k.toNat := by simp [rotL]
      rw [e4] at o11
      exact Ow.mono o11 fun k _ hk => by have := hk.1; omega
    have o8' := (o8.no f10).no f11
    obtain ⟨sj, d1, d2, _⟩ := o8'.inner hp0 (by omega)
    obtain ⟨i12, w12, o12, f12⟩ := o8'.outer2 hp0 (by omega) d1 (Fr.refl _ _) (F' := fun k => h4.size ≤ k) o11' (fun k _ hk => hk.1) fun k hk => .inr fun hk2 => by have := (o11.foot hk).1.1; have := hk2.2; omega
    have f12' : Fr (Iv h4.size h6.size) h11 _ := o8'.ownF f12
    have hL12 := ((hL8.of_no f10).of_no f11).iv f12' ⟨.inr hb3, .inl (by omega), .inl (by omega), trivial⟩
    refine ⟨i12, w12, hL12, fun h13 e13 _ => ?_⟩
    subst e13
    exact ⟨o12, ((f28.no_trans f10).no_trans f11).ivFresh f12' (by omega), by have := f12.size; omega⟩
  · simp only [decide_eq_false_iff_not] at e3
    have hz : xss[p.toNat]'hpl = [] := List.eq_nil_of_length_eq_zero (by omega)
    have e4 : xss.set p.toNat (rotL (xss[p.toNat]'hpl) k.toNat) = xss := by
      have : rotL (xss[p.toNat]'hpl) k.toNat = xss[p.toNat]'hpl := by rw [hz]; simp [rotL]
      rw [this, List.set_getElem_self]
    show OwX h8 (fun k => h4.size ≤ k) u (xss.set p.toNat (rotL (xss[p.toNat]'hpl) k.toNat)) ∧ Fr No h h8 ∧ h4.size ≤ h8.size
    rw [e4]
    exact ⟨o8.mono fun k _ hk => hk.1, f28, by omega⟩
  · rintro h13 ⟨o13, f13, s13⟩ hL13 h14 f14 hL14
    have f14 := f14.inIv (lo := h.size) (hi := h2.size) ⟨⟨hb2, l2⟩, trivial⟩
    exact HK u h14 ((o13.toIv.iv f14 (.inr (by omega))).mono fun k hk hF => ⟨by have := hF.1; omega, hk⟩) (f13.ivFresh f14 (Nat.le_refl _))

theorem k_spec_TurnExits {S : Nat → Prop} {h : Heap} {g : Sl} {xss : List (List Int)} (H : RdR S h g xss) (p k : Int) (K : Value → Heap → Prop) (HK : ∀ t h', OwX h' (Iv h.size h'.size) t (turnP xss p k).1 → Fr No h h' → K (.tuple #[.agg #[t.v], VB (turnP xss p k).2]) h') : callM Try.prog 57 #[.agg #[g.v], VI p, VI k] h K := by
  refine v57 g p k h K fun b1 b2 h2 hb1 hb2 f2 hL2 => ?_
  have f2 := f2.in_nil
  have l2 : b2 < h2.size := hL2.head.lt
  have l1 : b1 < h2.size := hL2.tail.head.lt
  have s2 := f2.size
  refine k_spec_grPlace (H.no f2) p _ fun h3 f3 => ⟨_, rfl, hL2.of_no f3, fun e h5 f5 hL5 => ?_, fun e => ?_⟩
  · have f5 := f5.inIv (lo := h.size) (hi := h2.size) ⟨⟨hb2, l2⟩, trivial⟩
    have e2 : turnP xss p k = ([], false) := by unfold turnP; rw [not_t e]; rfl
    have := HK nilSl h5 (by rw [e2]; exact OwR.nil _ _ _ _) ((f2.no_trans f3).ivFresh f5 (Nat.le_refl _))
    rw [e2] at this
    exact this
  have e := not_f e
  have hL3 := hL2.of_no f3
  refine k_spec_l1In _ _ _ _ _ ⟨_, rfl, hL3, fun e1 h5 f5 hL5 => ?_, fun e1 => ?_⟩
  · have f5 := f5.inIv (lo := h.size) (hi := h2.size) ⟨⟨hb2, l2⟩, trivial⟩
    have e1 : inR 0 1000 k = false := not_t e1
    have e2 : turnP xss p k = ([], false) := by unfold turnP; rw [e, e1]; rfl
    have := HK nilSl h5 (by rw [e2]; exact OwR.nil _ _ _ _) ((f2.no_trans f3).ivFresh f5 (Nat.le_refl _))
    rw [e2] at this
    exact this
  have e1 : inR 0 1000 k = true := not_f e1
  have e2 : turnP xss p k = (xss.set p.toNat (rotL (xss.getD p.toNat []) k.toNat), true) := by unfold turnP; rw [e, e1]; rfl
  rw [Bool.and_eq_true, inR_iff] at e
  rw [inR_iff] at e1
  obtain ⟨hg, hp0, hp1⟩ := e
  obtain ⟨hk0, hk1⟩ := e1
  have hlen := graph_len hg
  have htot := graph_tot hg
  have hpl : p.toNat < xss.length := by omega
  rw [e2, getD_get hpl] at HK
  have hsi := (graph_mem hg (List.getElem_mem hpl)).1
  have f23 := f2.no_trans f3
  have s3 := f3.size
  refine k_grCopy (H.no f23) (by omega) _ fun u h6 o6 f6 => ⟨u, rfl, hL3.of_no f6, H.inb hp0 (by omega), fun b3 h8 hb3 f8 hL8 => ?_⟩
  have f8 := f8.in_nil
  have s6 := f6.size
  have s8 := f8.size
  have l3 : b3 < h8.size := hL8.head.lt
  have o8 := o6.no f8
  have f28 := (f23.no_trans f6).no_trans f8
  have H8 := H.low.no f28
  obtain ⟨si, c1, c2⟩ := H8.get hp0 (by omega)
  have hlq := c2.len
  refine ⟨si, c1, fun n i h' => 0 ≤ i ∧ i + n = ((xss[p.toNat]'hpl).length : Int) ∧ OwX h' (Iv h3.size h6.size) u (xss.set p.toNat ((rotL (xss[p.toNat]'hpl) k.toNat).take i.toNat ++ (xss[p.toNat]'hpl).drop i.toNat)) ∧ Fr (Iv h3.size h6.size) h8 h', ⟨(xss[p.toNat]'hpl).length, by omega, by omega, by simpa using o8, Fr.refl _ _⟩, ?_⟩
  rintro n i h9 ⟨i0, i1, o9, f9⟩ hL9
  have c2' := c2.fr f9 fun k hk hk2 => by have := hk2.1; have := f23.size; omega
  refine ⟨fun e3 => ?_, fun e3 => ?_⟩
  · have hi := c2'.lt e3
    have hz : ∀ (L : List Int), (xss.set p.toNat L)[p.toNat]'(by simpa using hpl) = L := fun L => by simp
    obtain ⟨sj, d1, d2, d3⟩ := o9.inner hp0 (by simp; omega)
    rw [hz] at d2
    have hjl : sj.n = (xss[p.toNat]'hpl).length := by have := RdI.len d2.rdF; simp [rotL_length] at this; omega
    have hw : w64 (i + k) = i + k := w64_eq _ (by omega) (by omega)
    have hm : Int.tmod (i + k) (si.n : Int) = (((i.toNat + k.toNat) % (xss[p.toNat]'hpl).length : Nat) : Int) := by
      rw [tmod_nat (by omega) (by omega), hlq]
      congr 2
      omega
    have hml := Nat.mod_lt (i.toNat + k.toNat) (show 0 < (xss[p.toNat]'hpl).length by omega)
    rw [hw, hm]
    have hrl : (rotL (xss[p.toNat]'hpl) k.toNat).length = (xss[p.toNat]'hpl).length := rotL_length _ _
    obtain ⟨w1, w2, w3⟩ := d2.store1 i0 (by omega) (VI ((rotL (xss[p.toNat]'hpl) k.toNat)[i.toNat]'(by omega)))
    have hv := c2'.get (i := (((i.toNat + k.toNat) % (xss[p.toNat]'hpl).length : Nat) : Int)) (by omega) (by omega)
    have hv2 : (xss[p.toNat]'hpl)[((((i.toNat + k.toNat) % (xss[p.toNat]'hpl).length : Nat) : Int)).toNat]'(by rw [Int.toNat_natCast]; exact hml) = (rotL (xss[p.toNat]'hpl) k.toNat)[i.toNat]'(by omega) := by
      rw [rotL_get _ _ _ (by omega)]
      congr 1
    rw [hv2] at hv
    have f10 : Fr (Iv h3.size h6.size) h9 _ := w3.mono fun k _ hk => (d2.foot hk).1
    have hL10 := hL9.iv f10 ⟨.inr hb3, .inl (by omega), .inl (by omega), trivial⟩
    refine ⟨o9.rd.inb hp0 (by simp; omega), sj, d1, by omega, c2'.inb (by omega) (by omega), _, hv, d2.inb i0 (by omega), w1, hL10, fun h10 e10 _ => ?_⟩
    subst e10
    rw [← List.map_set, set_mid _ _ _ _ (by omega)] at w2
    have o10 := d3 _ _ w3 w2
    rw [List.set_set] at o10
    rw [c2'.succ i0 hi]
    exact ⟨n - 1, by omega, by omega, by omega, by rw [toNat_succ i0]; exact o10, f9.trans f10⟩
  · have hi := c2'.ge e3
    have hrl : (rotL (xss[p.toNat]'hpl) k.toNat).length = (xss[p.toNat]'hpl).length := rotL_length _ _
    rw [List.take_of_length_le (by omega), List.drop_of_length_le (by omega), List.append_nil] at o9
    intro h11 f11 hL11
    have f11 := f11.inIv (lo := h.size) (hi := h2.size) ⟨⟨hb2, l2⟩, trivial⟩
    have s9 := f9.size
    have s11 := f11.size
    have := f23.size
    exact HK u h11 ((o9.iv f11 (.inr (by omega))).mono fun k hk hF => ⟨by have := hF.1; omega, hk⟩) ((f28.ivFresh f9 (by omega)).ivFresh f11 (Nat.le_refl _))

/-- A walk's state: its rotors and its place. -/
abbrev St := List Int × Int
def stepP (g : List (List Int)) (w : St) : Option St :=
  if (g.getD w.2.toNat []).length = 0 then none
  else some (w.1.set w.2.toNat ((((w.1.getD w.2.toNat 0).toNat + 1) % (g.getD w.2.toNat []).length : Nat) : Int), (g.getD w.2.toNat []).getD (((w.1.getD w.2.toNat 0).toNat + 1) % (g.getD w.2.toNat []).length) 0)
structure WOK (g : List (List Int)) (w : St) : Prop where
  graph : graphB g = true
  len : w.1.length = g.length
  lo : 0 ≤ w.2
  hi : w.2 < (g.length : Int)
  rot : ∀ i (h : i < w.1.length) (h' : i < g.length), 0 ≤ w.1[i] ∧ w.1[i] ≤ max ((g[i].length : Int) - 1) 0
theorem wok_of {g : List (List Int)} {rs : List Int} {p : Int} (h : walkB g rs p = true) : WOK g (rs, p) := by
  unfold walkB at h
  simp only [Bool.and_eq_true, decide_eq_true_eq] at h
  obtain ⟨⟨⟨h1, h2⟩, h3⟩, h4⟩ := h
  rw [inR_iff] at h2
  refine ⟨h1, h3, h2.1, by simp only; omega, fun i a b => ?_⟩
  have := List.all_eq_true.1 h4 (g[i], rs[i]) (by
    rw [show (g[i], rs[i]) = (g.zip rs)[i]'(by simp only [List.length_zip]; simp only at a; omega) by simp]
    exact List.getElem_mem _)
  unfold rotB at this
  rw [inR_iff] at this
  exact this
theorem stepP_none {g : List (List Int)} {w : St} (W : WOK g w) (hp : w.2.toNat < g.length) : (g[w.2.toNat]).length = 0 → stepP g w = none := fun h => by
  unfold stepP
  rw [getD_get hp, if_pos h]
theorem getD_getI {xs : List Int} {i : Nat} (h : i < xs.length) : xs.getD i 0 = xs[i] := by simp [List.getD, List.getElem?_eq_getElem h]
theorem stepP_some {g : List (List Int)} {w : St} (W : WOK g w) (hp : w.2.toNat < g.length) (hr : w.2.toNat < w.1.length) (h : (g[w.2.toNat]).length ≠ 0) :
    stepP g w = some (w.1.set w.2.toNat ((((w.1[w.2.toNat]).toNat + 1) % (g[w.2.toNat]).length : Nat) : Int), (g[w.2.toNat])[((w.1[w.2.toNat]).toNat + 1) % (g[w.2.toNat]).length]'(Nat.mod_lt _ (by omega))) := by
  unfold stepP
  rw [getD_get hp, if_neg h, getD_getI hr, getD_getI (Nat.mod_lt _ (by omega))]
theorem WOK.step {g : List (List Int)} {w w' : St} (W : WOK g w) (h : stepP g w = some w') : WOK g w' := by
  have hp : w.2.toNat < g.length := by have := W.hi; have := W.lo; omega
  have hr : w.2.toNat < w.1.length := by rw [W.len]; exact hp
  by_cases h0 : (g[w.2.toNat]).length = 0
  · rw [stepP_none W hp h0] at h; cases h
  · rw [stepP_some W hp hr h0] at h
    have hm := Nat.mod_lt ((w.1[w.2.toNat]).toNat + 1) (show 0 < (g[w.2.toNat]).length by omega)
    simp only [Option.some.injEq] at h
    subst h
    have hmem := (graph_mem W.graph (List.getElem_mem hp)).2 _ (List.getElem_mem hm)
    refine ⟨W.graph, by simpa using W.len, hmem.1, hmem.2, fun i a b => ?_⟩
    simp only [List.length_set] at a
    simp only [List.getElem_set]
    split
    · rename_i e
      subst e
      omega
    · exact W.rot i a b

def firstGo {τ : Type} (g : List (List Int)) (test : τ → St → Bool × τ) (frm : Int) : Nat → Int → τ → St → Int × Bool
  | 0, _, _, _ => (0, false)
  | f + 1, n, t, s =>
    if frm ≤ n then
      if (test t s).1 then (n, true)
      else match stepP g s with
        | none => (0, false)
        | some s' => firstGo g test frm f (n + 1) (test t s).2 s'
    else match stepP g s with
      | none => (0, false)
      | some s' => firstGo g test frm f (n + 1) t s'

def hitP (g : List (List Int)) (rs : List Int) (p q : Int) : Int × Bool :=
  if walkB g rs p && (graphB g && inR 0 ((g.length : Int) - 1) q) then firstGo g (fun (_ : Unit) s => (decide (s.2 = q), ())) 0 2001 0 () (rs, p) else (0, false)
theorem rdI_not {S : Nat → Prop} {h : Heap} {s : Sl} {xs : List Int} (H : RdI S h s xs) {b : Nat} (hb : h.size ≤ b) : RdI (fun k => k ≠ b) h s xs := H.low.mono fun k hk => by omega

def metT (met : List Bool) (s : St) : Bool × List Bool := (!((met.set s.2.toNat true).any (false == ·)), met.set s.2.toNat true)
def coverP (g : List (List Int)) (rs : List Int) (p : Int) : Int × Bool :=
  if walkB g rs p then firstGo g metT 0 2001 0 (List.replicate g.length false) (rs, p) else (0, false)

def sameT (rs : List Int) (p : Int) (_ : Unit) (s : St) : Bool × Unit := (decide (p = s.2 ∧ rs = s.1), ())
def recP (g : List (List Int)) (rs : List Int) (p : Int) : Bool × Bool :=
  if walkB g rs p then ((firstGo g (sameT rs p) 1 2001 0 () (rs, p)).2, true) else (false, false)
theorem first_pos (g : List (List Int)) (test : Unit → St → Bool × Unit) : ∀ (f : Nat) (n : Int) (s : St), 0 ≤ n → (firstGo g test 1 f n () s).2 = decide (0 < (firstGo g test 1 f n () s).1)
  | 0, n, s, _ => by simp [firstGo]
  | f + 1, n, s, h => by
    rw [firstGo]
    split
    · split
      · have : 0 < n := by omega
        simp [this]
      · split
        · simp
        · exact first_pos g test f (n + 1) _ (by omega)
    · split
      · simp
      · exact first_pos g test f (n + 1) _ (by omega)

def runT {τ : Type} (g : List (List Int)) (upd : τ → St → St → τ) : Nat → τ → St → Option (τ × St)
  | 0, t, s => some (t, s)
  | n + 1, t, s => match stepP g s with
    | none => none
    | some s' => runT g upd n (upd t s s') s'

theorem runT_snoc {τ : Type} {g : List (List Int)} {upd : τ → St → St → τ} {s'' : St} : ∀ (n : Nat) (t : τ) (s : St) (t' : τ) (s' : St), runT g upd n t s = some (t', s') → stepP g s' = some s'' → runT g upd (n + 1) t s = some (upd t' s' s'', s'')
  | 0, t, s, t', s', h, hs => by
    simp only [runT, Option.some.injEq, Prod.mk.injEq] at h
    obtain ⟨rfl, rfl⟩ := h
    rw [runT, hs]
    rfl
  | n + 1, t, s, t', s', h, hs => by
    rw [runT] at h
    rw [runT]
    split at h
    · cases h
    · rename_i s2 h2
      exact runT_snoc n _ _ _ _ h hs

def runOfP (g : List (List Int)) (rs : List Int) (p n : Int) : St × Bool :=
  if walkB g rs p && inR 0 2000 n then match runT g (fun (_ : Unit) _ _ => ()) n.toNat () (rs, p) with
    | none => (([], 0), false)
    | some (_, s) => (s, true)
  else (([], 0), false)
theorem run_len {τ : Type} {g : List (List Int)} {upd : τ → St → St → τ} : ∀ (n : Nat) (t : τ) (s : St), WOK g s → ∀ t' s', runT g upd n t s = some (t', s') → WOK g s'
  | 0, t, s, W, t', s', h => by
    simp only [runT, Option.some.injEq, Prod.mk.injEq] at h
    rw [← h.2]; exact W
  | n + 1, t, s, W, t', s', h => by
    rw [runT] at h
    split at h
    · cases h
    · rename_i s2 hs
      exact run_len n _ s2 (W.step hs) t' s' h
theorem runOfP_len (g : List (List Int)) (rs : List Int) (p n : Int) : (runOfP g rs p n).1.1.length ≤ 8 := by
  unfold runOfP
  split
  · rename_i h
    rw [Bool.and_eq_true] at h
    have W := wok_of h.1
    split
    · simp
    · rename_i s hs
      have W2 := run_len _ _ _ W _ _ hs
      have := graph_len W2.graph
      have := W2.len
      simp only
      omega
  · simp

/-- A run: its end, what was passed, visits, uses. -/
structure Rn where
  s : St
  ps : List Int
  vs : List Int
  us : List (List Int)
def bump (l : List Int) (i : Nat) : List Int := l.set i (l.getD i 0 + 1)
def goP (g : List (List Int)) : Nat → Rn → Option Rn
  | 0, r => some r
  | n + 1, r => match stepP g r.s with
    | none => none
    | some s' => goP g n ⟨s', r.ps ++ [s'.2], bump r.vs s'.2.toNat, r.us.set r.s.2.toNat (bump (r.us.getD r.s.2.toNat []) (s'.1.getD r.s.2.toNat 0).toNat)⟩
def zerosR (g : List (List Int)) : List (List Int) := g.map fun l => List.replicate l.length 0
def go0 (g : List (List Int)) (s : St) : Rn := ⟨s, [s.2], List.replicate g.length 0, zerosR g⟩
/-- What holds of a run on its way. -/
structure RnOK (g : List (List Int)) (m : Nat) (r : Rn) : Prop where
  w : WOK g r.s
  ps : r.ps.length = m + 1
  vs : r.vs.length = g.length
  us : r.us.length = g.length
  row : ∀ i (h : i < r.us.length) (h' : i < g.length), r.us[i].length = g[i].length
  vb : ∀ x, x ∈ r.vs → 0 ≤ x ∧ x ≤ m
  ub : ∀ l, l ∈ r.us → ∀ x, x ∈ l → 0 ≤ x ∧ x ≤ m
theorem bump_length (l : List Int) (i : Nat) : (bump l i).length = l.length := by simp [bump]
theorem bump_mem {l : List Int} {i m : Nat} (h : ∀ x, x ∈ l → 0 ≤ x ∧ x ≤ (m : Int)) : ∀ x, x ∈ bump l i → 0 ≤ x ∧ x ≤ ((m + 1 : Nat) : Int) := by
  intro x hx
  unfold bump at hx
  rcases List.mem_or_eq_of_mem_set hx with hx | rfl
  · have := h x hx; omega
  · by_cases hi : i < l.length
    · rw [getD_getI hi]
      have := h _ (List.getElem_mem hi)
      omega
    · rw [show l.getD i 0 = 0 by simp [List.getD, List.getElem?_eq_none (by omega : l.length ≤ i)]]
      omega
theorem RnOK.step {g : List (List Int)} {m : Nat} {r : Rn} (R : RnOK g m r) {s' : St} (hs : stepP g r.s = some s') : RnOK g (m + 1) ⟨s', r.ps ++ [s'.2], bump r.vs s'.2.toNat, r.us.set r.s.2.toNat (bump (r.us.getD r.s.2.toNat []) (s'.1.getD r.s.2.toNat 0).toNat)⟩ := by
  have hp : r.s.2.toNat < r.us.length := by rw [R.us]; have := R.w.hi; have := R.w.lo; omega
  refine ⟨R.w.step hs, by simp [R.ps], by simp [bump_length, R.vs], by simp [R.us], fun i a b => ?_, bump_mem R.vb, fun l hl => ?_⟩
  · simp only [List.length_set] at a
    simp only [List.getElem_set]
    split
    · rename_i e
      subst e
      rw [bump_length, getD_get hp]
      exact R.row _ a b
    · exact R.row i a b
  · rcases List.mem_or_eq_of_mem_set hl with hl | rfl
    · exact fun x hx => by have := R.ub l hl x hx; omega
    · rw [getD_get hp]
      exact bump_mem (R.ub _ (List.getElem_mem hp))
theorem go0_ok {g : List (List Int)} {s : St} (W : WOK g s) : RnOK g 0 (go0 g s) := by
  refine ⟨W, rfl, by simp [go0], by simp [go0, zerosR], fun i a b => by simp [go0, zerosR], fun x hx => ?_, fun l hl x hx => ?_⟩
  · simp only [go0, List.mem_replicate] at hx
    omega
  · simp only [go0, zerosR, List.mem_map] at hl
    obtain ⟨l', _, rfl⟩ := hl
    simp only [List.mem_replicate] at hx
    omega

def nextR (r : Rn) (s' : St) : Rn := ⟨s', r.ps ++ [s'.2], bump r.vs s'.2.toNat, r.us.set r.s.2.toNat (bump (r.us.getD r.s.2.toNat []) (s'.1.getD r.s.2.toNat 0).toNat)⟩
/-- A run that keeps one thing is the run that keeps all of them, seen from there. -/
theorem go_run {τ : Type} (g : List (List Int)) (f : Rn → τ) (upd : τ → St → St → τ) (hf : ∀ r s', f (nextR r s') = upd (f r) r.s s') : ∀ (n : Nat) (r : Rn), runT g upd n (f r) r.s = (goP g n r).map fun r => (f r, r.s)
  | 0, r => by simp [runT, goP]
  | n + 1, r => by
    rw [runT, goP]
    cases stepP g r.s with
    | none => rfl
    | some s' =>
      show runT g upd n (upd (f r) r.s s') s' = (goP g n (nextR r s')).map _
      rw [← go_run g f upd hf n (nextR r s'), hf]
      rfl

def passU (t : List Int) (_ s' : St) : List Int := t ++ [s'.2]
def passP (g : List (List Int)) (rs : List Int) (p n : Int) : List Int × Bool :=
  if walkB g rs p && inR 0 200 n then match runT g passU n.toNat [p] (rs, p) with
    | none => ([], false)
    | some (t, _) => (t, true)
  else ([], false)
def visU (t : List Int) (_ s' : St) : List Int := bump t s'.2.toNat
def visP (g : List (List Int)) (rs : List Int) (p n : Int) : List Int × Bool :=
  if walkB g rs p && inR 0 2000 n then match runT g visU n.toNat (List.replicate g.length 0) (rs, p) with
    | none => ([], false)
    | some (t, _) => (t, true)
  else ([], false)
def useU (t : List (List Int)) (s s' : St) : List (List Int) := t.set s.2.toNat (bump (t.getD s.2.toNat []) (s'.1.getD s.2.toNat 0).toNat)
def useP (g : List (List Int)) (rs : List Int) (p n : Int) : List (List Int) × Bool :=
  if walkB g rs p && inR 0 2000 n then match runT g useU n.toNat (zerosR g) (rs, p) with
    | none => ([], false)
    | some (t, _) => (t, true)
  else ([], false)

theorem passP_len (g : List (List Int)) (rs : List Int) (p n : Int) : (passP g rs p n).1.length ≤ 201 := by
  unfold passP
  split
  · rename_i h
    rw [Bool.and_eq_true, inR_iff] at h
    have key : ∀ (m : Nat) (t : List Int) (s : St) (t' : List Int) (s' : St), runT g passU m t s = some (t', s') → t'.length = t.length + m := by
      intro m
      induction m with
      | zero =>
        intro t s t' s' h
        simp only [runT, Option.some.injEq, Prod.mk.injEq] at h
        rw [h.1]
        rfl
      | succ m ih =>
        intro t s t' s' h
        rw [runT] at h
        split at h
        · cases h
        · have := ih _ _ _ _ h
          simp [passU] at this
          omega
    split
    · simp
    · rename_i t s hs
      have := key _ _ _ _ _ hs
      simp at this
      simp only
      omega
  · simp

theorem pop_and {P : Program} {t : TypeId} {K : Value → Prop} (k : IntKind) (a b : Int) (H : K (.int k (bits .and k a b))) : pop P (binA .and t (.int k a) (.int k b)) K :=
  .mk' (fun w => by simp [binA, eqGuard, binOp, intBits_and, bind, Sem.bind, pure, Sem.run]) H
theorem pop_shr {P : Program} {t : TypeId} {K : Value → Prop} (k : IntKind) (a b : Int) (hb : 0 ≤ b) (H : K (.int k (a.fdiv (2 ^ (min b.toNat k.bits))))) : pop P (binA .shr t (.int k a) (.int k b)) K :=
  .mk' (fun w => by simp [binA, eqGuard, binOp, Op.shift, show ¬ b < 0 by omega, bind, Sem.bind, pure, Sem.run]) H
theorem rop_conv {P : Program} {src dst : TypeId} {k k' : IntKind} (hs : P.underlying src = some (.int k)) (hd : P.underlying dst = some (.int k')) {h : Heap} {K : Value → Prop} (n : Int) (H : K (.int k' (k'.wrap n))) : rop P (convert src dst (.int k n)) h K := by
  have hk : P.intKind dst = k' := by simp [Program.intKind, hd]
  refine ⟨_, fun w hw => run_convert_int w src dst k n (by simp [hs]) (by rw [hk]; exact hd), ?_⟩
  rw [hk]
  exact H
theorem cut_zero {s : Sl} (h : s.n ≤ s.c) : s.cut 1 0 s.n s.c = s := by
  obtain ⟨a, n, c⟩ := s
  unfold Sl.cut
  cases a with
  | none => simp
  | some a => simp [at_add0]
/-- copy, to the cells from l on. -/
theorem eop_copy {P : Program} {t t2 e ty : TypeId} {bs : Nat} {z : List Value} (T : rowC P t = some (e, 1, bs, z)) {h : Heap} {F S : Nat → Prop} {s x : Sl} {vs us : List Value} (H : Ow h F e 1 s vs) (X : RdV S h 1 x us) (hp : us.all plainV = true) (l m : Nat) (hl : l ≤ s.n) (hm : m = min x.n (s.n - l))
    {K : Value → Heap → Prop} (HK : ∀ h', Ow h' F e 1 s (vs.take l ++ us.take m ++ vs.drop (l + m)) → Fr s.own h h' → K (VI m) h') : eop P (Builtin.copy_ #[t, t2] ty #[(s.cut 1 l s.n s.c).v, x.v]) h K := by
  obtain ⟨hu, i, zv, hi, hsz, rfl, hz, hzc, hzl, _, hbs, hb64, hsz8⟩ := rowC_spec T
  refine ⟨fun w hw => ?_⟩
  subst hw
  have hs1 : (P.info? e).map (·.size) = some 1 := by rw [hi]; simp [hsz]
  have hvl := H.len
  have hul := X.len
  by_cases h0 : m = 0
  · subst h0
    have hr := run_copy_none (P := P) w t t2 ty e (s.cut 1 l s.n s.c).a x.a (s.cut 1 l s.n s.c).n (s.cut 1 l s.n s.c).c x.n x.c hu hs1 (by simp only [Sl.cut]; exact hm.symm)
    refine ⟨_, w, hr, Same.refl w, HK w.heap ?_ (Fr.refl _ _)⟩
    simpa using H
  · rcases H.out with ⟨rfl, rfl⟩ | ⟨g, o, cur, ha, hF, hg, h1, h2, h3, h4⟩
    · simp [nilSl] at hm; omega
    · obtain ⟨a, hxa, _, _⟩ := X.cell 0 (by omega)
      have hcl : s.c ≠ l := by omega
      have hda : (s.cut 1 l s.n s.c).a = some ⟨g, o + l, none⟩ := by simp [Sl.cut, hcl, ha, add_mk]
      have hr := run_copy_row (P := P) w t t2 ty e g (o + l) (s.n - l) (s.c - l) a x.n x.c cur e (us.take m) hu hs1 hg (by rw [List.length_take, hm]; simp only [Nat.min_def]; split <;> split <;> omega) (fun j v hj => by
        obtain ⟨hjl, rfl⟩ := List.getElem?_eq_some_iff.1 hj
        have hjl2 : j < us.length := by simp at hjl; omega
        obtain ⟨a', ha', _, hc⟩ := X.cell j hjl2
        rw [hxa] at ha'
        obtain rfl : a = a' := by simpa using ha'
        simp only [List.getElem_take]
        exact hc) (by simp; omega) (fun u hu => by
        have := List.all_eq_true.1 hp u (List.mem_of_mem_take hu)
        cases u <;> simp [plainV] at this <;> rfl)
      have hml : (us.take m).length = m := by simp; omega
      rw [hml] at hr
      have hv : (s.cut 1 l s.n s.c).v = .slice (some ⟨g, o + l, none⟩) (s.n - l) (s.c - l) := by simp only [Sl.v, hda]; rfl
      have hxv : x.v = .slice (some a) x.n x.c := by simp only [Sl.v, hxa]
      rw [← hv, ← hxv] at hr
      refine ⟨_, _, hr, ⟨rfl, rfl, rfl⟩, HK _ ⟨?_, .inr ⟨g, o, _, ha, hF, setRow_heap w g cur _ e _ hg, h1, h2, ?_, ?_⟩⟩ ⟨by simp [World.setRow], fun k _ hk => setRow_other w g k _ (fun e => hk (by simp [Sl.own, ha, e]))⟩⟩
      · simp; omega
      · simp; omega
      · have hol : (cur.toList.take (o + l)).length = o + l := by simp; omega
        simp only [Nat.mul_one] at h4 hvl ⊢
        have e1 : (cur.toList.take (o + l) ++ us.take m ++ cur.toList.drop (o + l + m)).drop o = vs.take l ++ us.take m ++ cur.toList.drop (o + l + m) := by
          rw [List.append_assoc, List.drop_append_of_le_length (by omega), List.drop_take, show o + l - o = l by omega, ← h4, List.take_take, Nat.min_eq_left hl, List.append_assoc]
        (try simp only [List.toList_toArray])
        rw [e1, List.take_append, List.take_of_length_le (by simp; omega)]
        congr 1
        have e2 : (vs.take l ++ us.take m).length = l + m := by simp; omega
        rw [e2, ← h4, List.drop_take, List.drop_drop, Nat.add_assoc]
theorem eop_copy0 {P : Program} {t t2 e ty : TypeId} {bs : Nat} {z : List Value} (T : rowC P t = some (e, 1, bs, z)) {h : Heap} {F S : Nat → Prop} {s x : Sl} {vs us : List Value} (H : Ow h F e 1 s vs) (X : RdV S h 1 x us) (hp : us.all plainV = true) (m : Nat) (hm : m = min x.n s.n)
    {K : Value → Heap → Prop} (HK : ∀ h', Ow h' F e 1 s (us.take m ++ vs.drop m) → Fr s.own h h' → K (VI m) h') : eop P (Builtin.copy_ #[t, t2] ty #[s.v, x.v]) h K := by
  have := eop_copy (t2 := t2) (ty := ty) T H X hp 0 m (by omega) (by simpa using hm) (K := K) fun h' o f => HK h' (by simpa using o) f
  rw [cut_zero H.cap.1] at this
  exact this
theorem mul_small (a n : Int) (ha : a = 1) (h0 : 0 ≤ n) (h1 : n ≤ 8) : bits .and .u64 a 4294967295 = 1 ∧ bits .and .u64 n 4294967295 = n ∧ bits .and .u64 0 4294967295 = 0 := by
  subst ha
  refine ⟨by decide, ?_, by decide⟩
  have : n = 0 ∨ n = 1 ∨ n = 2 ∨ n = 3 ∨ n = 4 ∨ n = 5 ∨ n = 6 ∨ n = 7 ∨ n = 8 := by omega
  rcases this with rfl | rfl | rfl | rfl | rfl | rfl | rfl | rfl | rfl <;> decide
theorem u64_small {n : Int} (h0 : 0 ≤ n) (h1 : n < 18446744073709551616) : IntKind.u64.wrap n = n := by
  simp only [IntKind.wrap, IntKind.bits, IntKind.signed]
  simp
  omega
theorem fdiv_small {n : Int} (h0 : 0 ≤ n) (h1 : n < 4294967296) : n.fdiv (2 ^ (min (32 : Int).toNat IntKind.u64.bits)) = 0 := by
  have e : (2 : Int) ^ (min (32 : Int).toNat IntKind.u64.bits) = 4294967296 := by decide
  rw [e, Int.fdiv_eq_ediv_of_nonneg _ (by omega)]
  omega

theorem k_Mul64 (n : Int) (h0 : 0 ≤ n) (h1 : n ≤ 8) (h : Heap) (K : Value → Heap → Prop) (HK : K (.tuple #[.int .u64 0, .int .u64 n]) h) : callM Try.prog 219 #[.int .u64 1, .int .u64 n] h K := by
  obtain ⟨m1, m2, m3⟩ := mul_small 1 n rfl h0 h1
  refine v219 1 n h K (pop_and _ _ _ ⟨1, by rw [m1], pop_shr _ _ _ (by omega) ⟨0, by rw [fdiv_small (by omega) (by omega)], pop_and _ _ _ ⟨n, by rw [m2], pop_shr _ _ _ (by omega) ⟨0, by rw [fdiv_small (by omega) (by omega)], ?_⟩⟩⟩⟩)
  have u0 : IntKind.u64.wrap 0 = 0 := u64_small (by omega) (by omega)
  have un : IntKind.u64.wrap n = n := u64_small h0 (by omega)
  simp only [Int.one_mul, Int.zero_mul, Int.mul_zero, Int.zero_add, Int.add_zero, u0, un]
  refine pop_shr _ _ _ (by omega) ⟨0, by rw [fdiv_small (by omega) (by omega)], ?_⟩
  simp only [Int.one_mul, Int.zero_mul, Int.mul_zero, Int.zero_add, Int.add_zero, u0, un]
  refine pop_and _ _ _ ⟨0, by rw [m3], pop_shr _ _ _ (by omega) ⟨0, by rw [fdiv_small (by omega) (by omega)], ?_⟩⟩
  simp only [Int.one_mul, Int.zero_mul, Int.mul_zero, Int.zero_add, Int.add_zero, u0, un]
  refine pop_shr _ _ _ (by omega) ⟨0, by rw [fdiv_small (by omega) (by omega)], ?_⟩
  simp only [Int.one_mul, Int.zero_mul, Int.mul_zero, Int.zero_add, Int.add_zero, u0, un]
  exact HK

theorem k_Mul (n : Int) (h0 : 0 ≤ n) (h1 : n ≤ 8) (h : Heap) (K : Value → Heap → Prop) (HK : K (.tuple #[.int .u64 0, .int .u64 n]) h) : callM Try.prog 211 #[.int .u64 1, .int .u64 n] h K :=
  v211 1 n h K (k_Mul64 n h0 h1 h _ ⟨_, _, rfl, .nil, HK⟩)

theorem k_Repeat {S : Nat → Prop} {h : Heap} {x : Sl} (v : Int) (X : RdI S h x [v]) (n : Nat) (h1 : 1 ≤ n) (h8 : n ≤ 8) (K : Value → Heap → Prop) (HK : ∀ t h', OwI h' (Iv h.size h'.size) t (List.replicate n v) → Fr No h h' → K t.v h') : callM Try.prog 197 #[x.v, VI n] h K := by
  have hx1 : x.n = 1 := by have := X.len; simpa using this
  refine v197 x n h K ⟨fun h' => h' = h, ⟨fun e => by simp only [decide_eq_true_eq] at e; omega, fun _ => rfl⟩, ?_⟩
  rintro _ rfl _
  refine rop_conv (k := .i64) (k' := .u64) (show Try.prog.underlying 3 = some (.int .i64) from by kernel_rfl) (show Try.prog.underlying 170 = some (.int .u64) from by kernel_rfl) _ ⟨1, by rw [hx1]; rfl, rop_conv (k := .i64) (k' := .u64) (show Try.prog.underlying 3 = some (.int .i64) from by kernel_rfl) (show Try.prog.underlying 170 = some (.int .u64) from by kernel_rfl) _ ⟨n, by rw [u64_small (by omega) (by omega)], ?_⟩⟩
  refine k_Mul n (by omega) (by omega) _ _ ⟨_, _, rfl, .nil, ⟨fun h' => h' = _, ⟨fun e => by simp at e, fun _ => ⟨fun e => by simp only [decide_eq_true_eq] at e; omega, fun _ => rfl⟩⟩, ?_⟩⟩
  rintro _ rfl _
  refine rop_conv (k := .u64) (k' := .i64) (show Try.prog.underlying 170 = some (.int .u64) from by kernel_rfl) (show Try.prog.underlying 3 = some (.int .i64) from by kernel_rfl) _ ⟨n, by rw [show IntKind.i64.wrap (n : Int) = n from w64_eq n (by omega) (by omega)], ?_⟩
  refine eop_make rIs (fun k => _ ≤ k) (fun _ h => h) .i64 .i64 n n (Nat.le_refl _) (by omega) fun t h1' n1 c1 o1 f1 m1 _ => ⟨t, rfl, .nil, ?_⟩
  have e1 : (List.replicate n [VI 0]).flatten = (List.replicate n (0 : Int)).map VI := by simp [List.flatten_replicate_singleton]
  rw [e1] at o1
  have r1 := RdI.no X f1
  have z1 := f1.size
  refine eop_copy0 (P := Try.prog) rIs o1 r1 (plainVI _) 1 (by omega) fun h2 o2 f2 => ⟨1, rfl, .nil, ?_⟩
  have e2 : ([v].map VI).take 1 ++ ((List.replicate n (0 : Int)).map VI).drop 1 = (List.replicate 1 v ++ List.replicate (n - 1) 0).map VI := by simp
  rw [e2] at o2
  refine ⟨fun q m h' => ∃ m' : Nat, m = m' ∧ 1 ≤ m' ∧ m' ≤ n ∧ q = n - m' ∧ OwI h' (fun k => _ ≤ k) t (List.replicate m' v ++ List.replicate (n - m') 0) ∧ Fr t.own h1' h', ⟨n - 1, 1, rfl, Nat.le_refl _, h1, rfl, o2, f2⟩, ?_⟩
  rintro q m h3 ⟨m, rfl, q1, q2, rfl, o3, f3⟩ hL
  refine ⟨fun e => ?_, fun e => ?_⟩
  · simp only [decide_eq_true_eq] at e
    have htn : t.n = n := n1
    refine pop_cut_l rIs .i64 (by omega) (by omega) ⟨_, rfl, pop_cut_h rIs .i64 (by omega) (by omega) ⟨_, rfl, ?_⟩⟩
    simp only [Int.toNat_natCast]
    have r3 : RdI t.own h3 t _ := o3.rd
    have rb := RdI.cut r3 (l := 0) (m := m) (by omega) (by simp; try omega)
    rw [List.drop_zero, Nat.sub_zero, List.take_left' (by simp)] at rb
    refine eop_copy (P := Try.prog) rIs o3 rb (plainVI _) m (min m (n - m)) (by omega) (by simp [Sl.cut, htn]) fun h4 o4 f4 => ⟨_, rfl, .nil, ?_⟩
    have e4 : ((List.replicate m v ++ List.replicate (n - m) 0).map VI).take m ++ ((List.replicate m v).map VI).take (min m (n - m)) ++ ((List.replicate m v ++ List.replicate (n - m) 0).map VI).drop (m + min m (n - m)) = (List.replicate (m + min m (n - m)) v ++ List.replicate (n - (m + min m (n - m))) 0).map VI := by
      rw [← List.map_take, ← List.map_take, ← List.map_drop, ← List.map_append, ← List.map_append]
      congr 1
      rw [List.take_left' (by simp), List.take_replicate, List.drop_append, List.drop_of_length_le (by simp), List.nil_append, List.length_replicate, List.drop_replicate, List.replicate_append_replicate]
      congr 2
      · omega
      · omega
    rw [e4] at o4
    rw [w64_eq _ (by omega) (by omega)]
    exact ⟨n - (m + min m (n - m)), by omega, m + min m (n - m), by omega, by omega, by omega, rfl, o4, f3.trans f4⟩
  · simp only [decide_eq_false_iff_not] at e
    have htn : t.n = n := n1
    obtain rfl : m = n := by omega
    rw [Nat.sub_self, List.replicate_zero, List.append_nil] at o3
    exact HK t h3 (Ow.toIv o3) (f1.fresh f3 m1)

/-- The places of a list that are not come to yet get the next number. -/
def bfsIn (x : Int) : List Int → List Int × List Int → List Int × List Int
  | [], s => s
  | q :: qs, s => bfsIn x qs (if s.1.getD q.toNat 0 < 0 then (s.1.set q.toNat (s.1.getD x.toNat 0 + 1), s.2 ++ [q]) else s)
def bfsP (g : List (List Int)) : Nat → List Int → List Int → List Int
  | 0, far, _ => far
  | _ + 1, far, [] => far
  | f + 1, far, x :: rest => bfsP g f (bfsIn x (g.getD x.toNat []) (far, [])).1 (rest ++ (bfsIn x (g.getD x.toNat []) (far, [])).2)
def farP (g : List (List Int)) (p : Int) : List Int := bfsP g g.length ((List.replicate g.length (-1)).set p.toNat 0) [p]
def negs (l : List Int) : Nat := (l.filter fun x => decide (x < 0)).length
theorem negs_set {l : List Int} {i : Nat} {v : Int} (h : i < l.length) (h1 : l[i] < 0) (h2 : 0 ≤ v) : negs (l.set i v) + 1 = negs l := by
  induction l generalizing i with
  | nil => simp at h
  | cons x xs ih =>
    cases i with
    | zero =>
      simp only [List.getElem_cons_zero] at h1
      simp only [negs, List.set_cons_zero, List.filter_cons, show ¬ v < 0 by omega, h1, decide_true, decide_false, if_true, Bool.false_eq_true, if_false, List.length_cons]
    | succ i =>
      have := ih (by simpa using h) (by simpa using h1)
      simp only [negs, List.set_cons_succ, List.filter_cons] at this ⊢
      split <;> (try simp only [List.length_cons]) <;> simp_all <;> omega
structure BOK (n : Nat) (far : List Int) : Prop where
  len : far.length = n
  lo : ∀ v, v ∈ far → -1 ≤ v
  hi : ∀ v, v ∈ far → v + negs far ≤ n
theorem BOK.step {n : Nat} {far : List Int} (B : BOK n far) {x q : Int} (hx : x.toNat < n) (hq : q.toNat < n) (hn : far.getD q.toNat 0 < 0) : BOK n (far.set q.toNat (far.getD x.toNat 0 + 1)) ∧ negs (far.set q.toNat (far.getD x.toNat 0 + 1)) + 1 = negs far := by
  have hl := B.len
  rw [getD_getI (by omega)] at hn
  rw [getD_getI (show x.toNat < far.length by omega)]
  have h1 := B.lo _ (List.getElem_mem (show x.toNat < far.length by omega))
  have h2 := B.hi _ (List.getElem_mem (show x.toNat < far.length by omega))
  have h3 := negs_set (show q.toNat < far.length by omega) hn (v := far[x.toNat]'(by omega) + 1) (by omega)
  refine ⟨⟨by simp [hl], fun v hv => ?_, fun v hv => ?_⟩, h3⟩
  · rcases List.mem_or_eq_of_mem_set hv with hv | rfl
    · exact B.lo v hv
    · omega
  · rcases List.mem_or_eq_of_mem_set hv with hv | rfl
    · have := B.hi v hv; omega
    · omega
theorem farP_none {g : List (List Int)} {p : Int} (h : g.getD p.toNat [] = []) : farP g p = (List.replicate g.length (-1)).set p.toNat 0 := by
  unfold farP
  cases hg : g.length with
  | zero => rfl
  | succ n =>
    rw [bfsP, h]
    cases n <;> rfl
theorem bok0 {n p : Nat} (hp : p < n) : BOK n ((List.replicate n (-1)).set p 0) ∧ negs ((List.replicate n (-1)).set p 0) + 1 = n := by
  have h1 : negs (List.replicate n (-1)) = n := by
    unfold negs
    rw [List.filter_replicate_of_pos (by decide)]
    simp
  have h2 := negs_set (l := List.replicate n (-1)) (i := p) (v := 0) (by simpa using hp) (by simp) (by omega)
  refine ⟨⟨by simp, fun v hv => ?_, fun v hv => ?_⟩, by omega⟩
  · rcases List.mem_or_eq_of_mem_set hv with hv | rfl
    · simp only [List.mem_replicate] at hv; omega
    · omega
  · rcases List.mem_or_eq_of_mem_set hv with hv | rfl
    · simp only [List.mem_replicate] at hv; omega
    · omega
theorem gq_mem {g : List (List Int)} (hg : graphB g = true) {x : Nat} (hx : x < g.length) {i : Nat} (hi : i < (g[x]).length) : 0 ≤ (g[x])[i] ∧ (g[x])[i] < (g.length : Int) := (graph_mem hg (List.getElem_mem hx)).2 _ (List.getElem_mem hi)

theorem k_lengths {S : Nat → Prop} {h : Heap} {g : Sl} {xss : List (List Int)} (G : RdR S h g xss) (hg : graphB xss = true) {p : Int} (h0 : 0 ≤ p) (h1 : p < (xss.length : Int)) (K : Value → Heap → Prop) (HK : ∀ t h', OwI h' (Iv h.size h'.size) t (farP xss p) → (farP xss p).length = xss.length → Fr No h h' → K t.v h') : callM Try.prog 187 #[.agg #[g.v], VI p] h K := by
  refine v187 g p h K fun b1 h1' hb1 f1 hL1 => ?_
  generalize hR : farP xss p = R at HK
  have f1 := f1.in_nil
  have l1 : b1 < h1'.size := hL1.head.lt
  have z1 := f1.size
  have hgl := graph_len hg
  refine eop_lit rIs (fun k => h1'.size ≤ k) (fun _ h => h) 1 (by omega) [VI (-1)] rfl rfl fun m1 h2 n2 c2 o2 f2 _ _ => ⟨m1, rfl, hL1.of_no f2, ?_⟩
  have r2 : RdI (fun k => h1'.size ≤ k) h2 m1 [-1] := o2.rdF
  have z2 := f2.size
  have hL2 := hL1.of_no f2
  rw [G.len]
  refine k_Repeat (-1) r2 xss.length (by omega) (by omega) _ fun t h3 o3 f3 => ⟨t, rfl, hL2.of_no f3, ?_⟩
  have z3 := f3.size
  have f03 := (f1.no_trans f2).no_trans f3
  have hL3 := hL2.of_no f3
  have htn : t.n = xss.length := by have := RdI.len (Ow.rdF o3 : RdI _ h3 t _); simpa using this
  obtain ⟨w1, w2, w3⟩ := o3.store1 h0 (by omega) (VI 0)
  have w3' : Fr (Iv h2.size h3.size) h3 _ := w3.mono fun _ _ hk => (o3.foot hk).1
  have hL5 := hL3.iv w3' ⟨.inl (by omega), trivial⟩
  refine ⟨o3.inb h0 (by omega), w1, hL5, fun h5 e5 _ => ?_⟩
  subst e5
  rw [← List.map_set] at w2
  have f05 : Fr No h _ := f03.ivFresh w3' (by omega)
  have z5 := w3'.size
  refine eop_lit rIs (fun k => _ ≤ k) (fun _ h => h) 1 (by omega) [VI p] rfl rfl fun u h6 n6 c6 o6 f6 m6 _ => ⟨u, rfl, hL5.of_no f6, ?_⟩
  have z6 := f6.size
  have f06 := f05.no_trans f6
  have w6 := Ow.no w2 f6
  obtain ⟨B0, N0⟩ := bok0 (n := xss.length) (p := p.toNat) (by omega)
  refine ⟨fun n x h' => ∃ (far pend : List Int), n = pend.length + negs far ∧ n ≤ xss.length ∧ BOK xss.length far ∧ (∀ y, y ∈ pend → 0 ≤ y ∧ y < (xss.length : Int)) ∧ OwI h' (Iv h2.size h3.size) t far ∧ OwI h' (fun k => h3.size ≤ k) x pend ∧ Fr No h h' ∧ h3.size ≤ h'.size ∧ R = bfsP xss n far pend,
    ⟨xss.length, (List.replicate xss.length (-1)).set p.toNat 0, [p], by simp only [List.length_cons, List.length_nil]; omega, Nat.le_refl _, B0, fun y hy => by simp at hy; omega, w6, by show Ow _ _ _ _ _ _; simpa using o6.mono (F' := fun k => h3.size ≤ k) fun k _ hk => by omega, f06, by omega, hR.symm⟩, ?_⟩
  rintro n x h7 ⟨far, pend, rfl, hdn, B, hp, o7, q7, f7, z7, eq⟩ hL7
  have rq : RdI (fun k => h3.size ≤ k) h7 x pend := q7.rdF
  have hxl := rq.len
  refine ⟨fun e => ?_, fun e => ?_⟩
  · simp only [decide_eq_true_eq] at e
    obtain ⟨y, rest, rfl⟩ : ∃ y rest, pend = y :: rest := by
      cases pend with
      | nil => simp at hxl; omega
      | cons y rest => exact ⟨y, rest, rfl⟩
    have hy := hp y List.mem_cons_self
    have hyl : y.toNat < xss.length := by omega
    have hdl : (0 : Int) < ((y :: rest).length : Int) := by simp only [List.length_cons]; omega
    have eg : ∀ hh, (y :: rest)[(0 : Int).toNat]'hh = y := by intro hh; simp
    have c0 := rq.get (Int.le_refl 0) hdl
    rw [eg] at c0
    obtain ⟨gi, c1, r1⟩ := G.get hy.1 hy.2
    have hfuel : (y :: rest).length + negs far = (rest.length + negs far) + 1 := by simp only [List.length_cons]; omega
    rw [hfuel, bfsP, getD_get hyl] at eq
    refine ⟨rq.inb (Int.le_refl 0) hdl, _, c0, (G.no f7).inb hy.1 hy.2, gi, hcell_fr c1 f7 (fun h => h), ?_⟩
    generalize hF : bfsIn y (xss[y.toNat]'hyl) (far, []) = Fin at eq
    refine ⟨fun m x' j h' => ∃ (far' new : List Int), 0 ≤ j ∧ j + m = ((xss[y.toNat]'hyl).length : Int) ∧ BOK xss.length far' ∧ new.length + negs far' = negs far ∧ (∀ y, y ∈ new → 0 ≤ y ∧ y < (xss.length : Int)) ∧ OwI h' (Iv h2.size h3.size) t far' ∧ OwI h' (fun k => h3.size ≤ k) x' (y :: rest ++ new) ∧ Fr No h h' ∧ h3.size ≤ h'.size ∧ Fin = bfsIn y ((xss[y.toNat]'hyl).drop j.toNat) (far', new),
      ⟨(xss[y.toNat]'hyl).length, far, [], by omega, by omega, B, by simp, fun y hy => by simp at hy, o7, by simpa using q7, f7, z7, by simpa using hF.symm⟩, ?_⟩
    rintro m x' j h8 ⟨far', new, j0, j1, B', hnw, hnm, o8, q8, f8, z8, eF⟩ hL8
    have r1' : RdI S h8 gi (xss[y.toNat]'hyl) := RdI.no r1 f8
    have rq8 : RdI (fun k => h3.size ≤ k) h8 x' (y :: rest ++ new) := q8.rdF
    have ro8 : RdI (Iv h2.size h3.size) h8 t far' := o8.rdI
    have hfl := B'.len
    have hxl8 := rq8.len
    simp only [List.length_append, List.length_cons] at hxl8 hdn
    refine ⟨fun e2 => ?_, fun e2 => ?_⟩
    · have hj := r1'.lt e2
      rw [drop_cons _ j0 hj, bfsIn] at eF
      have hq := gq_mem hg hyl (show j.toNat < (xss[y.toNat]'hyl).length by omega)
      refine ⟨r1'.inb j0 hj, _, r1'.get j0 hj, ro8.inb hq.1 (by omega), _, ro8.get hq.1 (by omega), fun e3 => ?_, fun e3 => ?_⟩
      · simp only [decide_eq_true_eq] at e3
        have e3' : far'.getD ((xss[y.toNat]'hyl)[j.toNat]'(by omega)).toNat 0 < 0 := by rw [getD_getI (by omega)]; exact e3
        obtain ⟨B2, N2⟩ := B'.step (x := y) (by omega) (by omega) e3'
        simp only [e3', if_true] at eF
        have hyv := B'.hi _ (List.getElem_mem (show y.toNat < far'.length by omega))
        have hyv2 := B'.lo _ (List.getElem_mem (show y.toNat < far'.length by omega))
        have hdl8 : (0 : Int) < ((y :: rest ++ new).length : Int) := by simp only [List.length_append, List.length_cons]; omega
        have eg8 : ∀ hh, (y :: rest ++ new)[(0 : Int).toNat]'hh = y := by intro hh; simp
        have c8 := rq8.get (Int.le_refl 0) hdl8
        rw [eg8] at c8
        obtain ⟨w1, w2, w3⟩ := o8.store1 hq.1 (by have := ro8.len; omega) (VI (far'[y.toNat]'(by omega) + 1))
        have w3' : Fr (Iv h2.size h3.size) h8 _ := w3.mono fun _ _ hk => (o8.foot hk).1
        have hL9 := hL8.iv w3' ⟨.inl (by omega), trivial⟩
        refine ⟨rq8.inb (Int.le_refl 0) hdl8, _, c8, ro8.inb hy.1 (by omega), _, ro8.get hy.1 (by omega), ro8.inb hq.1 (by omega), ?_⟩
        rw [w64_eq _ (by omega) (by omega)]
        refine ⟨w1, hL9, fun h9 e9 _ => ?_⟩
        subst e9
        rw [← List.map_set] at w2
        have z9 := w3'.size
        have q9 := Ow.fr q8 w3' fun k hk hk2 => by have h1 := (q8.foot hk).1; have := hk2.2; (try simp only at h1); omega
        refine eop_lit rIs (fun k => _ ≤ k) (fun _ h => h) 1 (by omega) [VI ((xss[y.toNat]'hyl)[j.toNat]'(by omega))] rfl rfl fun v h10 n10 c10 o10 f10 m10 _ => ⟨v, rfl, hL9.of_no f10, ?_⟩
        have z10 := f10.size
        have r10 : RdI v.own h10 v [(xss[y.toNat]'hyl)[j.toNat]'(by omega)] := o10.rd
        refine eop_append rIs (Ow.no q9 f10) (fun k hk => by omega) r10 (plainVI _) (by have := r10.len; simp at this; omega) fun w h11 n11 o11 f11 d11 => ⟨w, rfl, (hL9.of_no f10).fr f11 (fun p hp hk => by
          simp only [List.mem_cons, List.not_mem_nil, or_false] at hp
          subst hp
          have := (q8.foot hk).1
          simp only at this
          omega), ?_⟩
        have z11 := f11.size
        rw [← List.map_append] at o11
        rw [r1'.succ j0 hj]
        refine ⟨m - 1, by omega, far'.set ((xss[y.toNat]'hyl)[j.toNat]'(by omega)).toNat (far'.getD y.toNat 0 + 1), new ++ [(xss[y.toNat]'hyl)[j.toNat]'(by omega)], by omega, by omega, B2, by simp only [List.length_append, List.length_cons, List.length_nil]; omega, fun z hz => ?_, ?_, ?_, ?_, by omega, eF⟩
        · rcases List.mem_append.1 hz with hz | hz
          · exact hnm z hz
          · simp only [List.mem_cons, List.not_mem_nil, or_false] at hz
            rw [hz]; exact hq
        · rw [getD_getI (show y.toNat < far'.length by omega)]
          exact (Ow.no w2 f10).fr f11 fun k hk hk2 => by have h1 := (q8.foot hk2).1; have := (o8.foot hk).1.2; (try simp only at h1); omega
        · rw [← List.append_assoc]
          exact o11
        · exact (((f8.ivFresh w3' (by omega)).no_trans f10).fresh f11 fun k hk => by have h1 := (q8.foot hk).1; (try simp only at h1); omega)
      · simp only [decide_eq_false_iff_not] at e3
        have e3' : ¬ far'.getD ((xss[y.toNat]'hyl)[j.toNat]'(by omega)).toNat 0 < 0 := by rw [getD_getI (by omega)]; exact e3
        simp only [e3', if_false] at eF
        rw [r1'.succ j0 hj]
        exact ⟨m - 1, by omega, far', new, by omega, by omega, B', hnw, hnm, o8, q8, f8, z8, eF⟩
    · have hj := r1'.ge e2
      rw [List.drop_of_length_le (by omega), bfsIn] at eF
      subst eF
      refine pop_cut_l rIs .i64 (by omega) (by omega) ⟨_, rfl, ?_⟩
      have qc := q8.cut (l := 1) (m := x'.n) (by omega) (Nat.le_refl _)
      have ec : (((y :: rest ++ new).map VI).drop (1 * 1)).take ((x'.n - 1) * 1) = (rest ++ new).map VI := by
        rw [List.take_of_length_le (by simp; omega)]
        rfl
      rw [ec] at qc
      refine ⟨rest.length + negs far, by simp only [List.length_cons]; omega, far', rest ++ new, by simp only [List.length_append]; omega, by omega, B', fun z hz => ?_, o8, qc, f8, z8, ?_⟩
      · rcases List.mem_append.1 hz with hz | hz
        · exact hp z (List.mem_cons_of_mem _ hz)
        · exact hnm z hz
      · exact eq
  · simp only [decide_eq_false_iff_not] at e
    obtain rfl : pend = [] := List.eq_nil_of_length_eq_zero (by omega)
    have e9 : R = far := by
      rw [eq]
      simp only [List.length_nil, Nat.zero_add]
      cases negs far <;> rfl
    subst e9
    exact HK t h7 (Ow.ivs o7 (by omega) (by omega)) B.len f7

def leadB (g : List (List Int)) (p : Int) : Bool := (List.range g.length).all fun q => !decide ((farP g q).getD p.toNat 0 < 0)
theorem leadB_exit {g : List (List Int)} {sink : Int} (h0 : 0 ≤ sink) (h : leadB g sink = true) {p : Nat} (hp : p < g.length) (hs : (p : Int) ≠ sink) (h1 : sink < (g.length : Int)) : (g[p]).length ≠ 0 := by
  intro hz
  have := List.all_eq_true.1 h p (by simpa using hp)
  rw [farP_none (by rw [show ((p : Int)).toNat = p from rfl, getD_get hp]; exact List.eq_nil_of_length_eq_zero hz)] at this
  simp only [Bool.not_eq_true', decide_eq_false_iff_not] at this
  rw [getD_getI (by simp; omega), List.getElem_set] at this
  rw [if_neg (by omega)] at this
  simp at this
def sinkB (g : List (List Int)) (sink : Int) : Bool := graphB g && inR 0 ((g.length : Int) - 1) sink && leadB g sink
theorem range_all {n : Nat} {f : Nat → Bool} : (List.range n).all f = true ↔ ∀ i, i < n → f i = true := by simp [List.all_eq_true]

/-! What is drawn out of bytes: some value, in memory of its own. -/
structure CurD (a n : Nat) (h : Heap) (c : Sl) (i : Int) : Prop where
  code : ∃ vs, RdV (fun k => k < a) h 1 c vs ∧ ∀ v, v ∈ vs → ∃ m : Int, v = Value.int .u8 m ∧ 0 ≤ m ∧ m ≤ 255
  lo : 0 ≤ i
  hi : i ≤ (n : Int)
theorem CurD.fr {a n : Nat} {h h' : Heap} {c : Sl} {i : Int} {T : Nat → Prop} (D : CurD a n h c i) (f : Fr T h h') (hT : ∀ k, k < a → ¬ T k) : CurD a n h' c i := by
  obtain ⟨vs, h1, h2⟩ := D.code
  exact ⟨⟨vs, h1.fr f hT, h2⟩, D.lo, D.hi⟩
theorem CurD.no {a n : Nat} {h h' : Heap} {c : Sl} {i : Int} (D : CurD a n h c i) (f : Fr No h h') : CurD a n h' c i := D.fr f fun _ _ h => h
theorem CurD.up {a n m : Nat} {h : Heap} {c : Sl} {i : Int} (D : CurD a n h c i) (hm : n ≤ m) : CurD a m h c i := ⟨D.code, D.lo, by have := D.hi; omega⟩
theorem u64_rng (x : Int) : 0 ≤ IntKind.wrap .u64 x ∧ IntKind.wrap .u64 x < 18446744073709551616 := by
  rw [IntKind.wrap_u64]; omega
theorem and255 {x : Int} (h0 : 0 ≤ x) (h1 : x < 18446744073709551616) : 0 ≤ bits .and .u64 x 255 ∧ bits .and .u64 x 255 ≤ 255 := by
  have e := u64_and_nat x.toNat 255 (by omega) (by omega)
  rw [show ((x.toNat : Nat) : Int) = x by omega] at e
  have : x.toNat &&& 255 ≤ 255 := Nat.and_le_right
  rw [show ((255 : Nat) : Int) = 255 from rfl] at e
  rw [e]; omega
theorem vcur {h h' : Heap} {L : List (Nat × List Value)} (H : Vars h L) (i : Nat) {b : Nat} {cs cs' : List Value} (hi : nthL L i = some (b, cs)) (f : Fr (In [b]) h h') (V : IsVar h' b cs') : Vars h' (setL L i cs') :=
  H.set hi (f.mono fun k _ hk => by simpa [In] using hk) V

theorem k_next_ {a n b : Nat} {h : Heap} {c : Sl} {i sd : Int} (V : IsVar h b [c.v, VI i, .int .u64 sd]) (hb : a ≤ b) (D : CurD a n h c i) (hn : n ≤ 1000000000000) (K : Value → Heap → Prop) (HK : ∀ (x i' sd' : Int) h', 0 ≤ x → x ≤ 255 → IsVar h' b [c.v, VI i', .int .u64 sd'] → CurD a (n + 1) h' c i' → Fr (In [b]) h h' → K (VI x) h') : callM Try.prog 158 #[VP b 0] h K := by
  have h0 := D.lo
  have h1 := D.hi
  have lb := V.lt
  have fin : ∀ (x i' sd' : Int) (h1 h2 h' : Heap), 0 ≤ x → x ≤ 255 → 0 ≤ i' → i' ≤ (n : Int) + 1 → Fr No h h1 → Fr (In [b]) h1 h2 → Fr (In [b]) h2 h' → IsVar h' b [c.v, VI i', .int .u64 sd'] → K (VI x) h' := fun x i' sd' h1 h2 h' x0 x1 i0 i1 f1 f2 f3 V' => by
    have f := (f1.of_no.trans f2).trans f3
    obtain ⟨vs, d1, d2⟩ := D.code
    exact HK x i' sd' h' x0 x1 V' ⟨⟨vs, d1.fr f fun k hk hk2 => by simp [In] at hk2; omega, d2⟩, i0, by omega⟩ f
  refine v158 b c i sd h K (.cons V (by simp) .nil) ⟨fun x h' => 0 ≤ x ∧ x ≤ 255 ∧ h' = h, ⟨fun e => ?_, fun e => ⟨by omega, by omega, rfl⟩⟩, ?_⟩
  · obtain ⟨vs, d1, d2⟩ := D.code
    have hl := d1.len
    simp only [decide_eq_true_eq] at e
    have hi : i < (vs.length : Int) := by omega
    obtain ⟨m, e1, m0, m1⟩ := d2 _ (List.getElem_mem (show i.toNat < vs.length by omega))
    refine ⟨d1.inb h0 hi, m, by rw [d1.get h0 hi, e1], rop_conv (show Try.prog.underlying _ = some (.int .u8) from by kernel_rfl) (show Try.prog.underlying _ = some (.int .i64) from by kernel_rfl) m ⟨m, ?_, m0, m1, rfl⟩⟩
    show Value.int .i64 (w64 m) = VI m
    rw [w64_eq _ (by omega) (by omega)]
  · rintro x hh ⟨x0, x1, rfl⟩ hL h2 f2 hL2
    rw [w64_eq (i + 1) (by omega) (by omega)]
    refine rop_conv (show Try.prog.underlying _ = some (.int .i64) from by kernel_rfl) (show Try.prog.underlying _ = some (.int .u64) from by kernel_rfl) x ⟨_, rfl, fun e h3 f3 hL3 => ?_, fun e => ?_⟩
    · exact fin x _ _ hh h2 h3 x0 x1 (by omega) (by omega) (Fr.refl _ _) f2 f3 hL3.head
    · refine pop_shr .u64 _ 40 (by omega) ⟨_, rfl, pop_and .u64 _ 255 ⟨_, rfl, fun h3 f3 hL3 => ?_⟩⟩
      have hw := u64_rng (IntKind.wrap .u64 (IntKind.wrap .u64 (sd * 6364136223846793005) + IntKind.wrap .u64 x) + 1442695040888963407)
      have hd : 0 ≤ (IntKind.wrap .u64 (IntKind.wrap .u64 (IntKind.wrap .u64 (sd * 6364136223846793005) + IntKind.wrap .u64 x) + 1442695040888963407)).fdiv (2 ^ (min (40 : Int).toNat IntKind.u64.bits)) ∧ (IntKind.wrap .u64 (IntKind.wrap .u64 (IntKind.wrap .u64 (sd * 6364136223846793005) + IntKind.wrap .u64 x) + 1442695040888963407)).fdiv (2 ^ (min (40 : Int).toNat IntKind.u64.bits)) < 18446744073709551616 := by
        rw [show (2 : Int) ^ (min (40 : Int).toNat IntKind.u64.bits) = 1099511627776 from rfl, Int.fdiv_eq_ediv_of_nonneg _ (by omega)]
        omega
      have ha := and255 hd.1 hd.2
      refine rop_conv (show Try.prog.underlying _ = some (.int .u64) from by kernel_rfl) (show Try.prog.underlying _ = some (.int .i64) from by kernel_rfl) _ ⟨_, rfl, ?_⟩
      rw [show IntKind.i64.wrap (bits .and .u64 ((IntKind.wrap .u64 (IntKind.wrap .u64 (IntKind.wrap .u64 (sd * 6364136223846793005) + IntKind.wrap .u64 x) + 1442695040888963407)).fdiv (2 ^ (min (40 : Int).toNat IntKind.u64.bits))) 255) = bits .and .u64 ((IntKind.wrap .u64 (IntKind.wrap .u64 (IntKind.wrap .u64 (sd * 6364136223846793005) + IntKind.wrap .u64 x) + 1442695040888963407)).fdiv (2 ^ (min (40 : Int).toNat IntKind.u64.bits))) 255 from w64_eq _ (by omega) (by omega)]
      exact fin _ _ _ hh h2 h3 ha.1 ha.2 (by omega) (by omega) (Fr.refl _ _) f2 f3 hL3.head

theorem k_pick {a n b : Nat} {h : Heap} {c : Sl} {i sd : Int} (V : IsVar h b [c.v, VI i, .int .u64 sd]) (hb : a ≤ b) (D : CurD a n h c i) (hn : n ≤ 100000000000) (m : Int) (K : Value → Heap → Prop) (HK : ∀ (x i' sd' : Int) h', 0 ≤ x → (1 ≤ m → x < m) → IsVar h' b [c.v, VI i', .int .u64 sd'] → CurD a (n + 2) h' c i' → Fr (In [b]) h h' → K (VI x) h') : callM Try.prog 100 #[VP b 0, VI m] h K := by
  refine v100 b c i sd m h K (.cons V (by simp) .nil) ⟨fun e => ?_, fun e => ?_⟩
  · simp only [decide_eq_true_eq] at e
    exact HK 0 i sd h (by omega) (fun _ => by omega) V (D.up (by omega)) (Fr.refl _ _)
  simp only [decide_eq_false_iff_not] at e
  refine k_next_ V hb D (by omega) _ fun x i1 sd1 h1 x0 x1 V1 D1 f1 => ⟨c, i1, sd1, x, rfl, .cons V1 (by simp) .nil, fun y d i2 sd2 h2 => 0 ≤ y ∧ d = c ∧ CurD a (n + 2) h2 c i2 ∧ Fr (In [b]) h h2, ⟨fun e2 => ?_, fun e2 => ⟨x0, rfl, D1.up (by omega), f1⟩⟩, ?_⟩
  · refine k_next_ V1 hb D1 (by omega) _ fun x' i2 sd2 h2 x0' x1' V2 D2 f2 => ⟨c, i2, sd2, x', rfl, .cons V2 (by simp) .nil, ?_⟩
    rw [w64_eq (x * 256) (by omega) (by omega), w64_eq _ (by omega) (by omega)]
    exact ⟨by omega, rfl, D2, f1.trans f2⟩
  · rintro y d i2 sd2 h2 ⟨y0, rfl, D2, f2⟩ hL2
    exact ⟨by omega, HK _ i2 sd2 h2 (Int.tmod_nonneg _ y0) (fun _ => Int.tmod_lt_of_pos _ (by omega)) hL2.head D2 f2⟩

theorem k_one {a n b : Nat} {h : Heap} {c : Sl} {i sd : Int} (V : IsVar h b [c.v, VI i, .int .u64 sd]) (hb : a ≤ b) (D : CurD a n h c i) (hn : n ≤ 100000000000) (m : Int) (K : Value → Heap → Prop) (HK : ∀ (x : Bool) (i' sd' : Int) h', IsVar h' b [c.v, VI i', .int .u64 sd'] → CurD a (n + 2) h' c i' → Fr (In [b]) h h' → K (VB x) h') : callM Try.prog 99 #[VP b 0, VI m] h K := by
  refine v99 b c i sd m h K (.cons V (by simp) .nil) ?_
  exact k_pick V hb D hn m _ fun x i1 sd1 h1 x0 x1 V1 D1 f1 => ⟨c, i1, sd1, x, rfl, .cons V1 (by simp) .nil, HK _ i1 sd1 h1 V1 D1 f1⟩

theorem k_among {a n b : Nat} {h : Heap} {c : Sl} {i sd : Int} (V : IsVar h b [c.v, VI i, .int .u64 sd]) (hb : a ≤ b) (D : CurD a n h c i) (hn : n ≤ 100000000000) {S : Nat → Prop} {s : Sl} {xs : List Int} (R : RdI S h s xs) (hS : ¬ S b) (hne : xs ≠ []) (K : Value → Heap → Prop) (HK : ∀ (x i' sd' : Int) h', x ∈ xs → IsVar h' b [c.v, VI i', .int .u64 sd'] → CurD a (n + 2) h' c i' → Fr (In [b]) h h' → K (VI x) h') : callM Try.prog 101 #[VP b 0, s.v] h K := by
  refine v101 b c i sd s h K (.cons V (by simp) .nil) ?_
  have hl := R.len
  have hp := List.length_pos_iff.2 hne
  refine k_pick V hb D hn _ _ fun x i1 sd1 h1 x0 x1 V1 D1 f1 => ⟨c, i1, sd1, x, rfl, .cons V1 (by simp) .nil, ?_⟩
  have R1 := R.fr f1 fun k hk hk2 => by simp [In] at hk2; subst hk2; exact hS hk
  have hx : x < (xs.length : Int) := by have := x1 (by omega); omega
  exact ⟨R1.inb x0 hx, _, R1.get x0 hx, HK _ i1 sd1 h1 (List.getElem_mem _) V1 D1 f1⟩

theorem eop_put {L : List (Nat × List Value)} {lo : Nat} {h : Heap} {o : Sl} {xs : List Int} {x : Int} (O : OwI h (fun k => lo ≤ k) o xs) (hlo : lo ≤ h.size) (hL : Vars h L) (hoff : ∀ p, p ∈ L → p.1 < lo) (hb : xs.length ≤ 1000000) (R : Sl → Heap → Prop) (HR : ∀ t h', OwI h' (fun k => lo ≤ k) t (xs ++ [x]) → Fr (fun k => lo ≤ k) h h' → Vars h' L → R t h') : eop Try.prog (Instr.buildSlice tIs 1 #[(0, VI x)]) h fun rv h1 => ∃ t : Sl, rv = t.v ∧ Vars h1 L ∧ eop Try.prog (appS tIs tIs tIs o.v t.v) h1 fun rv2 h2 => ∃ t2 : Sl, rv2 = t2.v ∧ Vars h2 L ∧ R t2 h2 := by
  refine eop_lit rIs (fun k => h.size ≤ k) (fun _ h => h) 1 (by omega) [VI x] rfl rfl fun t h1 n1 c1 o1 f1 m1 _ => ⟨t, rfl, hL.of_no f1, ?_⟩
  have z1 := f1.size
  have O1 : OwI h1 (fun k => lo ≤ k) o xs := Ow.no O f1
  have on := O1.rd.len
  have tn := o1.rd.len
  simp only [List.length_map, Nat.mul_one, List.length_cons, List.length_nil] at on tn
  refine eop_append rIs O1 (fun k hk => by omega) o1.rd (plainVI [x]) (by omega) fun s' h2 n2 o2 f2 d2 => ?_
  have g2 : Fr (fun k => lo ≤ k) h1 h2 := f2.mono fun k _ hk => (O1.foot hk).1
  have V2 : Vars h2 L := (hL.of_no f1).fr g2 fun p hp hk => by have := hoff p hp; omega
  exact ⟨s', rfl, V2, HR s' h2 (by rw [OwI, List.map_append]; exact o2) (f1.of_no.trans g2) V2⟩
theorem eop_putR {L : List (Nat × List Value)} {lo m : Nat} {h : Heap} {s x : Sl} {xss : List (List Int)} {ys : List Int} (O : OwX h (Iv lo m) s xss) (X : OwI h (fun k => m ≤ k) x ys) (hlo : lo ≤ m) (hm : m ≤ h.size) (hL : Vars h L) (hoff : ∀ p, p ∈ L → p.1 < lo) (hb : xss.length ≤ 1000000) (R : Sl → Heap → Prop) (HR : ∀ t h', OwX h' (fun k => lo ≤ k) t (xss ++ [ys]) → Fr (fun k => lo ≤ k) h h' → Vars h' L → R t h') : eop Try.prog (Instr.buildSlice tIss 1 #[(0, x.v)]) h fun rv h1 => ∃ t : Sl, rv = t.v ∧ Vars h1 L ∧ eop Try.prog (appS tIss tIss tIss s.v t.v) h1 fun rv2 h2 => ∃ t2 : Sl, rv2 = t2.v ∧ Vars h2 L ∧ R t2 h2 := by
  refine eop_lit rIss (fun k => h.size ≤ k) (fun _ h => h) 1 (by omega) [x.v] rfl rfl fun t h1 n1 c1 o1 f1 m1 _ => ⟨t, rfl, hL.of_no f1, ?_⟩
  have z1 := f1.size
  refine OwR.snoc rIss (OwR.no O f1) (F' := fun k => lo ≤ k) (fun k _ hk => hk.1) (fun k hk => by omega) ((Ow.no X f1).mono fun k _ hk => Nat.le_trans hlo hk) (fun k hk hk2 => by have := (X.foot hk).1; have := hk2.2; omega) o1.rd (by omega) fun y h2 o2 f2 => ?_
  have g2 : Fr (fun k => lo ≤ k) h1 h2 := f2.mono fun k _ hk => hk.1
  have V2 : Vars h2 L := (hL.of_no f1).fr g2 fun p hp hk => by have := hoff p hp; omega
  exact ⟨y, rfl, V2, HR y h2 o2 (f1.of_no.trans g2) V2⟩
def cycR (n : Int) (both : Bool) (p : Int) : List Int := [(p + 1).tmod n] ++ (if both then [(p + n - 1).tmod n] else [])
def cycL' (n : Int) (both : Bool) : Nat → List (List Int)
  | 0 => []
  | p + 1 => cycL' n both p ++ [cycR n both p]
theorem cycL_length (n : Int) (both : Bool) : ∀ p, (cycL' n both p).length = p
  | 0 => rfl
  | p + 1 => by rw [cycL', List.length_append, cycL_length n both p]; rfl
def cycP (n : Nat) (both : Bool) : List (List Int) := cycL' n both n

theorem k_grCycle {h : Heap} (n : Nat) (hn : n ≤ 1000) (both : Bool) (K : Value → Heap → Prop) (HK : ∀ t h', OwX h' (Iv h.size h'.size) t (cycP n both) → Fr No h h' → K (.agg #[t.v]) h') : callM Try.prog 124 #[VI n, VB both] h K := by
  refine v124 n both h K fun b1 b2 h3 hb1 hb2 f3 hL3 => ?_
  have f3 := f3.in_nil
  have z3 := f3.size
  have l2 : b2 < h3.size := hL3.head.lt
  have l1 : b1 < h3.size := hL3.tail.head.lt
  refine ⟨fun m p x h' => 0 ≤ p ∧ p + m = (n : Int) ∧ OwX h' (fun k => h3.size ≤ k) x (cycL' n both p.toNat) ∧ Fr (fun k => h.size ≤ k) h h' ∧ h3.size ≤ h'.size, ⟨n, by omega, by omega, OwR.nil _ _ _ _, f3.of_no, Nat.le_refl _⟩, ?_⟩
  rintro m p x h4 ⟨p0, p1, o4, f4, z4⟩ hL4
  refine ⟨fun e => ?_, fun e => ?_⟩
  · simp only [decide_eq_true_eq] at e
    refine ⟨by omega, ?_⟩
    rw [w64_eq (p + 1) (by omega) (by omega), w64_eq (p + n) (by omega) (by omega), w64_eq (p + n - 1) (by omega) (by omega)]
    have o4i := OwR.toIv o4
    refine eop_lit rIs (fun k => h4.size ≤ k) (fun _ h => h) 1 (by omega) [VI ((p + 1).tmod n)] rfl rfl fun t h5 n5 c5 o5 f5 m5 _ => ⟨t, rfl, hL4.of_no f5, fun y h' => OwI h' (fun k => h4.size ≤ k) y (cycR n both p) ∧ OwX h' (Iv h3.size h4.size) x (cycL' n both p.toNat) ∧ Fr (fun k => h.size ≤ k) h h' ∧ h4.size ≤ h'.size, ⟨fun eb => ⟨by omega, ?_⟩, fun eb => ⟨?_, OwR.no o4i f5, f4.trans f5.of_no, f5.size⟩⟩, ?_⟩
    · refine eop_put (lo := h4.size) (xs := [(p + 1).tmod n]) o5 f5.size (hL4.of_no f5) (fun q hq => by
        simp only [List.mem_cons, List.not_mem_nil, or_false] at hq
        rcases hq with rfl | rfl <;> simp only <;> omega) (by simp) _ fun u h6 o6 f6 V6 => ⟨?_, OwR.fr (OwR.no o4i f5) f6 fun k hk hk2 hk3 => by have := hk2.2; omega, (f4.trans f5.of_no).trans (f6.mono fun k _ hk => by have := f4.size; omega), by have := f5.size; have := f6.size; omega⟩
      unfold cycR
      rw [if_pos eb]; exact o6
    · unfold cycR
      rw [if_neg (by rw [eb]; simp)]
      exact o5
    rintro y h8 ⟨o8, q8, f8, z8⟩ hL8
    refine eop_putR (lo := h3.size) (m := h4.size) q8 o8 z4 z8 hL8 (fun q hq => by
      simp only [List.mem_cons, List.not_mem_nil, or_false] at hq
      rcases hq with rfl | rfl <;> simp only <;> omega) (by rw [cycL_length]; omega) _ fun u h10 o10 f10 V10 h11 f11 hL11 => ?_
    refine ⟨m - 1, by omega, by omega, by omega, ?_, (f8.trans (f10.mono fun k _ hk => by omega)).trans (f11.mono fun k _ hk => by simp [In] at hk; omega), by have := f10.size; have := f11.size; omega⟩
    have ep : (p + 1).toNat = p.toNat + 1 := by omega
    rw [ep, cycL', show ((p.toNat : Nat) : Int) = p by omega]
    exact OwR.fr o10 f11 fun k hk hk2 hk3 => by simp [In] at hk3; omega
  · simp only [decide_eq_false_iff_not] at e
    intro h12 f12 hL12
    have ep : p.toNat = n := by omega
    rw [ep] at o4
    have g12 : Fr (fun k => h.size ≤ k) h4 h12 := f12.mono fun k _ hk => by simp [In] at hk; omega
    have o12 : OwX h12 (fun k => h3.size ≤ k) x (cycL' n both n) := OwR.fr o4 f12 fun k hk hk2 hk3 => by simp [In] at hk3; omega
    exact HK x h12 (OwR.ivs (OwR.toIv o12) z3 (Nat.le_refl _)) ((f4.trans g12).mono fun k hk hk2 => absurd hk2 (by omega))

theorem row_put {L : List (Nat × List Value)} {lo : Nat} {h : Heap} {s : Sl} {xss : List (List Int)} {i : Int} (O : OwX h (fun k => lo ≤ k) s xss) (hlo : lo ≤ h.size) (h0 : 0 ≤ i) (h1 : i < (xss.length : Int)) (hL : Vars h L) (hoff : ∀ p, p ∈ L → p.1 < lo) (hb : (xss[i.toNat]'(by omega)).length ≤ 1000000) (x : Int) : ∃ si : Sl, hcell h (s.at i 1) = some si.v ∧ ∀ R : Heap → Prop, (∀ h', OwX h' (fun k => lo ≤ k) s (xss.set i.toNat (xss[i.toNat]'(by omega) ++ [x])) → Fr (fun k => lo ≤ k) h h' → Vars h' L → R h') → eop Try.prog (Instr.buildSlice tIs 1 #[(0, VI x)]) h fun rv h1 => ∃ t : Sl, rv = t.v ∧ Vars h1 L ∧ hcell h1 (s.at i 1) = some si.v ∧ eop Try.prog (appS tIs tIs tIs si.v t.v) h1 fun rv2 h2 => ∃ t2 : Sl, rv2 = t2.v ∧ Vars h2 L ∧ InB s i ∧ Writable h2 (s.at i 1) ∧ Vars (hset h2 (s.at i 1) t2.v) L ∧ ∀ h3, h3 = hset h2 (s.at i 1) t2.v → Vars h3 L → R h3 := by
  have Oi := OwR.toIv O
  obtain ⟨si, c1, c2, _⟩ := Oi.inner h0 h1
  refine ⟨si, c1, fun R HR => ?_⟩
  refine eop_lit rIs (fun k => h.size ≤ k) (fun _ h => h) 1 (by omega) [VI x] rfl rfl fun t h9 n9 c9 o9 f9 m9 _ => ⟨t, rfl, hL.of_no f9, hcell_fr c1 f9 (fun h => h), ?_⟩
  have s9 := f9.size
  have O9 := OwR.no Oi f9
  have c2' : OwI h9 (fun k => lo ≤ k) si (xss[i.toNat]'(by omega)) := (Ow.no c2 f9).mono fun k _ hk => hk.1
  have on := c2'.rd.len
  have tn := o9.rd.len
  simp only [List.length_map, Nat.mul_one, List.length_cons, List.length_nil] at on tn
  refine eop_append rIs c2' (fun k hk => by omega) o9.rd (plainVI [x]) (by omega) fun w h10 n10 o10 f10 d10 => ?_
  have g10 : Fr (fun k => lo ≤ k) h9 h10 := f10.mono fun k _ hk => (c2'.foot hk).1
  have V10 : Vars h10 L := (hL.of_no f9).fr g10 fun p hp hk => by have := hoff p hp; omega
  have o10' : OwI h10 (fun k => lo ≤ k) w (xss[i.toNat]'(by omega) ++ [x]) := by rw [OwI, List.map_append]; exact o10
  obtain ⟨i11, w11, o11, f11⟩ := O9.outer2 h0 h1 (hcell_fr c1 f9 fun h => h) f10 (F' := fun k => lo ≤ k) o10' (fun k _ hk => hk.1) fun k hk => (d10 k hk).imp id fun hk2 hk3 => by have := hk3.2; omega
  have g11 : Fr (fun k => lo ≤ k) h10 _ := (O9.ownF f11).mono fun k _ hk => hk.1
  have V11 := V10.fr g11 fun p hp hk => by have := hoff p hp; omega
  exact ⟨w, rfl, V10, i11, w11, V11, fun h3 e3 V3 => HR h3 (by rw [e3]; exact o11) (by rw [e3]; exact (f9.of_no.trans g10).trans g11) V3⟩
/-- Rows of at most q places out of N. -/
def GR (N : Int) (q : Nat) (xss : List (List Int)) : Prop := ∀ l, l ∈ xss → l.length ≤ q ∧ ∀ x, x ∈ l → 0 ≤ x ∧ x < N
theorem GR.nil (N : Int) (q : Nat) : GR N q [] := fun l hl => by cases hl
theorem GR.snoc {N : Int} {q : Nat} {xss : List (List Int)} {l : List Int} (H : GR N q xss) (h1 : l.length ≤ q) (h2 : ∀ x, x ∈ l → 0 ≤ x ∧ x < N) : GR N q (xss ++ [l]) := fun y hy => by
  rcases List.mem_append.1 hy with a | a
  · exact H y a
  · simp only [List.mem_cons, List.not_mem_nil, or_false] at a; rw [a]; exact ⟨h1, h2⟩
theorem GR.set {N : Int} {q : Nat} {xss : List (List Int)} {l : List Int} (H : GR N q xss) (i : Nat) (h1 : l.length ≤ q) (h2 : ∀ x, x ∈ l → 0 ≤ x ∧ x < N) : GR N q (xss.set i l) := fun y hy => by
  rcases List.mem_or_eq_of_mem_set hy with a | a
  · exact H y a
  · rw [a]; exact ⟨h1, h2⟩
theorem GR.up {N : Int} {q r : Nat} {xss : List (List Int)} (H : GR N q xss) (h : q ≤ r) : GR N r xss := fun l hl => ⟨Nat.le_trans (H l hl).1 h, (H l hl).2⟩
theorem GR.graph {q : Nat} {xss : List (List Int)} (H : GR xss.length q xss) (hq : q ≤ 5) (h1 : 1 ≤ xss.length) (h2 : xss.length ≤ 8) : graphB xss = true := by
  rw [graphB_eq (inR_iff.2 ⟨by omega, by omega⟩), List.all_eq_true]
  intro l hl
  have := H l hl
  rw [Bool.and_eq_true, Bool.not_eq_true', decide_eq_false_iff_not, List.all_eq_true]
  exact ⟨by omega, fun x hx => inR_iff.2 (by have := this.2 x hx; omega)⟩
theorem cyc_GR {n : Nat} (hn : 1 ≤ n) (both : Bool) : GR n 2 (cycP n both) := by
  have key : ∀ p, GR n 2 (cycL' n both p) := by
    intro p
    induction p with
    | zero => exact GR.nil _ _
    | succ p ih =>
      rw [cycL']
      refine ih.snoc ?_ ?_
      · unfold cycR; split <;> simp
      · intro x hx
        unfold cycR at hx
        rcases List.mem_append.1 hx with a | a
        · simp only [List.mem_cons, List.not_mem_nil, or_false] at a
          rw [a]; exact ⟨Int.tmod_nonneg _ (by omega), Int.tmod_lt_of_pos _ (by omega)⟩
        · split at a
          · simp only [List.mem_cons, List.not_mem_nil, or_false] at a
            rw [a]; exact ⟨Int.tmod_nonneg _ (by omega), Int.tmod_lt_of_pos _ (by omega)⟩
          · cases a
  exact key n

theorem k_sureGraph {a n b : Nat} {h : Heap} {c : Sl} {i sd : Int} (V : IsVar h b [c.v, VI i, .int .u64 sd]) (hb : a ≤ b) (D : CurD a n h c i) (hn : n ≤ 1000000000) {most : Int} (hm1 : 1 ≤ most) (hm2 : most ≤ 8) (K : Value → Heap → Prop) (HK : ∀ (t : Sl) (xss : List (List Int)) (i' sd' : Int) h', OwX h' (Iv h.size h'.size) t xss → GR xss.length 4 xss → 1 ≤ xss.length → (xss.length : Int) ≤ most → IsVar h' b [c.v, VI i', .int .u64 sd'] → CurD a (n + 100) h' c i' → Fr (In [b]) h h' → K (.agg #[t.v]) h') : callM Try.prog 163 #[VP b 0, VI most] h K := by
  have lb := V.lt
  refine v163 b c i sd most h K (.cons V (by simp) .nil) fun b2 h1 hb2 f1 hL1 => ?_
  have f1 := f1.in_nil
  have z1 := f1.size
  have l2 : b2 < h1.size := hL1.head.lt
  have fin : ∀ (h' : Heap), Fr (fun k => k = b ∨ h.size ≤ k) h h' → Fr (In [b]) h h' := fun h' f => f.mono fun k hk hk2 => by
    rcases hk2 with e | e
    · simp [In, e]
    · omega
  have inb : ∀ {x y : Heap}, Fr (In [b]) x y → Fr (fun k => k = b ∨ h.size ≤ k) x y := fun f => f.mono fun k _ hk => .inl (by simpa [In] using hk)
  refine k_pick hL1.tail.head hb (D.no f1) (by omega) most _ fun r i2 sd2 h2 r0 r1 V2 D2 f2 => ⟨c, i2, sd2, r, rfl, vcur hL1 1 rfl f2 V2, ?_⟩
  have hr := r1 hm1
  rw [w64_eq (1 + r) (by omega) (by omega)]
  have hL2 := vcur hL1 1 rfl f2 V2
  refine k_one V2 hb D2 (by omega) _ _ fun q i3 sd3 h3 V3 D3 f3 => ⟨c, i3, sd3, q, rfl, vcur hL2 1 rfl f3 V3, fun eq => ?_, fun eq => ?_⟩
  · have hL3 := vcur hL2 1 rfl f3 V3
    refine k_one V3 hb D3 (by omega) _ _ fun q4 i4 sd4 h4 V4 D4 f4 => ⟨c, i4, sd4, q4, rfl, vcur hL3 1 rfl f4 V4, ?_⟩
    have hL4 := vcur hL3 1 rfl f4 V4
    have en : (1 + r) = (((1 + r).toNat : Nat) : Int) := by omega
    rw [en]
    refine k_grCycle (1 + r).toNat (by omega) q4 _ fun t h5 o5 f5 => ⟨t, rfl, hL4.of_no f5, fun h6 f6 hL6 => ?_⟩
    have z2 := f2.size
    have z3 := f3.size
    have z4 := f4.size
    have z5 := f5.size
    have o6 : OwX h6 (Iv h4.size h5.size) t (cycP (1 + r).toNat q4) := OwR.fr o5 f6 fun k hk hk2 hk3 => by simp [In] at hk3; have := hk2.1; omega
    have z6 := f6.size
    have hl : (cycP (1 + r).toNat q4).length = (1 + r).toNat := cycL_length _ _ _
    refine HK t _ i4 sd4 h6 (OwR.ivs o6 (by omega) z6) ?_ (by omega) (by omega) hL6.tail.head ?_ (fin h6 ?_)
    · rw [hl]; exact (cyc_GR (by omega) q4).up (by omega)
    · exact (((D4.no f5).fr f6 fun k hk hk2 => by simp [In] at hk2; omega)).up (by omega)
    · exact ((((f1.of_no.trans (inb f2)).trans (inb f3)).trans (inb f4)).trans f5.of_no).trans (f6.mono fun k _ hk => .inr (by simp [In] at hk; omega))
  · intro b3 h8 hb3 f8 hL8
    have f8 := f8.in_nil
    have z2 := f2.size
    have z3 := f3.size
    have z8 := f8.size
    have l3 : b3 < h8.size := hL8.head.lt
    have f08 : Fr (fun k => k = b ∨ h.size ≤ k) h h8 := ((f1.of_no.trans (inb f2)).trans (inb f3)).trans f8.of_no
    refine ⟨fun m p x d i' sd' h' => 0 ≤ p ∧ p + m = 1 + r ∧ d = c ∧ CurD a (n + 4 + 10 * p.toNat) h' c i' ∧ (∃ rows, OwX h' (fun k => h8.size ≤ k) x rows ∧ GR (1 + r) 3 rows ∧ rows.length = p.toNat) ∧ Fr (fun k => k = b ∨ h.size ≤ k) h h' ∧ h8.size ≤ h'.size, ⟨(1 + r).toNat, by omega, by omega, rfl, (D3.no f8).up (by omega), ⟨[], OwR.nil _ _ _ _, GR.nil _ _, rfl⟩, f08, Nat.le_refl _⟩, ?_⟩
    rintro m p x d i9 sd9 h9 ⟨p0, p1, rfl, D9, ⟨rows, o9, g9, e9⟩, f9, z9⟩ hL9
    have hoff : ∀ (A B C : List Value) (q : Nat × List Value), q ∈ [(b3, A), (b2, B), (b, C)] → q.1 < h8.size := fun A B C q hq => by
      simp only [List.mem_cons, List.not_mem_nil, or_false] at hq
      rcases hq with rfl | rfl | rfl <;> simp only <;> omega
    refine ⟨fun e => ?_, fun e => ?_⟩
    · simp only [decide_eq_true_eq] at e
      refine k_pick hL9.tail.tail.head hb D9 (by omega) 3 _ fun y i10 sd10 h10 y0 y1 V10 D10 f10 => ⟨d, i10, sd10, y, rfl, vcur hL9 2 rfl f10 V10, ?_⟩
      have y1 := y1 (by omega)
      rw [w64_eq (1 + y) (by omega) (by omega)]
      have z10 := f10.size
      have o10 := OwR.fr (OwR.toIv o9) f10 fun k hk hk2 hk3 => by simp [In] at hk3; have := hk2.1; omega
      refine ⟨fun m l k d' i' sd' h' => m = k.toNat ∧ 0 ≤ k ∧ d' = d ∧ CurD a (n + 6 + 10 * p.toNat + 2 * (3 - k).toNat) h' d i' ∧ (∃ ys, OwI h' (fun k => h9.size ≤ k) l ys ∧ (∀ x, x ∈ ys → 0 ≤ x ∧ x < 1 + r) ∧ (ys.length : Int) + k ≤ 3) ∧ OwX h' (Iv h8.size h9.size) x rows ∧ Fr (fun k => k = b ∨ h.size ≤ k) h h' ∧ h9.size ≤ h'.size, ⟨(1 + y).toNat, rfl, by omega, rfl, D10.up (by omega), ⟨[], Ow.nil _ _ _ _, by simp, by simp; omega⟩, o10, f9.trans (inb f10), z10⟩, ?_⟩
      rintro m2 l k d' i11 sd11 h11 ⟨rfl, k0, rfl, D11, ⟨ys, q11, r11, e11⟩, o11, f11, z11⟩ hL11
      refine ⟨fun ek => ?_, fun ek => ?_⟩
      · simp only [decide_eq_true_eq] at ek
        refine k_pick hL11.tail.tail.head hb D11 (by omega) (1 + r) _ fun w i12 sd12 h12 w0 w1 V12 D12 f12 => ⟨d', i12, sd12, w, rfl, vcur hL11 2 rfl f12 V12, ?_⟩
        have w1 := w1 (by omega)
        have z12 := f12.size
        have q12 : OwI h12 (fun k => h9.size ≤ k) l ys := Ow.fr q11 f12 fun k hk hk3 => by have := (q11.foot hk).1; simp [In] at hk3; omega
        have hL12 := vcur hL11 2 rfl f12 V12
        refine eop_put (lo := h9.size) q12 (by omega) hL12 (fun q hq => by have := hoff _ _ _ q hq; omega) (by omega) _ fun u h14 o14 f14 V14 => ?_
        rw [w64_eq (k - 1) (by omega) (by omega)]
        have z14 := f14.size
        refine ⟨(k - 1).toNat, by omega, rfl, by omega, rfl, ?_, ⟨ys ++ [w], o14, ?_, by simp; omega⟩, ?_, ?_, by omega⟩
        · exact (D12.fr f14 fun k hk hk2 => by omega).up (by omega)
        · intro v hv
          rcases List.mem_append.1 hv with a | a
          · exact r11 v a
          · simp only [List.mem_cons, List.not_mem_nil, or_false] at a; omega
        · refine OwR.fr (OwR.fr o11 f12 fun k hk hk2 hk3 => by simp [In] at hk3; have := hk2.1; omega) f14 fun k hk hk2 hk3 => by have := hk2.2; omega
        · exact (f11.trans (inb f12)).trans (f14.mono fun k _ hk => .inr (by have := f9.size; omega))
      · simp only [decide_eq_false_iff_not] at ek
        have ek0 : k = 0 := by omega
        subst ek0
        refine ⟨fun y2 d2 i2' sd2' h' => d2 = d' ∧ (∃ zs, OwI h' (fun k => h9.size ≤ k) y2 zs ∧ (∀ x, x ∈ zs → 0 ≤ x ∧ x < 1 + r) ∧ zs.length ≤ 3) ∧ OwX h' (Iv h8.size h9.size) x rows ∧ CurD a (n + 14 + 10 * p.toNat) h' d' i2' ∧ Fr (fun k => k = b ∨ h.size ≤ k) h h' ∧ h9.size ≤ h'.size, ?_, ?_⟩
        · refine k_one hL11.tail.tail.head hb D11 (by omega) 8 _ fun q15 i15 sd15 h15 V15 D15 f15 => ⟨d', i15, sd15, q15, rfl, vcur hL11 2 rfl f15 V15, fun _ => ?_, fun _ => ?_⟩
          · exact ⟨rfl, ⟨[], Ow.nil _ _ _ _, by simp, by simp⟩, OwR.fr o11 f15 fun k hk hk2 hk3 => by simp [In] at hk3; have := hk2.1; omega, D15.up (by omega), f11.trans (inb f15), by have := f15.size; omega⟩
          · exact ⟨rfl, ⟨ys, Ow.fr q11 f15 fun k hk hk3 => by have := (q11.foot hk).1; simp [In] at hk3; omega, r11, by omega⟩, OwR.fr o11 f15 fun k hk hk2 hk3 => by simp [In] at hk3; have := hk2.1; omega, D15.up (by omega), f11.trans (inb f15), by have := f15.size; omega⟩
        rintro y2 d2 i16 sd16 h16 ⟨rfl, ⟨zs, q16, r16, e16⟩, o16, D16, f16, z16⟩ hL16
        refine eop_putR (lo := h8.size) (m := h9.size) o16 q16 z9 z16 hL16 (fun q hq => hoff _ _ _ q hq) (by omega) _ fun u h18 o18 f18 V18 h19 f19 hL19 => ?_
        rw [w64_eq (p + 1) (by omega) (by omega)]
        have z18 := f18.size
        have z19 := f19.size
        refine ⟨m - 1, by omega, by omega, by omega, rfl, ?_, ⟨rows ++ [zs], OwR.fr o18 f19 fun k hk hk2 hk3 => by simp [In] at hk3; omega, g9.snoc e16 r16, by simp; omega⟩, ?_, by omega⟩
        · exact ((D16.fr f18 fun k hk hk2 => by omega).fr f19 fun k hk hk2 => by simp [In] at hk2; omega).up (by omega)
        · exact (f16.trans (f18.mono fun k _ hk => .inr (by omega))).trans (f19.mono fun k _ hk => .inr (by simp [In] at hk; omega))
    · simp only [decide_eq_false_iff_not] at e
      have hrl : (rows.length : Int) = 1 + r := by omega
      refine k_one hL9.tail.tail.head hb D9 (by omega) 2 _ fun q20 i20 sd20 h20 V20 D20 f20 => ⟨d, i20, sd20, q20, rfl, vcur hL9 2 rfl f20 V20, fun _ => ?_, fun _ => ?_⟩
      · have z20 := f20.size
        have o20 : OwX h20 (fun k => h8.size ≤ k) x rows := OwR.fr o9 f20 fun k hk hk2 hk3 => by simp [In] at hk3; omega
        have hL20 := vcur hL9 2 rfl f20 V20
        refine ⟨fun m2 j h' => 0 ≤ j ∧ j + m2 = 1 + r ∧ CurD a (n + 100) h' d i20 ∧ (∃ rs, OwX h' (fun k => h8.size ≤ k) x rs ∧ GR (1 + r) 4 rs ∧ (rs.length : Int) = 1 + r ∧ ∀ k (hk : k < rs.length), j ≤ (k : Int) → rs[k].length ≤ 3) ∧ Fr (fun k => k = b ∨ h.size ≤ k) h h' ∧ h8.size ≤ h'.size, ⟨(1 + r).toNat, by omega, by omega, D20.up (by omega), ⟨rows, o20, g9.up (by omega), hrl, fun k hk _ => (g9 _ (List.getElem_mem hk)).1⟩, f9.trans (inb f20), by omega⟩, ?_⟩
        rintro m2 j h21 ⟨j0, j1, D21, ⟨rs, o21, g21, e21, s21⟩, f21, z21⟩ hL21
        have hxn : (x.n : Int) = 1 + r := by have := OwR.len o21; omega
        refine ⟨fun ej => ?_, fun ej => ?_⟩
        · simp only [decide_eq_true_eq] at ej
          have hj : j < (rs.length : Int) := by omega
          have hsj := s21 j.toNat (by omega) (by omega)
          obtain ⟨si, c1, c2⟩ := row_put o21 z21 j0 hj hL21 (fun q hq => hoff _ _ _ q hq) (by omega) ((w64 (j + 1)).tmod (1 + r))
          refine ⟨(OwR.rd o21).inb j0 hj, si, c1, by omega, c2 _ fun h24 o24 f24 V24 => ?_⟩
          rw [w64_eq (j + 1) (by omega) (by omega)] at o24 ⊢
          refine ⟨m2 - 1, by omega, by omega, by omega, D21.fr f24 fun k hk hk2 => by omega, ⟨_, o24, g21.set _ (by simp; omega) ?_, by simp; omega, fun k hk hk2 => ?_⟩, f21.trans (f24.mono fun k _ hk => .inr (by omega)), by have := f24.size; omega⟩
          · intro v hv
            rcases List.mem_append.1 hv with a | a
            · exact (g21 _ (List.getElem_mem _)).2 v a
            · simp only [List.mem_cons, List.not_mem_nil, or_false] at a
              rw [a]; exact ⟨Int.tmod_nonneg _ (by omega), Int.tmod_lt_of_pos _ (by omega)⟩
          · rw [List.getElem_set, if_neg (by omega)]
            exact s21 k (by simpa using hk) (by omega)
        · intro h25 f25 hL25
          have o25 : OwX h25 (fun k => h8.size ≤ k) x rs := OwR.fr o21 f25 fun k hk hk2 hk3 => by simp [In] at hk3; omega
          refine HK x rs i20 sd20 h25 (OwR.ivs (OwR.toIv o25) (by omega) (Nat.le_refl _)) (by rw [e21]; exact g21) (by omega) (by omega) hL25.tail.tail.head (D21.fr f25 fun k hk hk2 => by simp [In] at hk2; omega) (fin _ (f21.trans (f25.mono fun k _ hk => .inr (by simp [In] at hk; omega))))
      · intro h26 f26 hL26
        have z20 := f20.size
        have o26 : OwX h26 (fun k => h8.size ≤ k) x rows := OwR.fr (OwR.fr o9 f20 fun k hk hk2 hk3 => by simp [In] at hk3; omega) f26 fun k hk hk2 hk3 => by simp [In] at hk3; omega
        refine HK x rows i20 sd20 h26 (OwR.ivs (OwR.toIv o26) (by omega) (Nat.le_refl _)) (by rw [hrl]; exact g9.up (by omega)) (by omega) (by omega) hL26.tail.tail.head ((D20.fr f26 fun k hk hk2 => by simp [In] at hk2; omega).up (by omega)) (fin _ ((f9.trans (inb f20)).trans (f26.mono fun k _ hk => .inr (by simp [In] at hk; omega))))

theorem row_set {L : List (Nat × List Value)} {F : Nat → Prop} {m : Nat} {h : Heap} {s x : Sl} {xss : List (List Int)} {ys : List Int} {i : Int} (O : OwX h (fun k => F k ∧ k < m) s xss) (X : OwI h (fun k => m ≤ k) x ys) (hF : ∀ k, m ≤ k → F k) (h0 : 0 ≤ i) (h1 : i < (xss.length : Int)) (hL : Vars h L) (hoff : ∀ p, p ∈ L → ¬ F p.1) (R : Heap → Prop) (HR : ∀ h', OwX h' F s (xss.set i.toNat ys) → Fr F h h' → Vars h' L → R h') : InB s i ∧ Writable h (s.at i 1) ∧ Vars (hset h (s.at i 1) x.v) L ∧ ∀ h3, h3 = hset h (s.at i 1) x.v → Vars h3 L → R h3 := by
  obtain ⟨si, c1, c2, _⟩ := O.inner h0 h1
  obtain ⟨i11, w11, o11, f11⟩ := O.outer2 h0 h1 c1 (Fr.refl _ _) (F' := F) (X.mono fun k _ hk => hF k hk) (fun k _ hk => hk.1) fun k hk => .inr fun hk2 => by have := (X.foot hk).1; have := hk2.2; omega
  have g11 : Fr F h _ := (O.ownF f11).mono fun k _ hk => hk.1
  have V11 := hL.fr g11 hoff
  exact ⟨i11, w11, V11, fun h3 e3 V3 => HR h3 (by rw [e3]; exact o11) (by rw [e3]; exact g11) V3⟩

theorem cell_keep {S T : Nat → Prop} {h h' : Heap} {s : Sl} {xss : List (List Int)} {i : Int} (R : RdR S h s xss) (h0 : 0 ≤ i) (h1 : i < (xss.length : Int)) (f : Fr T h h') (hd : ∀ k, S k → ¬ T k) {v : Value} (c : hcell h (s.at i 1) = some v) : hcell h' (s.at i 1) = some v := by
  obtain ⟨ss, e, V, _⟩ := R.out
  obtain ⟨a, ha, hs, _⟩ := V.cell i.toNat (by simp; omega)
  refine hcell_fr c f ?_
  rw [at_one ha, add_block]
  exact hd _ hs
theorem slv_inj {a b : Sl} (h : some a.v = some b.v) : a = b := by
  cases a; cases b; simp [Sl.v] at h; simp [h]
theorem row_putF {L : List (Nat × List Value)} {F : Nat → Prop} {h : Heap} {s si : Sl} {xss : List (List Int)} {i : Int} (O : OwX h F s xss) (hF : ∀ k, h.size ≤ k → F k) (h0 : 0 ≤ i) (h1 : i < (xss.length : Int)) (c0 : hcell h (s.at i 1) = some si.v) (hL : Vars h L) (hoff : ∀ p, p ∈ L → ¬ F p.1) (hb : (xss[i.toNat]'(by omega)).length ≤ 1000000) (x : Int) (R : Heap → Prop) (HR : ∀ h', OwX h' F s (xss.set i.toNat (xss[i.toNat]'(by omega) ++ [x])) → Fr F h h' → Vars h' L → R h') : eop Try.prog (Instr.buildSlice tIs 1 #[(0, VI x)]) h fun rv h1 => ∃ t : Sl, rv = t.v ∧ Vars h1 L ∧ hcell h1 (s.at i 1) = some si.v ∧ eop Try.prog (appS tIs tIs tIs si.v t.v) h1 fun rv2 h2 => ∃ t2 : Sl, rv2 = t2.v ∧ Vars h2 L ∧ InB s i ∧ Writable h2 (s.at i 1) ∧ Vars (hset h2 (s.at i 1) t2.v) L ∧ ∀ h3, h3 = hset h2 (s.at i 1) t2.v → Vars h3 L → R h3 := by
  have Oi : OwX h (fun k => F k ∧ k < h.size) s xss := O.mono fun k hk hk2 => ⟨hk2, hk⟩
  obtain ⟨sj, c1, c2, _⟩ := Oi.inner h0 h1
  have : sj = si := slv_inj (c1.symm.trans c0)
  subst this
  refine eop_lit rIs (fun k => h.size ≤ k) (fun _ h => h) 1 (by omega) [VI x] rfl rfl fun t h9 n9 c9 o9 f9 m9 _ => ⟨t, rfl, hL.of_no f9, hcell_fr c1 f9 (fun h => h), ?_⟩
  have s9 := f9.size
  have O9 := OwR.no Oi f9
  have c2' : OwI h9 F sj (xss[i.toNat]'(by omega)) := (Ow.no c2 f9).mono fun k _ hk => hk.1
  have on := c2'.rd.len
  have tn := o9.rd.len
  simp only [List.length_map, Nat.mul_one, List.length_cons, List.length_nil] at on tn
  refine eop_append rIs c2' (fun k hk => hF k (by omega)) o9.rd (plainVI [x]) (by omega) fun w h10 n10 o10 f10 d10 => ?_
  have g10 : Fr F h9 h10 := f10.mono fun k _ hk => (c2'.foot hk).1
  have V10 : Vars h10 L := (hL.of_no f9).fr g10 hoff
  have o10' : OwI h10 F w (xss[i.toNat]'(by omega) ++ [x]) := by rw [OwI, List.map_append]; exact o10
  obtain ⟨i11, w11, o11, f11⟩ := O9.outer2 h0 h1 (hcell_fr c1 f9 fun h => h) f10 (F' := F) o10' (fun k _ hk => hk.1) fun k hk => (d10 k hk).imp id fun hk2 hk3 => by have := hk3.2; omega
  have g11 : Fr F h10 _ := (O9.ownF f11).mono fun k _ hk => hk.1
  have V11 := V10.fr g11 hoff
  exact ⟨w, rfl, V10, i11, w11, V11, fun h3 e3 V3 => HR h3 (by rw [e3]; exact o11) (by rw [e3]; exact (f9.of_no.trans g10).trans g11) V3⟩
theorem eop_putF {L : List (Nat × List Value)} {F : Nat → Prop} {m : Nat} {h : Heap} {s x : Sl} {xss : List (List Int)} {ys : List Int} (O : OwX h (fun k => F k ∧ k < m) s xss) (X : OwI h (fun k => m ≤ k) x ys) (hF : ∀ k, m ≤ k → F k) (hm : m ≤ h.size) (hL : Vars h L) (hoff : ∀ p, p ∈ L → ¬ F p.1) (hb : xss.length ≤ 1000000) (R : Sl → Heap → Prop) (HR : ∀ t h', OwX h' F t (xss ++ [ys]) → Fr F h h' → Vars h' L → R t h') : eop Try.prog (Instr.buildSlice tIss 1 #[(0, x.v)]) h fun rv h1 => ∃ t : Sl, rv = t.v ∧ Vars h1 L ∧ eop Try.prog (appS tIss tIss tIss s.v t.v) h1 fun rv2 h2 => ∃ t2 : Sl, rv2 = t2.v ∧ Vars h2 L ∧ R t2 h2 := by
  refine eop_lit rIss (fun k => h.size ≤ k) (fun _ h => h) 1 (by omega) [x.v] rfl rfl fun t h1 n1 c1 o1 f1 m1 _ => ⟨t, rfl, hL.of_no f1, ?_⟩
  have z1 := f1.size
  refine OwR.snoc rIss (OwR.no O f1) (F' := F) (fun k _ hk => hk.1) (fun k hk => hF k (by omega)) ((Ow.no X f1).mono fun k _ hk => hF k hk) (fun k hk hk2 => by have := (X.foot hk).1; have := hk2.2; omega) o1.rd (by omega) fun y h2 o2 f2 => ?_
  have g2 : Fr F h1 h2 := f2.mono fun k _ hk => hk.1
  have V2 : Vars h2 L := (hL.of_no f1).fr g2 hoff
  exact ⟨y, rfl, V2, HR y h2 o2 (f1.of_no.trans g2) V2⟩

theorem k_drplace {a n b : Nat} {h : Heap} {c : Sl} {i sd : Int} (V : IsVar h b [c.v, VI i, .int .u64 sd]) (hb : a ≤ b) (D : CurD a n h c i) (hn : n ≤ 10000000) (g : Sl) (K : Value → Heap → Prop) (HK : ∀ (p i' sd' : Int) h', IsVar h' b [c.v, VI i', .int .u64 sd'] → CurD a (n + 4) h' c i' → Fr (In [b]) h h' → K (VI p) h') : callM Try.prog 106 #[VP b 0, .agg #[g.v]] h K := by
  have lb := V.lt
  have ub : ∀ {x y z : Heap}, Fr No x y → Fr (In [b]) y z → Fr (In [b]) x z := fun f g => f.of_no.trans g
  refine v106 b c i sd g h K (.cons V (by simp) .nil) ⟨fun _ b2 h1 hb2 f1 hL1 => ?_, fun e b2 h1 hb2 f1 hL1 => ?_⟩
  · have f1 := f1.in_nil
    have z1 := f1.size
    refine eop_lit rIs (fun k => h1.size ≤ k) (fun _ h => h) 4 (by omega) [VI (-1), VI 0, VI (g.n : Int), VI 4611686018427387904] rfl rfl fun w h6 n6 c6 o6 f6 m6 _ => ⟨w, rfl, hL1.of_no f6, ?_⟩
    have r6 : RdI (fun k => h1.size ≤ k) h6 w [-1, 0, (g.n : Int), 4611686018427387904] := o6.rdF
    exact k_among (hL1.of_no f6).tail.head hb ((D.no f1).no f6) (by omega) r6 (by omega) (by simp) _ fun v i7 sd7 h7 hv V7 D7 f7 => ⟨c, i7, sd7, v, rfl, vcur (hL1.of_no f6) 1 rfl f7 V7, HK v i7 sd7 h7 V7 (D7.up (by omega)) (ub (f1.no_trans f6) f7)⟩
  · have f1 := f1.in_nil
    have z1 := f1.size
    refine k_one hL1.tail.head hb (D.no f1) (by omega) 14 _ fun q i2 sd2 h2 V2 D2 f2 => ⟨c, i2, sd2, q, rfl, vcur hL1 1 rfl f2 V2, fun _ => ?_, fun _ => ?_⟩
    · have z2 := f2.size
      have hL2 := vcur hL1 1 rfl f2 V2
      refine eop_lit rIs (fun k => h2.size ≤ k) (fun _ h => h) 4 (by omega) [VI (-1), VI 0, VI (g.n : Int), VI 4611686018427387904] rfl rfl fun w h6 n6 c6 o6 f6 m6 _ => ⟨w, rfl, hL2.of_no f6, ?_⟩
      have r6 : RdI (fun k => h2.size ≤ k) h6 w [-1, 0, (g.n : Int), 4611686018427387904] := o6.rdF
      exact k_among (hL2.of_no f6).tail.head hb (D2.no f6) (by omega) r6 (by omega) (by simp) _ fun v i7 sd7 h7 hv V7 D7 f7 => ⟨c, i7, sd7, v, rfl, vcur (hL2.of_no f6) 1 rfl f7 V7, HK v i7 sd7 h7 V7 (D7.up (by omega)) ((ub f1 f2).trans (ub f6 f7))⟩
    · have hL2 := vcur hL1 1 rfl f2 V2
      exact k_pick hL2.tail.head hb D2 (by omega) _ _ fun v i5 sd5 h5 v0 v1 V5 D5 f5 => ⟨c, i5, sd5, v, rfl, vcur hL2 1 rfl f5 V5, HK v i5 sd5 h5 V5 (D5.up (by omega)) ((ub f1 f2).trans f5)⟩

theorem k_drgraph {a n b : Nat} {h : Heap} {c : Sl} {i sd : Int} (V : IsVar h b [c.v, VI i, .int .u64 sd]) (hb : a ≤ b) (D : CurD a n h c i) (hn : n ≤ 10000000) (K : Value → Heap → Prop) (HK : ∀ (t : Sl) (gs : List (List Int)) (i' sd' : Int) h', RdR (fun k => h.size ≤ k) h' t gs → IsVar h' b [c.v, VI i', .int .u64 sd'] → CurD a (n + 200) h' c i' → Fr (In [b]) h h' → K (.agg #[t.v]) h') : callM Try.prog 112 #[VP b 0] h K := by
  have lb := V.lt
  refine v112 b c i sd h K (.cons V (by simp) .nil) fun b2 h1 hb2 f1 hL1 => ?_
  have f1 := f1.in_nil
  have z1 := f1.size
  have l2 : b2 < h1.size := hL1.head.lt
  have fin : ∀ (h' : Heap), Fr (fun k => k = b ∨ h.size ≤ k) h h' → Fr (In [b]) h h' := fun h' f => f.mono fun k hk hk2 => by
    rcases hk2 with e | e
    · simp [In, e]
    · omega
  have inb : ∀ {x y : Heap}, Fr (In [b]) x y → Fr (fun k => k = b ∨ h.size ≤ k) x y := fun f => f.mono fun k _ hk => .inl (by simpa [In] using hk)
  refine k_sureGraph hL1.tail.head hb (D.no f1) (by omega) (most := 6) (by omega) (by omega) _ fun t xss i2 sd2 h2 o2 g2 n1 n2 V2 D2 f2 => ⟨c, i2, sd2, t, rfl, vcur hL1 1 rfl f2 V2, fun b3 h4 hb3 f4 hL4 => ?_⟩
  have f4 := f4.in_nil
  have z2 := f2.size
  have z4 := f4.size
  have l3 : b3 < h4.size := hL4.head.lt
  have tn := OwR.len o2
  generalize hF : (fun k => (h1.size ≤ k ∧ k < h2.size) ∨ h4.size ≤ k) = F
  have F1 : ∀ k, F k → h1.size ≤ k := fun k hk => by rw [← hF] at hk; rcases hk with a | a <;> omega
  have F2 : ∀ k, h4.size ≤ k → F k := fun k hk => by rw [← hF]; exact .inr hk
  have F3 : ¬ F b3 := fun hk => by rw [← hF] at hk; rcases hk with a | a <;> omega
  have o4 : OwX h4 F t xss := (OwR.no o2 f4).mono fun k hk hk2 => by rw [← hF]; exact .inl hk2
  have f04 : Fr (fun k => k = b ∨ h.size ≤ k) h h4 := (f1.of_no.trans (inb f2)).trans f4.of_no
  have gb : ∀ {X Y : Heap} {w : Sl} {zs : List (List Int)}, OwX X F w zs → Fr (In [b]) X Y → OwX Y F w zs := fun O f => OwR.fr O f fun k hk hk2 hk3 => by simp [In] at hk3; have := F1 _ hk2; omega
  have fT : ∀ {x y : Heap}, Fr F x y → Fr (fun k => k = b ∨ h.size ≤ k) x y := fun f => f.mono fun k _ hk => .inr (by have := F1 _ hk; omega)
  have hoff : ∀ (A B C : List Value) (q : Nat × List Value), q ∈ [(b3, A), (b2, B), (b, C)] → ¬ F q.1 := fun A B C q hq => by
    simp only [List.mem_cons, List.not_mem_nil, or_false] at hq
    rcases hq with rfl | rfl | rfl
    · exact F3
    · exact fun hk => by have := F1 _ hk; omega
    · exact fun hk => by have := F1 _ hk; omega
  have out : ∀ (w : Sl) (zs : List (List Int)) (i' sd' : Int) (X Y : Heap), OwX X F w zs → CurD a (n + 200) X c i' → Fr (fun k => k = b ∨ h.size ≤ k) h X → Fr (In [b2]) X Y → IsVar Y b [c.v, VI i', .int .u64 sd'] → K (.agg #[w.v]) Y := fun w zs i' sd' X Y O DD ff f VV => by
    have OY : OwX Y F w zs := OwR.fr O f fun k hk hk2 hk3 => by simp [In] at hk3; subst hk3; have := F1 _ hk2; omega
    exact HK w zs i' sd' Y ((OwR.rd OY).mono fun k hk => by have := F1 _ hk.1; omega) VV (DD.fr f fun k hk hk2 => by simp [In] at hk2; omega) (fin _ (ff.trans (f.mono fun k _ hk => .inr (by simp [In] at hk; omega))))
  refine k_pick hL4.tail.tail.head hb (D2.no f4) (by omega) 16 _ fun s i5 sd5 h5 s0 s1 V5 D5 f5 => ⟨c, i5, sd5, s, rfl, vcur hL4 2 rfl f5 V5, fun _ => ?_, fun _ => ⟨fun _ => ?_, fun _ => ⟨fun _ => ?_, fun _ => ⟨fun _ h24 f24 hL24 => ?_, fun _ h25 f25 hL25 => ?_⟩⟩⟩⟩
  · have o5 := gb o4 f5
    have z5 := f5.size
    have hL5 : Vars h5 [(b3, [t.v]), (b2, [nilSl.v]), (b, [c.v, VI i5, .int .u64 sd5])] := vcur hL4 2 rfl f5 V5
    have hp : (0 : Int) < (xss.length : Int) := by omega
    obtain ⟨si, c1, c2, _⟩ := OwR.inner o5 (Int.le_refl 0) hp
    have r5 := OwR.rd o5
    refine ⟨r5.inb (Int.le_refl 0) hp, si, c1, ?_⟩
    refine eop_lit rIs (fun k => h5.size ≤ k) (fun _ h => h) 3 (by omega) [VI (-1), VI (t.n : Int), VI 4611686018427387904] rfl rfl fun w h6 n6 c6 o6 f6 m6 _ => ⟨w, rfl, hL5.of_no f6, hcell_fr c1 f6 (fun h => h), ?_⟩
    have z6 := f6.size
    have r6 : RdI (fun k => h5.size ≤ k) h6 w [-1, (t.n : Int), 4611686018427387904] := o6.rdF
    refine k_among (hL5.of_no f6).tail.tail.head hb (D5.no f6) (by omega) r6 (by omega) (by simp) _ fun v i7 sd7 h7 hv V7 D7 f7 => ⟨c, i7, sd7, v, rfl, vcur (hL5.of_no f6) 2 rfl f7 V7, ?_⟩
    have z7 := f7.size
    have hL7 : Vars h7 [(b3, [t.v]), (b2, [nilSl.v]), (b, [c.v, VI i7, .int .u64 sd7])] := vcur (hL5.of_no f6) 2 rfl f7 V7
    have c7 : hcell h7 (t.at 0 1) = some si.v := cell_keep (r5.no f6) (Int.le_refl 0) hp f7 (fun k hk hk2 => by simp [In] at hk2; have := F1 _ hk.1; omega) (hcell_fr c1 f6 fun h => h)
    have g0 := (g2 _ (List.getElem_mem (show (0 : Int).toNat < xss.length by omega))).1
    refine ⟨c7, row_putF (gb (OwR.no o5 f6) f7) (fun k hk => F2 k (by omega)) (Int.le_refl 0) hp c7 hL7 (fun q hq => hoff _ _ _ q hq) (by omega) v _ fun h10 o10 f10 V10 h11 f11 hL11 => ?_⟩
    exact out t _ i7 sd7 h10 h11 o10 ((D7.fr f10 fun k hk hk2 => by have := F1 _ hk2; omega).up (by omega)) ((((f04.trans (inb f5)).trans f6.of_no).trans (inb f7)).trans (fT f10)) f11 hL11.tail.tail.head
  · have o5 := gb o4 f5
    have z5 := f5.size
    have hL5 : Vars h5 [(b3, [t.v]), (b2, [nilSl.v]), (b, [c.v, VI i5, .int .u64 sd5])] := vcur hL4 2 rfl f5 V5
    have hp : (0 : Int) < (xss.length : Int) := by omega
    refine k_pick hL5.tail.tail.head hb D5 (by omega) 2 _ fun y i6 sd6 h6 y0 y1 V6 D6 f6 => ⟨c, i6, sd6, y, rfl, vcur hL5 2 rfl f6 V6, ?_⟩
    have y1 := y1 (by omega)
    have z6 := f6.size
    have hL6 : Vars h6 [(b3, [t.v]), (b2, [nilSl.v]), (b, [c.v, VI i6, .int .u64 sd6])] := vcur hL5 2 rfl f6 V6
    rw [w64_eq (5 + y) (by omega) (by omega)]
    have ey : 5 + y = (((5 + y).toNat : Nat) : Int) := by omega
    rw [ey]
    refine eop_make rIs (fun k => h6.size ≤ k) (fun _ h => h) .i64 .i64 (5 + y).toNat (5 + y).toNat (Nat.le_refl _) (by omega) fun w h7 n7 c7 o7 f7 m7 _ => ⟨w, rfl, hL6.of_no f7, ?_⟩
    have z7 := f7.size
    have o7' : OwI h7 (fun k => h6.size ≤ k) w (List.replicate (5 + y).toNat 0) := by
      have e : (List.replicate (5 + y).toNat [VI 0]).flatten = (List.replicate (5 + y).toNat (0 : Int)).map VI := by simp [List.flatten_replicate_singleton]
      rw [e] at o7; exact o7
    have o6i : OwX h6 (fun k => F k ∧ k < h6.size) t xss := (gb o5 f6).mono fun k hk hk2 => ⟨hk2, hk⟩
    exact row_set (m := h6.size) (OwR.no o6i f7) o7' (fun k hk => F2 k (by omega)) (Int.le_refl 0) hp (hL6.of_no f7) (fun q hq => hoff _ _ _ q hq) _ fun h10 o10 f10 V10 h11 f11 hL11 => out t _ i6 sd6 h10 h11 o10 (((D6.no f7).fr f10 fun k hk hk2 => by have := F1 _ hk2; omega).up (by omega)) ((((f04.trans (inb f5)).trans (inb f6)).trans f7.of_no).trans (fT f10)) f11 hL11.tail.tail.head
  · have o5 := gb o4 f5
    have z5 := f5.size
    refine ⟨fun m x d i' sd' h' => d = c ∧ CurD a (n + 104 + 4 * (9 - m)) h' c i' ∧ m ≤ 9 ∧ (∃ zs, OwX h' F x zs ∧ zs.length + m = 9) ∧ Fr (fun k => k = b ∨ h.size ≤ k) h h' ∧ h4.size ≤ h'.size, ⟨9 - xss.length, rfl, D5.up (by omega), by omega, ⟨xss, o5, by omega⟩, f04.trans (inb f5), by omega⟩, ?_⟩
    rintro m x d i16 sd16 h16 ⟨rfl, D16, m9, ⟨zs, o16, e16⟩, f16, z16⟩ hL16
    have xn := OwR.len o16
    refine k_pick hL16.tail.tail.head hb D16 (by omega) 2 _ fun y i17 sd17 h17 y0 y1 V17 D17 f17 => ⟨d, i17, sd17, y, rfl, vcur hL16 2 rfl f17 V17, fun e => ?_, fun e h22 f22 hL22 => ?_⟩
    · have y1 := y1 (by omega)
      have z17 := f17.size
      rw [w64_eq (8 + y) (by omega) (by omega)] at e
      simp only [decide_eq_true_eq] at e
      have hL17 : Vars h17 [(b3, [x.v]), (b2, [nilSl.v]), (b, [d.v, VI i17, .int .u64 sd17])] := vcur hL16 2 rfl f17 V17
      refine eop_lit rIs (fun k => h17.size ≤ k) (fun _ h => h) 1 (by omega) [VI 0] rfl rfl fun w h18 n18 c18 o18 f18 m18 _ => ⟨w, rfl, hL17.of_no f18, ?_⟩
      have z18 := f18.size
      have o17i : OwX h17 (fun k => F k ∧ k < h17.size) x zs := (gb o16 f17).mono fun k hk hk2 => ⟨hk2, hk⟩
      refine eop_putF (m := h17.size) (xss := zs) (ys := [0]) (OwR.no o17i f18) o18 (fun k hk => F2 k (by omega)) z18 (hL17.of_no f18) (fun q hq => hoff _ _ _ q hq) (by omega) _ fun u h20 o20 f20 V20 h21 f21 hL21 => ?_
      have z20 := f20.size
      have z21 := f21.size
      have o21 : OwX h21 F u (zs ++ [[0]]) := OwR.fr o20 f21 fun k hk hk2 hk3 => by simp [In] at hk3; subst hk3; exact F3 hk2
      refine ⟨m - 1, by omega, rfl, ?_, by omega, ⟨_, o21, by simp; omega⟩, ?_, by omega⟩
      · exact (((D17.no f18).fr f20 fun k hk hk2 => by have := F1 _ hk2; omega).fr f21 fun k hk hk2 => by simp [In] at hk2; omega).up (by omega)
      · exact (((f16.trans (inb f17)).trans f18.of_no).trans (fT f20)).trans (f21.mono fun k _ hk => .inr (by simp [In] at hk; omega))
    · exact out x zs i17 sd17 h17 h22 (gb o16 f17) (D17.up (by omega)) (f16.trans (inb f17)) f22 hL22.tail.tail.head
  · have g24 : Fr (fun k => k = b ∨ h.size ≤ k) h5 h24 := f24.mono fun k _ hk => .inr (by simp [In] at hk; omega)
    exact HK nilSl [] i5 sd5 h24 ⟨[], rfl, RdV.nil _ _ _, fun i h1 => by simp at h1⟩ hL24.tail.tail.head ((D5.fr f24 fun k hk hk2 => by simp [In] at hk2; omega).up (by omega)) (fin _ ((f04.trans (inb f5)).trans g24))
  · exact out t xss i5 sd5 h5 h25 (gb o4 f5) (D5.up (by omega)) (f04.trans (inb f5)) f25 hL25.tail.tail.head

theorem w64_add (a b : Int) : w64 (w64 a + b) = w64 (a + b) := by
  simp only [w64, IntKind.wrap, IntKind.bits, IntKind.signed]
  simp
  try omega

theorem k_big (s t : Sl) (h : Heap) (K : Value → Heap → Prop) (HK : ∀ b, K (VB b) h) : callM Try.prog 32 #[s.v, t.v] h K :=
  v32 s t h K ⟨fun _ => HK true, fun _ => HK _⟩

theorem k_wSame {S S' : Nat → Prop} {h : Heap} {a b : Sl} {xs ys : List Int} (H : RdI S h a xs) (H' : RdI S' h b ys) (K : Value → Heap → Prop) (HK : K (VB (decide (xs = ys))) h) : callM Try.prog 166 #[a.v, b.v] h K := by
  refine v166 a b h K ⟨fun e => ?_, fun e => ?_⟩
  · have e1 := not_t e
    rw [H.len, H'.len] at e1
    have : ¬ xs = ys := fun e2 => by subst e2; simp at e1
    rw [decide_eq_false this] at HK
    exact HK
  · have e1 := not_f e
    rw [H.len, H'.len] at e1
    have hl : xs.length = ys.length := by simp at e1; omega
    refine ⟨fun n i h' => h' = h ∧ 0 ≤ i ∧ i + n = (xs.length : Int) ∧ decide (xs = ys) = decide (xs.drop i.toNat = ys.drop i.toNat), ⟨xs.length, rfl, by omega, by omega, by simp⟩, ?_⟩
    rintro n i hh ⟨rfl, h0, h1, h2⟩ hL
    refine ⟨fun e => ?_, fun e => ?_⟩
    · have hi := H.lt e
      have hi' : i < (ys.length : Int) := by omega
      refine ⟨H.inb h0 hi, _, H.get h0 hi, H'.inb h0 hi', _, H'.get h0 hi', fun e => ?_, fun e => ?_⟩
      · rw [drop_cons xs h0 hi, drop_cons ys h0 hi'] at h2
        have e3 := not_t e
        simp only [decide_eq_false_iff_not] at e3
        rw [h2, decide_eq_false (fun e4 => e3 (List.cons.inj e4).1)] at HK
        exact HK
      · rw [drop_cons xs h0 hi, drop_cons ys h0 hi'] at h2
        have e3 := not_f e
        simp only [decide_eq_true_eq] at e3
        rw [H.succ h0 hi]
        refine ⟨n - 1, by omega, rfl, by omega, by omega, h2.trans ?_⟩
        rw [e3]
        simp
    · have hi := H.ge e
      rw [List.drop_of_length_le (by omega), List.drop_of_length_le (by omega)] at h2
      rw [h2] at HK
      exact HK

theorem k_wRows {S S' : Nat → Prop} {h : Heap} {a b : Sl} {xs ys : List (List Int)} (H : RdR S h a xs) (H' : RdR S' h b ys) (he : xs = ys) (K : Value → Heap → Prop) (HK : K (VB true) h) : callM Try.prog 119 #[a.v, b.v] h K := by
  subst he
  refine v119 a b h K ⟨fun e => ?_, fun e => ?_⟩
  · have e1 := not_t e
    rw [H.len, H'.len] at e1
    simp at e1
  · refine ⟨fun n i h' => h = h' ∧ 0 ≤ i ∧ i + n = (xs.length : Int), ⟨xs.length, rfl, by omega, by omega⟩, ?_⟩
    rintro n i hh ⟨rfl, h0, h1⟩ hL
    refine ⟨fun e => ?_, fun e => HK⟩
    have hi := H.lt e
    obtain ⟨si, c1, r1⟩ := H.get h0 hi
    obtain ⟨sj, c2, r2⟩ := H'.get h0 hi
    refine ⟨H.inb h0 hi, si, c1, H'.inb h0 hi, sj, c2, k_wSame r1 r2 _ ⟨_, rfl, .nil, fun e => by simp at e, fun _ => ?_⟩⟩
    rw [H.succ h0 hi]
    exact ⟨n - 1, by omega, rfl, by omega, by omega⟩

theorem k_wGraph {S S' : Nat → Prop} {h : Heap} {a b : Sl} {xs ys : List (List Int)} (H : RdR S h a xs) (H' : RdR S' h b ys) (he : xs = ys) : Ret Try.prog 58 #[.agg #[a.v], .agg #[b.v]] h (VB true) := by
  intro K HK
  refine v58 a b h K fun b1 b2 h2 hb1 hb2 f2 hL2 => ?_
  have f2 := f2.in_nil
  exact k_wRows (H.no f2) (H'.no f2) he _ ⟨_, rfl, hL2, HK h2 f2⟩

theorem k_entries {S : Nat → Prop} {h : Heap} {g : Sl} {xss : List (List Int)} (G : RdR S h g xss) (hn : xss.length + totR xss ≤ 1000000000) (p : Int) : Ret Try.prog 123 #[.agg #[g.v], VI p] h (VI (xss.flatten.count p : Nat)) := by
  intro K HK
  refine v123 g p h K fun b1 h1 hb1 f1 hL1 => ?_
  have f1 := f1.in_nil
  refine k_Concat (G.no f1) hn _ fun t h2 o2 f2 => ⟨t, rfl, hL1.of_no f2, ?_⟩
  have R := Ow.rdI o2
  have hfl := totR_flat xss
  refine ⟨fun n m i h' => h2 = h' ∧ 0 ≤ i ∧ i + n = (xss.flatten.length : Int) ∧ m = (((xss.flatten.take i.toNat).count p : Nat) : Int), ⟨xss.flatten.length, rfl, by omega, by omega, by simp⟩, ?_⟩
  rintro n m i _ ⟨rfl, i0, i1, e1⟩ hL
  refine ⟨fun e => ?_, fun e => ?_⟩
  · have hi := R.lt e
    have hc : (xss.flatten.take i.toNat).count p ≤ xss.flatten.length := Nat.le_trans List.count_le_length (by rw [List.length_take]; exact Nat.min_le_right _ _)
    have es : (xss.flatten.take (i + 1).toNat).count p = (xss.flatten.take i.toNat).count p + (if (xss.flatten[i.toNat]'(by omega)) = p then 1 else 0) := by
      rw [take_snoc _ i0 hi, List.count_append, List.count_singleton]
      simp only [beq_iff_eq]
    refine ⟨R.inb i0 hi, _, R.get i0 hi, fun c => ?_, fun c => ?_⟩
    · simp only [decide_eq_true_eq] at c
      rw [R.succ i0 hi, w64_eq (m + 1) (by omega) (by omega)]
      exact ⟨n - 1, by omega, rfl, by omega, by omega, by rw [es, if_pos c]; omega⟩
    · simp only [decide_eq_false_iff_not] at c
      rw [R.succ i0 hi]
      exact ⟨n - 1, by omega, rfl, by omega, by omega, by rw [es, if_neg c]; omega⟩
  · have hi := R.ge e
    rw [List.take_of_length_le (by omega)] at e1
    rw [e1]
    exact HK h2 (f1.no_trans f2)

theorem k_CountExits {S : Nat → Prop} {h : Heap} {g : Sl} {xss : List (List Int)} (G : RdR S h g xss) (K : Value → Heap → Prop) (HK : ∀ h', Fr No h h' → K (.tuple #[VI (if graphB xss then (totR xss : Int) else 0), VB (graphB xss)]) h') : callM Try.prog 62 #[.agg #[g.v]] h K := by
  refine v62 g h K fun b1 h1 hb1 f1 hL1 => ?_
  have f1 := f1.in_nil
  refine k_isGraph (G.no f1) _ fun h2 f2 => ⟨_, rfl, hL1.of_no f2, fun e => ?_, fun e => ?_⟩
  · have := HK h2 (f1.no_trans f2)
    rw [not_t e] at this
    exact this
  · have e := not_f e
    have hg := graph_len e
    have ht := graph_tot e
    refine k_Concat ((G.no f1).no f2) (by omega) _ fun t h3 o3 f3 => ⟨t, rfl, (hL1.of_no f2).of_no f3, ?_⟩
    have := HK h3 ((f1.no_trans f2).no_trans f3)
    rw [e, if_pos rfl] at this
    have tn := (Ow.rdI o3).len
    rw [totR_flat] at tn
    rw [tn]
    exact this

theorem k_EntriesOf {S : Nat → Prop} {h : Heap} {g : Sl} {xss : List (List Int)} (G : RdR S h g xss) (p : Int) (K : Value → Heap → Prop) (HK : ∀ h', Fr No h h' → K (.tuple #[VI (if graphB xss && inR 0 ((xss.length : Int) - 1) p then (xss.flatten.count p : Nat) else 0), VB (graphB xss && inR 0 ((xss.length : Int) - 1) p)]) h') : callM Try.prog 63 #[.agg #[g.v], VI p] h K := by
  refine v63 g p h K fun b1 h1 hb1 f1 hL1 => ?_
  have f1 := f1.in_nil
  refine eop_lit rIs (fun k => h1.size ≤ k) (fun _ h => h) 1 (by omega) [VI p] rfl rfl fun t h2 n2 c2 o2 f2 m2 _ => ⟨t, rfl, hL1.of_no f2, ?_⟩
  have f02 := f1.no_trans f2
  have r2 : RdI (fun k => h1.size ≤ k) h2 t [p] := o2.rdF
  have ea : ([p] : List Int).all (inR 0 ((xss.length : Int) - 1)) = inR 0 ((xss.length : Int) - 1) p := by simp
  refine k_has (G.no f02) r2 _ fun h3 f3 => ⟨_, rfl, (hL1.of_no f2).of_no f3, fun e => ?_, fun e => ?_⟩
  · have := HK h3 (f02.no_trans f3)
    rw [ea] at e
    rw [not_t e] at this
    exact this
  · rw [ea] at e
    have e := not_f e
    have hg := (Bool.and_eq_true _ _ ▸ e : graphB xss = true ∧ _).1
    have hgl := graph_len hg
    have ht := graph_tot hg
    refine k_entries ((G.no f02).no f3) (by omega) p _ fun h4 f4 => ⟨_, rfl, ((hL1.of_no f2).of_no f3).of_no f4, ?_⟩
    have := HK h4 ((f02.no_trans f3).no_trans f4)
    rw [e, if_pos rfl] at this
    exact this

theorem k_reach {S : Nat → Prop} {h : Heap} {g : Sl} {xss : List (List Int)} (G : RdR S h g xss) (hg : graphB xss = true) {p : Int} (h0 : 0 ≤ p) (h1 : p < (xss.length : Int)) (K : Value → Heap → Prop) (HK : ∀ (t : Sl) (h' : Heap), t.n = (farP xss p).countP (fun x => decide (0 ≤ x)) → Fr No h h' → K t.v h') : callM Try.prog 167 #[.agg #[g.v], VI p] h K := by
  refine v167 g p h K fun b1 h1' hb1 f1 hL1 => ?_
  have f1 := f1.in_nil
  have hgl := graph_len hg
  have l1 : b1 < h1'.size := hL1.head.lt
  refine eop_lit rIs (fun k => h1'.size ≤ k) (fun _ h => h) 0 (by omega) [] rfl rfl fun t h2 n2 c2 o2 f2 m2 _ => ⟨t, rfl, hL1.of_no f2, ?_⟩
  have z2 := f2.size
  refine k_lengths ((G.no f1).no f2) hg h0 h1 _ fun w h3 o3 fl f3 => ⟨w, rfl, (hL1.of_no f2).of_no f3, ?_⟩
  have z3 := f3.size
  have R3 : RdI (Iv h2.size h3.size) h3 w _ := Ow.rdI o3
  have o2' : OwI h3 (fun k => (Iv h1'.size h2.size k ∨ h3.size ≤ k)) t [] := (Ow.no o2 f3).mono fun k _ hk => by
    have := (o2.foot (by assumption)).2
    exact .inl ⟨hk, this⟩
  refine ⟨fun n x i h' => 0 ≤ i ∧ i + n = ((farP xss p).length : Int) ∧ (∃ ys, OwI h' (fun k => Iv h1'.size h2.size k ∨ h3.size ≤ k) x ys ∧ ys.length = ((farP xss p).take i.toNat).countP (fun x => decide (0 ≤ x))) ∧ RdI (Iv h2.size h3.size) h' w (farP xss p) ∧ Fr (fun k => Iv h1'.size h2.size k ∨ h3.size ≤ k) h3 h' ∧ h3.size ≤ h'.size, ⟨(farP xss p).length, by omega, by omega, ⟨[], o2', by simp⟩, R3, Fr.refl _ _, Nat.le_refl _⟩, ?_⟩
  rintro n x i h4 ⟨i0, i1, ⟨ys, o4, e4⟩, R4, f4, z4⟩ hL4
  have wn := R4.len
  refine ⟨fun e => ?_, fun e => ?_⟩
  · have hi := R4.lt e
    have hcl : ((farP xss p).take i.toNat).countP (fun x => decide (0 ≤ x)) ≤ (farP xss p).length := Nat.le_trans List.countP_le_length (by rw [List.length_take]; exact Nat.min_le_right _ _)
    have es : ((farP xss p).take (i + 1).toNat).countP (fun x => decide (0 ≤ x)) = ((farP xss p).take i.toNat).countP (fun x => decide (0 ≤ x)) + (if 0 ≤ ((farP xss p)[i.toNat]'(by omega)) then 1 else 0) := by
      rw [take_snoc _ i0 hi, List.countP_append, List.countP_singleton]
      simp only [decide_eq_true_eq]
    refine ⟨R4.inb i0 hi, _, R4.get i0 hi, fun c => ?_, fun c => ?_⟩
    · simp only [decide_eq_true_eq] at c
      refine eop_lit rIs (fun k => h4.size ≤ k) (fun _ h => h) 1 (by omega) [VI i] rfl rfl fun u h5 n5 c5 o5 f5 m5 _ => ⟨u, rfl, hL4.of_no f5, ?_⟩
      have z5 := f5.size
      have o4n := Ow.no o4 f5
      have on := o4n.rd.len
      have un := o5.rd.len
      simp only [List.length_map, Nat.mul_one, List.length_cons, List.length_nil] at on un
      refine eop_append rIs o4n (fun k hk => .inr (by omega)) o5.rd (plainVI [i]) (by omega) fun y h6 n6 o6 f6 d6 => ?_
      have g6 : Fr (fun k => Iv h1'.size h2.size k ∨ h3.size ≤ k) h5 h6 := f6.mono fun k _ hk => (o4n.foot hk).1
      have V6 := (hL4.of_no f5).fr g6 fun q hq hk => by
        simp only [List.mem_cons, List.not_mem_nil, or_false] at hq
        subst hq
        simp only at hk
        rcases hk with e | e
        · have := e.1; omega
        · omega
      rw [R4.succ i0 hi]
      refine ⟨y, rfl, V6, n - 1, by omega, by omega, by omega, ⟨ys ++ [i], by rw [OwI, List.map_append]; exact o6, by rw [es, if_pos c]; simp; omega⟩, (R4.no f5).fr g6 fun k hk hk2 => ?_, (f4.trans f5.of_no).trans g6, by have := f6.size; omega⟩
      have h1 := hk.1; have h2 := hk.2
      rcases hk2 with e | e
      · have := e.2; omega
      · omega
    · simp only [decide_eq_false_iff_not] at c
      rw [R4.succ i0 hi]
      exact ⟨n - 1, by omega, by omega, by omega, ⟨ys, o4, by rw [es, if_neg c]; omega⟩, R4, f4, z4⟩
  · have hi := R4.ge e
    rw [List.take_of_length_le (by omega)] at e4
    have xn := o4.rd.len
    simp only [List.length_map, Nat.mul_one] at xn
    refine HK x h4 (by omega) (((f1.no_trans f2).no_trans f3).fresh f4 fun k hk => ?_)
    rcases hk with e | e
    · have := e.1; have := f1.size; omega
    · have := f1.size; omega

def strongB (g : List (List Int)) : Bool := (List.range g.length).all fun p => decide ((farP g p).countP (fun x => decide (0 ≤ x)) = g.length)
def balB (g : List (List Int)) : Bool := (List.range g.length).all fun p => decide ((g.getD p []).length = g.flatten.count (p : Int))

theorem k_isStrong {S : Nat → Prop} {h : Heap} {g : Sl} {xss : List (List Int)} (G : RdR S h g xss) (hg : graphB xss = true) : Ret Try.prog 125 #[.agg #[g.v]] h (VB (strongB xss)) := by
  intro K HK
  have hgl := graph_len hg
  refine v125 g h K fun b1 h1 hb1 f1 hL1 => ?_
  have f1 := f1.in_nil
  refine ⟨fun n i h' => 0 ≤ i ∧ i + n = (xss.length : Int) ∧ (∀ p : Nat, (p : Int) < i → (farP xss p).countP (fun x => decide (0 ≤ x)) = xss.length) ∧ Fr No h h', ⟨xss.length, by omega, by omega, fun p hp => by omega, f1⟩, ?_⟩
  rintro n i h2 ⟨i0, i1, hp, f2⟩ hL2
  have G2 := G.no f2
  have gn := G2.len
  refine ⟨fun e => ?_, fun e => ?_⟩
  · have hi := G2.lt e
    refine k_reach G2 hg i0 hi _ fun t h3 e3 f3 => ⟨t, rfl, hL2.of_no f3, fun c => ?_, fun c => ?_⟩
    · have c := not_t c
      simp only [decide_eq_false_iff_not] at c
      have : strongB xss = false := by
        refine Bool.eq_false_iff.2 fun hs => ?_
        have := List.all_eq_true.1 hs i.toNat (by simpa using by omega)
        simp only [decide_eq_true_eq] at this
        rw [show ((i.toNat : Nat) : Int) = i by omega] at this
        omega
      rw [this] at HK
      exact HK h3 (f2.no_trans f3)
    · have c := not_f c
      simp only [decide_eq_true_eq] at c
      rw [G2.succ i0 hi]
      refine ⟨n - 1, by omega, by omega, by omega, fun p hp' => ?_, f2.no_trans f3⟩
      by_cases hpi : (p : Int) < i
      · exact hp p hpi
      · have : (p : Int) = i := by omega
        rw [this]; omega
  · have hi := G2.ge e
    have : strongB xss = true := List.all_eq_true.2 fun p hpr => by
      simp only [decide_eq_true_eq]
      exact hp p (by have := List.mem_range.1 hpr; omega)
    rw [this] at HK
    exact HK h2 f2

theorem k_isBalanced {S : Nat → Prop} {h : Heap} {g : Sl} {xss : List (List Int)} (G : RdR S h g xss) (hg : graphB xss = true) : Ret Try.prog 126 #[.agg #[g.v]] h (VB (balB xss)) := by
  intro K HK
  have hgl := graph_len hg
  have hgt := graph_tot hg
  refine v126 g h K fun b1 h1 hb1 f1 hL1 => ?_
  have f1 := f1.in_nil
  refine ⟨fun n i h' => 0 ≤ i ∧ i + n = (xss.length : Int) ∧ (∀ p : Nat, (p : Int) < i → (xss.getD p []).length = xss.flatten.count (p : Int)) ∧ Fr No h h', ⟨xss.length, by omega, by omega, fun p hp => by omega, f1⟩, ?_⟩
  rintro n i h2 ⟨i0, i1, hp, f2⟩ hL2
  have G2 := G.no f2
  have gn := G2.len
  refine ⟨fun e => ?_, fun e => ?_⟩
  · have hi := G2.lt e
    obtain ⟨si, c1, r1⟩ := G2.get i0 hi
    have sn := r1.len
    have eg : xss.getD i.toNat [] = xss[i.toNat]'(by omega) := getD_get (by omega)
    refine ⟨G2.inb i0 hi, si, c1, k_entries G2 (by omega) i _ fun h3 f3 => ⟨_, rfl, hL2.of_no f3, fun c => ?_, fun c => ?_⟩⟩
    · have c := not_t c
      simp only [decide_eq_false_iff_not] at c
      have : balB xss = false := by
        refine Bool.eq_false_iff.2 fun hs => ?_
        have := List.all_eq_true.1 hs i.toNat (by simpa using by omega)
        simp only [decide_eq_true_eq] at this
        rw [show ((i.toNat : Nat) : Int) = i by omega, eg] at this
        omega
      rw [this] at HK
      exact HK h3 (f2.no_trans f3)
    · have c := not_f c
      simp only [decide_eq_true_eq] at c
      rw [G2.succ i0 hi]
      refine ⟨n - 1, by omega, by omega, by omega, fun p hp' => ?_, f2.no_trans f3⟩
      by_cases hpi : (p : Int) < i
      · exact hp p hpi
      · have : p = i.toNat := by omega
        rw [this, eg, show ((i.toNat : Nat) : Int) = i by omega]; omega
  · have hi := G2.ge e
    have : balB xss = true := List.all_eq_true.2 fun p hpr => by
      simp only [decide_eq_true_eq]
      exact hp p (by have := List.mem_range.1 hpr; omega)
    rw [this] at HK
    exact HK h2 f2

theorem k_IsStrong {S : Nat → Prop} {h : Heap} {g : Sl} {xss : List (List Int)} (G : RdR S h g xss) (K : Value → Heap → Prop) (HK : ∀ h', Fr No h h' → K (.tuple #[VB (graphB xss && strongB xss), VB (graphB xss)]) h') : callM Try.prog 67 #[.agg #[g.v]] h K := by
  refine v67 g h K fun b1 h1 hb1 f1 hL1 => ?_
  have f1 := f1.in_nil
  refine k_isGraph (G.no f1) _ fun h2 f2 => ⟨_, rfl, hL1.of_no f2, fun e => ?_, fun e => ?_⟩
  · have := HK h2 (f1.no_trans f2)
    rw [not_t e] at this
    exact this
  · have e := not_f e
    refine k_isStrong ((G.no f1).no f2) e _ fun h3 f3 => ⟨_, rfl, (hL1.of_no f2).of_no f3, ?_⟩
    have := HK h3 ((f1.no_trans f2).no_trans f3)
    rw [e, Bool.true_and] at this
    exact this

theorem k_IsBalanced {S : Nat → Prop} {h : Heap} {g : Sl} {xss : List (List Int)} (G : RdR S h g xss) (K : Value → Heap → Prop) (HK : ∀ h', Fr No h h' → K (.tuple #[VB (graphB xss && balB xss), VB (graphB xss)]) h') : callM Try.prog 68 #[.agg #[g.v]] h K := by
  refine v68 g h K fun b1 h1 hb1 f1 hL1 => ?_
  have f1 := f1.in_nil
  refine k_isGraph (G.no f1) _ fun h2 f2 => ⟨_, rfl, hL1.of_no f2, fun e => ?_, fun e => ?_⟩
  · have := HK h2 (f1.no_trans f2)
    rw [not_t e] at this
    exact this
  · have e := not_f e
    refine k_isBalanced ((G.no f1).no f2) e _ fun h3 f3 => ⟨_, rfl, (hL1.of_no f2).of_no f3, ?_⟩
    have := HK h3 ((f1.no_trans f2).no_trans f3)
    rw [e, Bool.true_and] at this
    exact this

theorem k_DrawWayLength {S : Nat → Prop} {h : Heap} {code : Sl} {vs : List Value} (C : RdV S h 1 code vs) (B : ∀ v, v ∈ vs → ∃ m : Int, v = Value.int .u8 m ∧ 0 ≤ m ∧ m ≤ 255) (K : Value → Heap → Prop) (HK : ∀ (t : Sl) (gs : List (List Int)) (p q : Int) h', RdR (fun k => h.size ≤ k) h' t gs → Fr No h h' → K (.tuple #[.agg #[t.v], VI p, VI q]) h') : callM Try.prog 120 #[code.v] h K := by
  refine v120 code h K fun b1 b2 h2 hb1 hb2 f2 hL2 => ?_
  have f2 := f2.in_nil
  have z2 := f2.size
  have l2 : b2 < h2.size := hL2.head.lt
  have l1 : b1 < h2.size := hL2.tail.head.lt
  have D2 : CurD h.size 0 h2 code 0 := ⟨⟨vs, ((RdV.lt C).mono fun k hk => hk.2).no f2, B⟩, by omega, by omega⟩
  refine k_drgraph hL2.head hb2 D2 (by omega) _ fun t gs i3 sd3 h3 G3 V3 D3 f3 => ⟨code, i3, sd3, t, rfl, vcur hL2 0 rfl f3 V3, fun b3 h5 hb3 f5 hL5 => ?_⟩
  have f5 := f5.in_nil
  have z3 := f3.size
  have z5 := f5.size
  have G5 : RdR (Iv h2.size h3.size) h5 t gs := (G3.lowS.mono fun k hk => hk).no f5
  refine k_drplace hL5.tail.head hb2 (D3.no f5) (by omega) t _ fun p i6 sd6 h6 V6 D6 f6 => ⟨code, i6, sd6, p, rfl, vcur hL5 1 rfl f6 V6, ?_⟩
  have hL6 := vcur hL5 1 rfl f6 V6
  refine k_drplace hL6.tail.head hb2 D6 (by omega) t _ fun q i7 sd7 h7 V7 D7 f7 => ⟨code, i7, sd7, q, rfl, vcur hL6 1 rfl f7 V7, fun h8 f8 hL8 => ?_⟩
  have g8 : Fr (fun k => k = b2 ∨ k = b1) h5 h8 := ((f6.mono fun k _ hk => .inl (by simpa [In] using hk)).trans (f7.mono fun k _ hk => .inl (by simpa [In] using hk))).trans (f8.mono fun k _ hk => .inr (by simpa [In] using hk))
  refine HK t gs p q h8 ((G5.fr g8 fun k hk hk2 => by have := hk.1; rcases hk2 with e | e <;> omega).mono fun k hk => by have := hk.1; omega) ?_
  exact (((f2.of_no.trans (f3.mono fun k _ hk => .inl (by simpa [In] using hk) : Fr (fun k => k = b2 ∨ k = b1) h2 h3)).trans f5.of_no).trans g8).mono fun k hk hk2 => by rcases hk2 with e | e <;> omega

theorem k_DrawAddExit {S : Nat → Prop} {h : Heap} {code : Sl} {vs : List Value} (C : RdV S h 1 code vs) (B : ∀ v, v ∈ vs → ∃ m : Int, v = Value.int .u8 m ∧ 0 ≤ m ∧ m ≤ 255) (K : Value → Heap → Prop) (HK : ∀ (t : Sl) (gs : List (List Int)) (p q : Int) h', RdR (fun k => h.size ≤ k) h' t gs → Fr No h h' → K (.tuple #[.agg #[t.v], VI p, VI q]) h') : callM Try.prog 59 #[code.v] h K := by
  refine v59 code h K fun b1 h1 hb1 f1 hL1 => ?_
  have f1 := f1.in_nil
  have z1 := f1.size
  have l1 : b1 < h1.size := hL1.head.lt
  refine k_DrawWayLength (C.no f1) B _ fun t gs p q h2 G2 f2 => ⟨t, p, q, rfl, hL1.of_no f2, fun h3 f3 hL3 => ?_⟩
  refine HK t gs p q h3 ((G2.fr f3 fun k hk hk2 => by simp [In] at hk2; omega).mono fun k hk => by omega) ?_
  exact ((f1.no_trans f2).of_no.trans f3 : Fr (In [b1]) h h3).mono fun k hk hk2 => by simp [In] at hk2; omega

theorem k_DrawCycleGraph {S : Nat → Prop} {h : Heap} {code : Sl} {vs : List Value} (C : RdV S h 1 code vs) (B : ∀ v, v ∈ vs → ∃ m : Int, v = Value.int .u8 m ∧ 0 ≤ m ∧ m ≤ 255) (K : Value → Heap → Prop) (HK : ∀ (n : Int) (q : Bool) h', -1 ≤ n → n ≤ 9 → Fr No h h' → K (.tuple #[VI n, VB q]) h') : callM Try.prog 64 #[code.v] h K := by
  refine v64 code h K fun b1 h1 hb1 f1 hL1 => ?_
  have f1 := f1.in_nil
  have z1 := f1.size
  have D1 : CurD h.size 0 h1 code 0 := ⟨⟨vs, ((RdV.lt C).mono fun k hk => hk.2).no f1, B⟩, by omega, by omega⟩
  refine k_pick hL1.head hb1 D1 (by omega) 11 _ fun y i2 sd2 h2 y0 y1 V2 D2 f2 => ⟨code, i2, sd2, y, rfl, vcur hL1 0 rfl f2 V2, ?_⟩
  have y1 := y1 (by omega)
  have hL2 := vcur hL1 0 rfl f2 V2
  refine k_one hL2.head hb1 D2 (by omega) 2 _ fun q i3 sd3 h3 V3 D3 f3 => ⟨code, i3, sd3, q, rfl, vcur hL2 0 rfl f3 V3, ?_⟩
  rw [w64_eq (y - 1) (by omega) (by omega)]
  exact HK (y - 1) q h3 (by omega) (by omega) (((f1.of_no.trans f2).trans f3 : Fr (In [b1]) h h3).mono fun k hk hk2 => by simp [In] at hk2; omega)

theorem k_DrawTurnExits {S : Nat → Prop} {h : Heap} {code : Sl} {vs : List Value} (C : RdV S h 1 code vs) (B : ∀ v, v ∈ vs → ∃ m : Int, v = Value.int .u8 m ∧ 0 ≤ m ∧ m ≤ 255) (K : Value → Heap → Prop) (HK : ∀ (t : Sl) (gs : List (List Int)) (p q : Int) h', RdR (fun k => h.size ≤ k) h' t gs → Fr No h h' → K (.tuple #[.agg #[t.v], VI p, VI q]) h') : callM Try.prog 55 #[code.v] h K := by
  refine v55 code h K fun b1 b2 h2 hb1 hb2 f2 hL2 => ?_
  have f2 := f2.in_nil
  have z2 := f2.size
  have l2 : b2 < h2.size := hL2.head.lt
  have l1 : b1 < h2.size := hL2.tail.head.lt
  have D2 : CurD h.size 0 h2 code 0 := ⟨⟨vs, ((RdV.lt C).mono fun k hk => hk.2).no f2, B⟩, by omega, by omega⟩
  refine k_drgraph hL2.head hb2 D2 (by omega) _ fun t gs i3 sd3 h3 G3 V3 D3 f3 => ⟨code, i3, sd3, t, rfl, vcur hL2 0 rfl f3 V3, fun b3 h5 hb3 f5 hL5 => ?_⟩
  have f5 := f5.in_nil
  have z3 := f3.size
  have z5 := f5.size
  have G5 : RdR (Iv h2.size h3.size) h5 t gs := (G3.lowS.mono fun k hk => hk).no f5
  have c2 : ∀ {X Y : Heap}, Fr (In [b2]) X Y → Fr (fun k => k = b2 ∨ k = b1) X Y := fun f => f.mono fun k _ hk => .inl (by simpa [In] using hk)
  have out : ∀ (p q : Int) (X Y : Heap), Fr (fun k => k = b2 ∨ k = b1) h5 X → Fr (In [b1]) X Y → K (.tuple #[.agg #[t.v], VI p, VI q]) Y := fun p q X Y f f' => by
    have g8 : Fr (fun k => k = b2 ∨ k = b1) h5 Y := f.trans (f'.mono fun k _ hk => .inr (by simpa [In] using hk))
    refine HK t gs p q Y ((G5.fr g8 fun k hk hk2 => by have := hk.1; rcases hk2 with e | e <;> omega).mono fun k hk => by have := hk.1; omega) ?_
    exact (((f2.of_no.trans (c2 f3)).trans f5.of_no).trans g8).mono fun k hk hk2 => by rcases hk2 with e | e <;> omega
  refine k_one hL5.tail.head hb2 (D3.no f5) (by omega) 10 _ fun e i6 sd6 h6 V6 D6 f6 => ⟨code, i6, sd6, e, rfl, vcur hL5 1 rfl f6 V6, fun _ => ⟨?_, ?_⟩, fun _ => ?_⟩
  · have hL6 := vcur hL5 1 rfl f6 V6
    refine k_drplace hL6.tail.head hb2 D6 (by omega) t _ fun p i7 sd7 h7 V7 D7 f7 => ⟨code, i7, sd7, p, rfl, vcur hL6 1 rfl f7 V7, ?_⟩
    have hL7 := vcur hL6 1 rfl f7 V7
    have z6 := f6.size
    have z7 := f7.size
    refine eop_lit rIs (fun k => h7.size ≤ k) (fun _ h => h) 3 (by omega) [VI (-1), VI 1000, VI 1001] rfl rfl fun w h8 n8 c8 o8 f8 m8 _ => ⟨w, rfl, hL7.of_no f8, ?_⟩
    have r8 : RdI (fun k => h7.size ≤ k) h8 w [-1, 1000, 1001] := o8.rdF
    refine k_among (hL7.of_no f8).tail.head hb2 (D7.no f8) (by omega) r8 (by omega) (by simp) _ fun v i9 sd9 h9 hv V9 D9 f9 => ⟨code, i9, sd9, v, rfl, vcur (hL7.of_no f8) 1 rfl f9 V9, fun h10 f10 hL10 => ?_⟩
    exact out p v h9 h10 ((((c2 f6).trans (c2 f7)).trans f8.of_no).trans (c2 f9)) f10
  · have hL6 := vcur hL5 1 rfl f6 V6
    have z6 := f6.size
    refine eop_lit rIs (fun k => h6.size ≤ k) (fun _ h => h) 3 (by omega) [VI (-1), VI 1000, VI 1001] rfl rfl fun w h8 n8 c8 o8 f8 m8 _ => ⟨w, rfl, hL6.of_no f8, ?_⟩
    have z8 := f8.size
    have r8 : RdI (fun k => h6.size ≤ k) h8 w [-1, 1000, 1001] := o8.rdF
    have hL8 := hL6.of_no f8
    refine k_drplace hL8.tail.head hb2 (D6.no f8) (by omega) t _ fun p i7 sd7 h7 V7 D7 f7 => ⟨code, i7, sd7, p, rfl, vcur hL8 1 rfl f7 V7, ?_⟩
    have hL7 := vcur hL8 1 rfl f7 V7
    refine k_among hL7.tail.head hb2 D7 (by omega) (r8.fr f7 fun k hk hk2 => by simp [In] at hk2; omega) (by omega) (by simp) _ fun v i9 sd9 h9 hv V9 D9 f9 => ⟨code, i9, sd9, v, rfl, vcur hL7 1 rfl f9 V9, fun h10 f10 hL10 => ?_⟩
    exact out p v h9 h10 ((((c2 f6).trans f8.of_no).trans (c2 f7)).trans (c2 f9)) f10
  · have hL6 := vcur hL5 1 rfl f6 V6
    refine k_drplace hL6.tail.head hb2 D6 (by omega) t _ fun p i7 sd7 h7 V7 D7 f7 => ⟨code, i7, sd7, p, rfl, vcur hL6 1 rfl f7 V7, ?_⟩
    have hL7 := vcur hL6 1 rfl f7 V7
    refine k_pick hL7.tail.head hb2 D7 (by omega) 9 _ fun v i9 sd9 h9 v0 v1 V9 D9 f9 => ⟨code, i9, sd9, v, rfl, vcur hL7 1 rfl f9 V9, fun h10 f10 hL10 => ?_⟩
    exact out p v h9 h10 (((c2 f6).trans (c2 f7)).trans (c2 f9)) f10

def cyG (n : Int) (both : Bool) : List (List Int) × Bool := if inR 1 8 n then (cycP n.toNat both, true) else ([], false)

theorem k_spec_CycleGraph {h : Heap} (n : Int) (both : Bool) (K : Value → Heap → Prop) (HK : ∀ t h', OwX h' (Iv h.size h'.size) t (cyG n both).1 → Fr No h h' → K (.tuple #[.agg #[t.v], VB (cyG n both).2]) h') : callM Try.prog 66 #[VI n, VB both] h K := by
  refine v66 n both h K fun b1 h1 hb1 f1 hL1 => ?_
  have f1 := f1.in_nil
  have z1 := f1.size
  have l1 : b1 < h1.size := hL1.head.lt
  refine k_spec_l1In _ _ _ _ _ ⟨_, rfl, hL1, fun e h3 f3 hL3 => ?_, fun e => ?_⟩
  · have e2 : cyG n both = ([], false) := by unfold cyG; rw [if_neg (by intro h; unfold inR at h; rw [h] at e; simp at e)]
    rw [e2] at HK
    exact HK nilSl h3 (OwR.nil _ _ _ _) ((f1.of_no.trans f3 : Fr (In [b1]) h h3).mono fun k hk hk2 => by simp [In] at hk2; omega)
  · have e := not_f e
    have hi : inR 1 8 n = true := e
    have hn := inR_iff.1 hi
    have e2 : cyG n both = (cycP n.toNat both, true) := by unfold cyG; rw [if_pos hi]
    rw [e2] at HK
    have en : n = ((n.toNat : Nat) : Int) := by omega
    rw [en]
    refine k_grCycle n.toNat (by omega) both _ fun t h4 o4 f4 => ⟨t, rfl, hL1.of_no f4, fun h5 f5 hL5 => ?_⟩
    have z5 := f5.size
    exact HK t h5 (OwR.ivs (OwR.fr o4 f5 fun k hk hk2 hk3 => by simp [In] at hk3; have := hk2.1; omega) z1 z5) (((f1.no_trans f4).of_no.trans f5 : Fr (In [b1]) h h5).mono fun k hk hk2 => by simp [In] at hk2; omega)

theorem k_CycleGraph {h : Heap} (n : Int) (both : Bool) (K : Value → Heap → Prop) (HK : ∀ t h', OwX h' (Iv h.size h'.size) t (cyG n both).1 → Fr No h h' → K (.tuple #[.agg #[t.v], VB (cyG n both).2]) h') : callM Try.prog 65 #[VI n, VB both] h K := by
  refine v65 n both h K fun b1 h1 hb1 f1 hL1 => ?_
  have f1 := f1.in_nil
  have z1 := f1.size
  have l1 : b1 < h1.size := hL1.head.lt
  refine k_impl_in _ _ _ _ _ ⟨_, rfl, hL1, fun e h3 f3 hL3 => ?_, fun e b2 h3 hb2 f3 hL3 => ?_⟩
  · have e2 : cyG n both = ([], false) := by unfold cyG; rw [if_neg (by intro h; unfold inR at h; rw [h] at e; simp at e)]
    rw [e2] at HK
    exact HK nilSl h3 (OwR.nil _ _ _ _) ((f1.of_no.trans f3 : Fr (In [b1]) h h3).mono fun k hk hk2 => by simp [In] at hk2; omega)
  · have e := not_f e
    have hi : inR 1 8 n = true := e
    have hn := inR_iff.1 hi
    have e2 : cyG n both = (cycP n.toNat both, true) := by unfold cyG; rw [if_pos hi]
    rw [e2] at HK
    have en : n = ((n.toNat : Nat) : Int) := by omega
    have f3 := f1.no_trans f3.in_nil
    have z3 := hL3.head.lt
    have z13 := hL3.tail.head.lt
    have zz := f3.size
    refine ⟨fun m p x h' => 0 ≤ p ∧ p + m = n ∧ OwX h' (fun k => h3.size ≤ k) x (cycL' n both p.toNat) ∧ Fr (fun k => h.size ≤ k) h h' ∧ h3.size ≤ h'.size, ⟨n.toNat, by omega, by omega, OwR.nil _ _ _ _, f3.of_no, Nat.le_refl _⟩, ?_⟩
    rintro m p x h4 ⟨p0, p1, o4, f4, z4⟩ hL4
    refine ⟨fun e => ?_, fun e => ?_⟩
    · simp only [decide_eq_true_eq] at e
      refine ⟨by omega, ?_⟩
      rw [w64_eq (p + 1) (by omega) (by omega), w64_eq (p + n) (by omega) (by omega), w64_eq (p + n - 1) (by omega) (by omega)]
      have o4i := OwR.toIv o4
      refine eop_lit rIs (fun k => h4.size ≤ k) (fun _ h => h) 1 (by omega) [VI ((p + 1).tmod n)] rfl rfl fun t h5 n5 c5 o5 f5 m5 _ => ⟨t, rfl, hL4.of_no f5, fun y h' => OwI h' (fun k => h4.size ≤ k) y (cycR n both p) ∧ OwX h' (Iv h3.size h4.size) x (cycL' n both p.toNat) ∧ Fr (fun k => h.size ≤ k) h h' ∧ h4.size ≤ h'.size, ⟨fun eb => ⟨by omega, ?_⟩, fun eb => ⟨?_, OwR.no o4i f5, f4.trans f5.of_no, f5.size⟩⟩, ?_⟩
      · refine eop_put (lo := h4.size) (xs := [(p + 1).tmod n]) o5 f5.size (hL4.of_no f5) (fun q hq => by
          simp only [List.mem_cons, List.not_mem_nil, or_false] at hq
          rcases hq with rfl | rfl <;> simp only <;> omega) (by simp) _ fun u h6 o6 f6 V6 => ⟨?_, OwR.fr (OwR.no o4i f5) f6 fun k hk hk2 hk3 => by have := hk2.2; omega, (f4.trans f5.of_no).trans (f6.mono fun k _ hk => by have := f4.size; omega), by have := f5.size; have := f6.size; omega⟩
        unfold cycR
        rw [if_pos eb]; exact o6
      · unfold cycR
        rw [if_neg (by rw [eb]; simp)]
        exact o5
      rintro y h8 ⟨o8, q8, f8, z8⟩ hL8
      refine eop_putR (lo := h3.size) (m := h4.size) q8 o8 z4 z8 hL8 (fun q hq => by
        simp only [List.mem_cons, List.not_mem_nil, or_false] at hq
        rcases hq with rfl | rfl <;> simp only <;> omega) (by rw [cycL_length]; omega) _ fun u h10 o10 f10 V10 h11 f11 hL11 => ?_
      refine ⟨m - 1, by omega, by omega, by omega, ?_, (f8.trans (f10.mono fun k _ hk => by omega)).trans (f11.mono fun k _ hk => by simp [In] at hk; omega), by have := f10.size; have := f11.size; omega⟩
      have ep : (p + 1).toNat = p.toNat + 1 := by omega
      rw [ep, cycL', show ((p.toNat : Nat) : Int) = p by omega]
      exact OwR.fr o10 f11 fun k hk hk2 hk3 => by simp [In] at hk3; omega
    · simp only [decide_eq_false_iff_not] at e
      intro h12 f12 hL12
      have ep : p.toNat = n.toNat := by omega
      rw [ep] at o4
      have g12 : Fr (fun k => h.size ≤ k) h4 h12 := f12.mono fun k _ hk => by simp [In] at hk; omega
      have o12 : OwX h12 (fun k => h3.size ≤ k) x (cycP n.toNat both) := by
        unfold cycP
        rw [show ((n.toNat : Nat) : Int) = n by omega]
        exact OwR.fr o4 f12 fun k hk hk2 hk3 => by simp [In] at hk3; omega
      exact HK x h12 (OwR.ivs (OwR.toIv o12) (by omega) (Nat.le_refl _)) ((f4.trans g12).mono fun k hk hk2 => absurd hk2 (by omega))

theorem cy_all : ∀ n : Fin 9, ∀ b : Bool, 1 ≤ n.val → (graphB (cycP n.val b) && strongB (cycP n.val b) && balB (cycP n.val b) && decide ((totR (cycP n.val b) : Int) = if b then 2 * (n.val : Int) else n.val)) = true := of_decide_eq_true (by kernel_rfl)
theorem tot_snoc : ∀ {xss : List (List Int)} {i : Nat} {b : Int}, i < xss.length → totR (xss.set i (xss.getD i [] ++ [b])) = totR xss + 1
  | x :: xs, 0, b, _ => by simp [totR]; omega
  | x :: xs, i + 1, b, h => by
    have := tot_snoc (xss := xs) (i := i) (b := b) (by simpa using h)
    rw [List.set_cons_succ, List.getD_cons_succ]
    simp only [totR, List.map_cons, List.sum_cons] at this ⊢
    omega
theorem cnt_snoc : ∀ {xss : List (List Int)} {i : Nat} {b : Int}, i < xss.length → (xss.set i (xss.getD i [] ++ [b])).flatten.count b = xss.flatten.count b + 1
  | x :: xs, 0, b, _ => by simp [List.count_append]; omega
  | x :: xs, i + 1, b, h => by
    have := cnt_snoc (xss := xs) (i := i) (b := b) (by simpa using h)
    rw [List.set_cons_succ, List.getD_cons_succ, List.flatten_cons, List.flatten_cons, List.count_append, List.count_append, this]
    omega
theorem rot_back (l : List Int) (k : Nat) (hl : l.length ≠ 0) : rotL (rotL l k) (l.length - k % l.length) = l := by
  have hm := Nat.mod_lt k (show l.length > 0 by omega)
  unfold rotL
  have hlen : (l.drop (k % l.length) ++ l.take (k % l.length)).length = l.length := by simp; omega
  rw [hlen]
  by_cases h0 : k % l.length = 0
  · rw [h0, Nat.sub_zero, Nat.mod_self]; simp
  · rw [Nat.mod_eq_of_lt (show l.length - k % l.length < l.length by omega)]
    have e1 : (l.drop (k % l.length)).length = l.length - k % l.length := by simp
    rw [← e1, List.drop_left, List.take_left, List.take_append_drop]
theorem rot_nil (k : Nat) : rotL [] k = [] := by simp [rotL]
theorem rot_head (l : List Int) (k : Nat) (hl : l.length ≠ 0) : ∃ (h : 0 < (rotL l k).length) (h' : k % l.length < l.length), (rotL l k)[0] = l[k % l.length] := by
  have hm := Nat.mod_lt k (show l.length > 0 by omega)
  refine ⟨by rw [rotL_length]; omega, hm, ?_⟩
  unfold rotL
  rw [List.getElem_append_left (by simp; omega), List.getElem_drop]
  simp
theorem graph_rot {g : List (List Int)} (hg : graphB g = true) {p : Nat} (hp : p < g.length) (k : Nat) : graphB (g.set p (rotL (g.getD p []) k)) = true := by
  have hl := graph_len hg
  refine GR.graph (q := 5) ?_ (Nat.le_refl _) (by simp; omega) (by simp; omega)
  rw [List.length_set]
  refine GR.set (fun l hlm => graph_mem hg hlm) p ?_ ?_
  · rw [rotL_length, getD_get hp]
    exact (graph_mem hg (List.getElem_mem hp)).1
  · intro x hx
    have hm : x ∈ g.getD p [] := by
      unfold rotL at hx
      rcases List.mem_append.1 hx with a | a
      · exact List.mem_of_mem_drop a
      · exact List.mem_of_mem_take a
    rw [getD_get hp] at hm
    exact (graph_mem hg (List.getElem_mem hp)).2 x hm

set_option maxHeartbeats 4000000 in
theorem k_lawGraphsChanged {h : Heap} {S0 S1 : Nat → Prop} {s0 s1 : Sl} {x0 x1 : List Value} (G0 : RdV S0 h 1 s0 x0) (B0 : ∀ v, v ∈ x0 → ∃ m : Int, v = Value.int .u8 m ∧ 0 ≤ m ∧ m ≤ 255) (G1 : RdV S1 h 1 s1 x1) (B1 : ∀ v, v ∈ x1 → ∃ m : Int, v = Value.int .u8 m ∧ 0 ≤ m ∧ m ≤ 255) : Ret Try.prog 8 #[s0.v, s1.v] h (VB true) := by
  intro K HK
  refine v8 s0 s1 h K ?_
  refine k_big s0 s1 h _ fun b0 => ⟨b0, rfl, .nil, fun _ => HK h (Fr.refl _ _), fun _ => ?_⟩
  refine k_DrawTurnExits G0 B0 _ fun t g p k h2 G2 f2 => ⟨t, p, k, rfl, .nil, fun b1 h4 hb1 f4 hL4 => ?_⟩
  have f4 := f4.in_nil
  refine k_TurnExits (G2.no f4) p k _ fun u h5 o5 f5 => ⟨u, _, rfl, hL4.of_no f5, fun b2 h7 hb2 f7 hL7 => ?_⟩
  have f7 := f7.in_nil
  have f27 := (f4.no_trans f5).no_trans f7
  refine k_spec_TurnExits (G2.no f27) p k _ fun u' h8 o8 f8 => ⟨u', _, rfl, hL7.of_no f8, fun e => by simp at e, fun _ b3 h10 hb3 f10 hL10 => ?_⟩
  have f10 := f10.in_nil
  have U10 := (OwR.rd o5).no ((f7.no_trans f8).no_trans f10)
  refine k_wGraph U10 ((OwR.rd o8).no f10) rfl _ fun h11 f11 => ⟨_, rfl, hL10.of_no f11, fun e => by simp at e, fun _ => ?_⟩
  have U11 := U10.no f11
  have f211 := ((f27.no_trans f8).no_trans f10).no_trans f11
  have G11 := G2.no f211
  have F11 := f2.no_trans f211
  have hL11 := hL10.of_no f11
  refine ⟨fun h' => Fr No h11 h', ⟨fun e1 => ?_, fun _ => Fr.refl _ _⟩, ?_⟩
  · have hc : (graphB g && inR 0 ((g.length : Int) - 1) p && inR 0 1000 k) = true := by
      unfold turnP at e1
      by_cases hc : (graphB g && inR 0 ((g.length : Int) - 1) p && inR 0 1000 k) = true
      · exact hc
      · rw [if_neg hc] at e1; simp at e1
    have hT : turnP g p k = (g.set p.toNat (rotL (g.getD p.toNat []) k.toNat), true) := by unfold turnP; rw [if_pos hc]
    rw [Bool.and_eq_true, Bool.and_eq_true, inR_iff, inR_iff] at hc
    obtain ⟨⟨hg, p0, p1⟩, k0, k1⟩ := hc
    have p1 : p < (g.length : Int) := by omega
    have hgl := graph_len hg
    obtain ⟨si, c1, r1⟩ := G11.get p0 p1
    have sn := r1.len
    have er : g.getD p.toNat [] = g[p.toNat]'(by omega) := getD_get (by omega)
    have gl5 := (graph_mem hg (List.getElem_mem (show p.toNat < g.length by omega))).1
    rw [er] at hT
    rw [hT] at U11
    refine ⟨G11.inb p0 p1, si, c1, fun en => ?_, fun en => ?_⟩
    · simp only [decide_eq_true_eq] at en
      have hn : (g[p.toNat]'(by omega)).length ≠ 0 := by omega
      have hm := Nat.mod_lt k.toNat (show (g[p.toNat]'(by omega)).length > 0 by omega)
      have ek : Int.tmod k (si.n : Int) = ((k.toNat % (g[p.toNat]'(by omega)).length : Nat) : Int) := by
        rw [sn, Int.tmod_eq_emod_of_nonneg k0, Int.natCast_emod, show ((k.toNat : Nat) : Int) = k by omega]
      rw [ek, w64_eq _ (by omega) (by omega)]
      have ek2 : (si.n : Int) - ((k.toNat % (g[p.toNat]'(by omega)).length : Nat) : Int) = (((g[p.toNat]'(by omega)).length - k.toNat % (g[p.toNat]'(by omega)).length : Nat) : Int) := by omega
      rw [ek2]
      have hB : turnP (g.set p.toNat (rotL (g[p.toNat]'(by omega)) k.toNat)) p (((g[p.toNat]'(by omega)).length - k.toNat % (g[p.toNat]'(by omega)).length : Nat) : Int) = (g, true) := by
        have hgr := graph_rot hg (show p.toNat < g.length by omega) k.toNat
        rw [er] at hgr
        have e5 : (g.set p.toNat (rotL (g[p.toNat]'(by omega)) k.toNat)).getD p.toNat [] = rotL (g[p.toNat]'(by omega)) k.toNat := by
          rw [getD_get (by simp; omega), List.getElem_set_self]
        unfold turnP
        rw [hgr, e5, if_pos (by rw [Bool.true_and, Bool.and_eq_true, inR_iff, inR_iff, List.length_set]; omega), Int.toNat_natCast, rot_back _ _ hn, List.set_set]
        congr 1
        exact List.set_getElem_self (by omega)
      refine ⟨fun b x ok h' => ok = true ∧ (∃ S : Nat → Prop, RdR S h' x g) ∧ Fr No h11 h', ⟨by omega, ?_, ?_⟩, ?_⟩
      · refine k_TurnExits U11 p _ _ fun x h12 o12 f12 => ⟨x, _, rfl, hL11.of_no f12, fun b5 h14 hb5 f14 hL14 => ?_⟩
        rw [hB] at o12 ⊢
        exact ⟨rfl, ⟨_, (OwR.rd o12).no f14.in_nil⟩, f12.no_trans f14.in_nil⟩
      · intro b6 h15 hb6 f15 hL15
        have f15 := f15.in_nil
        have z15 := hL15.head.lt
        refine k_TurnExits (U11.no f15) p _ _ fun x h16 o16 f16 => ⟨x, _, rfl, hL15.of_no f16, fun h17 f17 hL17 => ?_⟩
        rw [hB] at o16 ⊢
        have o17 : OwX h17 (Iv h15.size h16.size) x g := OwR.fr o16 f17 fun k hk hk2 hk3 => by simp [In] at hk3; have := hk2.1; omega
        exact ⟨rfl, ⟨_, OwR.rd o17⟩, ((f15.no_trans f16).of_no.trans f17 : Fr (In [b6]) h11 h17).mono fun k hk hk2 => by simp [In] at hk2; omega⟩
      rintro b4 x ok h18 ⟨rfl, ⟨S, R18⟩, f18⟩ hL18
      refine ⟨fun e => by simp at e, fun _ => ?_⟩
      refine k_wGraph R18 (G11.no f18) rfl _ fun h19 f19 => ⟨_, rfl, hL18.of_no f19, fun e => by simp at e, fun _ => ?_⟩
      have f1119 := f18.no_trans f19
      have U19 := U11.no f1119
      have G19 := G11.no f1119
      have ul : p < ((g.set p.toNat (rotL (g[p.toNat]'(by omega)) k.toNat)).length : Int) := by simp; omega
      obtain ⟨su, d1, q1⟩ := U19.get p0 ul
      rw [List.getElem_set_self] at q1
      obtain ⟨sv, d2, q2⟩ := G19.get p0 p1
      obtain ⟨hr0, hr1, hr2⟩ := rot_head (g[p.toNat]'(by omega)) k.toNat hn
      have i1 : (0 : Int) < ((rotL (g[p.toNat]'(by omega)) k.toNat).length : Int) := by omega
      have i2 : ((k.toNat % (g[p.toNat]'(by omega)).length : Nat) : Int) < ((g[p.toNat]'(by omega)).length : Int) := by omega
      refine ⟨U19.inb p0 ul, su, d1, q1.inb (Int.le_refl 0) i1, _, q1.get (Int.le_refl 0) i1, G19.inb p0 p1, sv, d2, by omega, q2.inb (by omega) i2, _, q2.get (by omega) i2, fun e => ?_, fun _ => f1119⟩
      exfalso
      have e := not_t e
      simp only [decide_eq_false_iff_not] at e
      refine e ?_
      simp only [Int.toNat_natCast]
      exact hr2
    · simp only [decide_eq_false_iff_not] at en
      have hz : g[p.toNat]'(by omega) = [] := List.length_eq_zero_iff.1 (by omega)
      have hs : g.set p.toNat (rotL (g[p.toNat]'(by omega)) k.toNat) = g := by
        have hs0 : g.set p.toNat (g[p.toNat]'(by omega)) = g := List.set_getElem_self (by omega)
        rw [hz] at hs0 ⊢
        rw [rot_nil]; exact hs0
      rw [hs] at U11
      exact k_wGraph U11 G11 rfl _ fun h20 f20 => ⟨_, rfl, hL11.of_no f20, fun e => by simp at e, fun _ => f20⟩
  · intro h21 f21 hL21
    have F21 := F11.no_trans f21
    refine k_DrawAddExit (G1.no F21) B1 _ fun t2 g2 a b h22 G22 f22 => ⟨t2, a, b, rfl, hL21.of_no f22, fun b7 h24 hb7 f24 hL24 => ?_⟩
    have f24 := f24.in_nil
    refine k_AddExit (G22.no f24) a b _ fun y h25 o25 f25 => ⟨y, _, rfl, hL24.of_no f25, fun b8 h27 hb8 f27 hL27 => ?_⟩
    have f27 := f27.in_nil
    have g27 := (f24.no_trans f25).no_trans f27
    refine k_spec_AddExit (G22.no g27) a b _ fun y' h28 o28 f28 => ⟨y', _, rfl, hL27.of_no f28, fun e => by simp at e, fun _ b9 h30 hb9 f30 hL30 => ?_⟩
    have f30 := f30.in_nil
    have Y30 := (OwR.rd o25).no ((f27.no_trans f28).no_trans f30)
    refine k_wGraph Y30 ((OwR.rd o28).no f30) rfl _ fun h31 f31 => ⟨_, rfl, hL30.of_no f31, fun e => by simp at e, fun _ => ?_⟩
    have hL31 := hL30.of_no f31
    have Y31 := Y30.no f31
    have g31 := ((g27.no_trans f28).no_trans f30).no_trans f31
    have G31 := G22.no g31
    have F31 := (F21.no_trans f22).no_trans g31
    refine ⟨fun h' => Fr No h31 h', ⟨fun e1 => ?_, fun _ => Fr.refl _ _⟩, ?_⟩
    · have hc : (graphB g2 && inR 0 ((g2.length : Int) - 1) a && inR 0 ((g2.length : Int) - 1) b) = true := by
        unfold addP at e1
        by_cases hc : (graphB g2 && inR 0 ((g2.length : Int) - 1) a && inR 0 ((g2.length : Int) - 1) b) = true
        · exact hc
        · rw [if_neg hc] at e1; simp at e1
      have hA : addP g2 a b = (toldP (g2.set a.toNat (g2.getD a.toNat [] ++ [b])), graphB (g2.set a.toNat (g2.getD a.toNat [] ++ [b]))) := by unfold addP; rw [if_pos hc]
      rw [hA] at e1
      have hX : graphB (g2.set a.toNat (g2.getD a.toNat [] ++ [b])) = true := e1
      have hA2 : (addP g2 a b).1 = g2.set a.toNat (g2.getD a.toNat [] ++ [b]) := by rw [hA]; unfold toldP; rw [if_pos hX]
      rw [Bool.and_eq_true, Bool.and_eq_true] at hc
      obtain ⟨⟨hg, ha⟩, hb⟩ := hc
      have hbX : inR 0 (((g2.set a.toNat (g2.getD a.toNat [] ++ [b])).length : Int) - 1) b = true := by rw [List.length_set]; exact hb
      have ha' := inR_iff.1 ha
      have hgt := graph_tot hg
      have hXt := graph_tot hX
      have et := tot_snoc (xss := g2) (i := a.toNat) (b := b) (by omega)
      have ec := cnt_snoc (xss := g2) (i := a.toNat) (b := b) (by omega)
      have ec2 : g2.flatten.count b ≤ totR g2 := by rw [← totR_flat]; exact List.count_le_length
      rw [hA2] at Y31
      refine k_CountExits G31 _ fun h32 f32 => ⟨_, _, rfl, hL31.of_no f32, ?_⟩
      refine k_CountExits (Y31.no f32) _ fun h33 f33 => ⟨_, _, rfl, (hL31.of_no f32).of_no f33, ?_⟩
      have f3133 := f32.no_trans f33
      refine k_EntriesOf (G31.no f3133) b _ fun h34 f34 => ⟨_, _, rfl, ((hL31.of_no f32).of_no f33).of_no f34, ?_⟩
      refine k_EntriesOf ((Y31.no f3133).no f34) b _ fun h35 f35 => ⟨_, _, rfl, (((hL31.of_no f32).of_no f33).of_no f34).of_no f35, ?_⟩
      rw [hg, hX, hb, hbX]
      refine ⟨fun e => by simp at e, fun _ => ⟨fun e => by simp at e, fun _ => ⟨fun e => ?_, fun _ => ⟨fun e => by simp at e, fun _ => ⟨fun e => by simp at e, fun _ => ⟨fun e => ?_, fun _ => (f3133.no_trans f34).no_trans f35⟩⟩⟩⟩⟩⟩
      · exfalso
        have e := not_t e
        simp only [decide_eq_false_iff_not] at e
        refine e ?_
        simp only [if_pos]
        rw [w64_eq _ (by omega) (by omega)]
        omega
      · exfalso
        have e := not_t e
        simp only [decide_eq_false_iff_not] at e
        refine e ?_
        simp only [Bool.and_self, if_pos]
        rw [w64_eq _ (by omega) (by omega), ec]
        omega
    · intro h36 f36 hL36
      have F36 := F31.no_trans f36
      refine k_DrawCycleGraph (G1.no F36) B1 _ fun n q h37 n0 n1 f37 => ⟨n, q, rfl, hL36.of_no f37, ?_⟩
      refine k_CycleGraph n q _ fun z h38 o38 f38 => ⟨z, _, rfl, (hL36.of_no f37).of_no f38, fun b10 h40 hb10 f40 hL40 => ?_⟩
      have f40 := f40.in_nil
      refine k_spec_CycleGraph n q _ fun z' h41 o41 f41 => ⟨z', _, rfl, hL40.of_no f41, fun e => by simp at e, fun _ b11 h43 hb11 f43 hL43 => ?_⟩
      have f43 := f43.in_nil
      have Z43 := (OwR.rd o38).no ((f40.no_trans f41).no_trans f43)
      refine k_wGraph Z43 ((OwR.rd o41).no f43) rfl _ fun h44 f44 => ⟨_, rfl, hL43.of_no f44, fun e => by simp at e, fun _ => ?_⟩
      have Z44 := Z43.no f44
      have hL44 := hL43.of_no f44
      have F44 := (((((F36.no_trans f37).no_trans f38).no_trans f40).no_trans f41).no_trans f43).no_trans f44
      refine ⟨fun e1 => ?_, fun _ => HK h44 F44⟩
      have hi : inR 1 8 n = true := by
        unfold cyG at e1
        by_cases hc : inR 1 8 n = true
        · exact hc
        · rw [if_neg hc] at e1; simp at e1
      have hC : cyG n q = (cycP n.toNat q, true) := by unfold cyG; rw [if_pos hi]
      have hn := inR_iff.1 hi
      rw [hC] at Z44
      have hall := cy_all ⟨n.toNat, by omega⟩ q (by simp only; omega)
      simp only [Bool.and_eq_true, decide_eq_true_eq] at hall
      obtain ⟨⟨⟨a1, a2⟩, a3⟩, a4⟩ := hall
      refine k_IsStrong Z44 _ fun h45 f45 => ⟨_, _, rfl, hL44.of_no f45, ?_⟩
      refine k_IsBalanced (Z44.no f45) _ fun h46 f46 => ⟨_, _, rfl, (hL44.of_no f45).of_no f46, ?_⟩
      have f4446 := f45.no_trans f46
      refine k_CountExits (Z44.no f4446) _ fun h47 f47 => ⟨_, _, rfl, ((hL44.of_no f45).of_no f46).of_no f47, ?_⟩
      rw [a1, a2, a3]
      have F47 := F44.no_trans (f4446.no_trans f47)
      refine ⟨fun x h' => x = (totR (cycP n.toNat q) : Int) ∧ Fr No h h', ⟨fun eq => ⟨?_, F47⟩, fun eq => ⟨?_, F47⟩⟩, ?_⟩
      · rw [w64_eq _ (by omega) (by omega), a4, eq, if_pos rfl]; omega
      · rw [a4, eq, if_neg (by simp)]; omega
      rintro x h48 ⟨rfl, F48⟩ hL48
      have := HK h48 F48
      refine ⟨fun _ => ⟨fun _ => ⟨fun _ => ⟨fun _ => ⟨fun _ => ?_, fun e => by simp at e⟩, fun e => by simp at e⟩, fun e => by simp at e⟩, fun e => by simp at e⟩, fun e => by simp at e⟩
      simpa using this
end Go.Proofs.Ytbhnecochpehdaa
