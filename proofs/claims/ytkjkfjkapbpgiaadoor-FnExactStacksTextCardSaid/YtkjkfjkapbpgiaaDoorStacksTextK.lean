/-
  What each function that the law 'FnExactStacksText' comes to does: the contracts.
-/
import Derived.Test.YtkjkfjkapbpgiaaDoorStacksTextU
import Derived.Test.YtkjkfjkapbpgiaaDoorM4
import Derived.Laws.BytesArg
import Derived.Test.YtkjkfjkapbpgiaaDoorStacksTextH
set_option linter.unusedVariables false
set_option linter.unusedSimpArgs false
namespace Go.Proofs.YtkjkfjkapbpgiaaDoor
open Go Go.Mx
@[reducible] def tI : TypeId := 3
@[reducible] def tIs : TypeId := 34
@[reducible] def tIss : TypeId := 22
theorem rIs : rowC Tryd.prog tIs = some (tI, 1, 8, [VI 0]) := by kernel_rfl
theorem rIss : rowC Tryd.prog tIss = some (tIs, 1, 24, [nilSl.v]) := by kernel_rfl
@[reducible] def OwI (h : Heap) (F : Nat → Prop) (s : Sl) (xs : List Int) : Prop := Ow h F tI 1 s (xs.map VI)
@[reducible] def OwX (h : Heap) (F : Nat → Prop) (s : Sl) (xss : List (List Int)) : Prop := OwR h F tIs tI s xss
theorem plainVI (xs : List Int) : (xs.map VI).all plainV = true := by simp [List.all_eq_true, plainV]

theorem k_bool {f : FuncId} {args : Array Value} {h : Heap} {v w : Value} (H : Ret Tryd.prog f args h v) (e : v = w) : Ret Tryd.prog f args h w := e ▸ H

theorem k_impl_in (n lo hi : Int) (h : Heap) (K : Value → Heap → Prop) (H : K (VB (decide (lo ≤ n) && decide (n ≤ hi))) h) : callM Tryd.prog 55 #[VI n, VI lo, VI hi] h K := by
  refine v55 n lo hi h K ⟨fun e => ?_, fun e => ?_⟩
  · rw [e, Bool.true_and] at H; exact H
  · rw [e, Bool.false_and] at H; exact H

theorem k_spec_l1In (n lo hi : Int) (h : Heap) (K : Value → Heap → Prop) (H : K (VB (decide (lo ≤ n) && decide (n ≤ hi))) h) : callM Tryd.prog 51 #[VI n, VI lo, VI hi] h K := by
  refine v51 n lo hi h K ⟨fun e => ?_, fun e => ?_⟩
  · rw [e, Bool.true_and] at H; exact H
  · rw [e, Bool.false_and] at H; exact H

def inR (lo hi x : Int) : Bool := decide (lo ≤ x) && decide (x ≤ hi)
def graphB (g : List (List Int)) : Bool := inR 1 8 g.length && g.all fun l => !decide (5 < (l.length : Int)) && l.all (inR 0 ((g.length : Int) - 1))
theorem not_t {b : Bool} (h : (!b) = true) : b = false := by simpa using h
theorem not_f {b : Bool} (h : (!b) = false) : b = true := by simpa using h

theorem k_spec_l1All {S : Nat → Prop} {h : Heap} {l : Sl} {xs : List Int} (H : RdI S h l xs) (lo hi_1 : Int) (K : Value → Heap → Prop) (HK : K (VB (xs.all (inR lo hi_1))) h) : callM Tryd.prog 52 #[l.v, VI lo, VI hi_1] h K := by
  refine v52 l lo hi_1 h K ?_
  refine ⟨fun n i h' => h' = h ∧ 0 ≤ i ∧ i + n = (xs.length : Int) ∧ xs.all (inR lo hi_1) = (xs.drop i.toNat).all (inR lo hi_1), ⟨xs.length, rfl, by omega, by omega, by simp⟩, ?_⟩
  rintro n i _ ⟨rfl, h0, h1, h2⟩ hL
  refine ⟨fun e => ?_, fun e => ?_⟩
  · have hi := H.lt e
    refine ⟨H.inb h0 hi, _, H.get h0 hi, ?_⟩
    rw [drop_cons xs h0 hi, List.all_cons] at h2
    refine k_spec_l1In _ _ _ _ _ ⟨_, rfl, hL, fun e2 => ?_, fun e2 => ?_⟩
    · have e3 : inR lo hi_1 (xs[i.toNat]'(by omega)) = false := not_t e2
      rw [h2, e3] at HK
      exact HK
    · have e3 : inR lo hi_1 (xs[i.toNat]'(by omega)) = true := not_f e2
      rw [e3, Bool.true_and] at h2
      rw [H.succ h0 hi]
      exact ⟨n - 1, by omega, rfl, by omega, by omega, h2⟩
  · have hi := H.ge e
    rw [List.drop_of_length_le (by omega)] at h2
    rw [h2] at HK
    exact HK

theorem k_IndexFunc {S : Nat → Prop} {h : Heap} {s : Sl} {xs : List Int} (H : RdI S h s xs) (f : Value) (p : Int → Bool) (hf : ∀ (x : Int) (K : Value → Heap → Prop), K (VB (p x)) h → callV Tryd.prog f [VI x] h K) (K : Value → Heap → Prop) (HK : ∀ r : Int, decide (0 ≤ r) = xs.any p → K (VI r) h) : callM Tryd.prog 95 #[s.v, f] h K := by
  refine v95 s f h K ⟨fun n i h' => h' = h ∧ 0 ≤ i ∧ i + n = (xs.length : Int) ∧ xs.any p = (xs.drop i.toNat).any p, ⟨xs.length, rfl, by omega, by omega, by simp⟩, ?_⟩
  rintro n i _ ⟨rfl, i0, i1, i2⟩ hL
  refine ⟨fun e => ?_, fun e => ?_⟩
  · have hi := H.lt e
    rw [drop_cons xs i0 hi, List.any_cons] at i2
    refine ⟨H.inb i0 hi, _, H.get i0 hi, hf _ _ ⟨_, rfl, .nil, fun e => ?_, fun e => ?_⟩⟩
    · rw [e, Bool.true_or] at i2
      exact HK _ (by rw [i2]; simpa using i0)
    · rw [e, Bool.false_or] at i2
      rw [H.succ i0 hi]
      exact ⟨n - 1, by omega, rfl, by omega, by omega, i2⟩
  · have hi := H.ge e
    rw [List.drop_of_length_le (by omega)] at i2
    exact HK _ (by rw [i2]; rfl)

theorem k_ContainsFunc {S : Nat → Prop} {h : Heap} {s : Sl} {xs : List Int} (H : RdI S h s xs) (f : Value) (p : Int → Bool) (hf : ∀ (x : Int) (K : Value → Heap → Prop), K (VB (p x)) h → callV Tryd.prog f [VI x] h K) (K : Value → Heap → Prop) (HK : K (VB (xs.any p)) h) : callM Tryd.prog 56 #[s.v, f] h K := by
  refine v56 s f h K (k_IndexFunc H f p hf _ fun r hr => ⟨r, rfl, .nil, ?_⟩)
  rw [hr]; exact HK

theorem graphB_eq {xss : List (List Int)} (e3 : inR 1 8 xss.length = true) : graphB xss = xss.all fun l => !decide (5 < (l.length : Int)) && l.all (inR 0 ((xss.length : Int) - 1)) := by unfold graphB; rw [e3]; rfl
theorem graphB_no {xss : List (List Int)} (e3 : inR 1 8 xss.length = false) : graphB xss = false := by unfold graphB; rw [e3]; rfl
theorem any_not {xs : List Int} {p : Int → Bool} : xs.any (fun x => !p x) = !xs.all p := by
  induction xs with
  | nil => rfl
  | cons x xs ih => simp only [List.any_cons, List.all_cons, ih, Bool.not_and]
theorem len_w64 {S : Nat → Prop} {h : Heap} {g : Sl} {xss : List (List Int)} (H : RdR S h g xss) : w64 ((g.n : Int) - 1) = (xss.length : Int) - 1 := by
  rw [H.len]
  have h1 := maxLen_lt H.big
  have h2 := H.len
  exact w64_eq _ (by omega) (by omega)

def rotB (l : List Int) (r : Int) : Bool := inR 0 (max ((l.length : Int) - 1) 0) r
def walkB (g : List (List Int)) (rs : List Int) (p : Int) : Bool := graphB g && inR 0 ((g.length : Int) - 1) p && decide (rs.length = g.length) && (g.zip rs).all fun q => rotB q.1 q.2
theorem walkB_no1 {g : List (List Int)} {rs : List Int} {p : Int} (e : (graphB g && inR 0 ((g.length : Int) - 1) p) = false) : walkB g rs p = false := by unfold walkB; rw [e]; rfl
theorem walkB_no2 {g : List (List Int)} {rs : List Int} {p : Int} (e : ¬ rs.length = g.length) : walkB g rs p = false := by unfold walkB; rw [decide_eq_false e]; simp
theorem walkB_eq {g : List (List Int)} {rs : List Int} {p : Int} (e : (graphB g && inR 0 ((g.length : Int) - 1) p) = true) (e2 : rs.length = g.length) : walkB g rs p = (g.zip rs).all fun q => rotB q.1 q.2 := by unfold walkB; rw [e, decide_eq_true e2]; rfl
theorem zip_drop (g : List (List Int)) (rs : List Int) {i : Int} (h0 : 0 ≤ i) (h1 : i < (g.length : Int)) (h2 : i < (rs.length : Int)) : (g.zip rs).drop i.toNat = (g[i.toNat]'(by omega), rs[i.toNat]'(by omega)) :: (g.zip rs).drop (i + 1).toNat := by
  have := drop_cons (g.zip rs) h0 (by simp; omega)
  simpa using this
theorem len_w64I {S : Nat → Prop} {h : Heap} {g : Sl} {xs : List Int} (H : RdI S h g xs) : w64 ((g.n : Int) - 1) = (xs.length : Int) - 1 := by
  rw [H.len]
  have h1 := maxLen_lt (RdV.big H)
  have h2 := H.len
  exact w64_eq _ (by omega) (by omega)

theorem loopI {S : Nat → Prop} {h : Heap} {s : Sl} {xs : List Int} (H : RdI S h s xs) : (xs.length : Int) ≤ maxLen := by have := H.len; have := H.big; omega

theorem k_eqIntS {S S' : Nat → Prop} {h : Heap} {a b : Sl} {xs ys : List Int} (H : RdI S h a xs) (H' : RdI S' h b ys) (K : Value → Heap → Prop) (HK : K (VB (decide (xs = ys))) h) : callM Tryd.prog 46 #[a.v, b.v] h K := by
  refine v46 a b h K ⟨fun e => ?_, fun e => ?_⟩
  · have e1 := not_t e
    rw [H.len, H'.len] at e1
    have : ¬ xs = ys := fun e2 => by subst e2; simp at e1
    rw [decide_eq_false this] at HK
    exact HK
  · have e1 := not_f e
    rw [H.len, H'.len] at e1
    have hl : xs.length = ys.length := by simp at e1; omega
    refine ⟨fun n i h' => h' = h ∧ 0 ≤ i ∧ i + n = (xs.length : Int) ∧ decide (xs = ys) = decide (xs.drop i.toNat = ys.drop i.toNat), ⟨xs.length, rfl, by omega, by omega, by simp⟩, ?_⟩
    rintro n i _ ⟨rfl, h0, h1, h2⟩ hL
    refine ⟨fun e => ?_, fun e => ?_⟩
    · have hi := H.lt e
      have hi' : i < (ys.length : Int) := by omega
      refine ⟨H.inb h0 hi, _, H.get h0 hi, H'.inb h0 hi', _, H'.get h0 hi', fun e => ?_, fun e => ?_⟩
      · rw [drop_cons xs h0 hi, drop_cons ys h0 hi'] at h2
        have e3 := not_t e
        simp only [decide_eq_false_iff_not] at e3
        rw [h2, decide_eq_false (fun e4 => e3 (List.cons.inj e4).1)] at HK
        exact HK
      · rw [drop_cons xs h0 hi, drop_cons ys h0 hi'] at h2
        have e3 := not_f e
        simp only [decide_eq_true_eq] at e3
        rw [H.succ h0 hi]
        refine ⟨n - 1, by omega, rfl, by omega, by omega, h2.trans ?_⟩
        rw [e3]
        simp
    · have hi := H.ge e
      rw [List.drop_of_length_le (by omega), List.drop_of_length_le (by omega)] at h2
      rw [h2] at HK
      exact HK

theorem k_eqIntSS {S S' : Nat → Prop} {h : Heap} {a b : Sl} {xs ys : List (List Int)} (H : RdR S h a xs) (H' : RdR S' h b ys) (K : Value → Heap → Prop) (HK : K (VB (decide (xs = ys))) h) : callM Tryd.prog 60 #[a.v, b.v] h K := by
  refine v60 a b h K ⟨fun e => ?_, fun e => ?_⟩
  · have e1 := not_t e
    rw [H.len, H'.len] at e1
    have : ¬ xs = ys := fun e2 => by subst e2; simp at e1
    rw [decide_eq_false this] at HK
    exact HK
  · have e1 := not_f e
    rw [H.len, H'.len] at e1
    have hl : xs.length = ys.length := by simp at e1; omega
    refine ⟨fun n i h' => h' = h ∧ 0 ≤ i ∧ i + n = (xs.length : Int) ∧ decide (xs = ys) = decide (xs.drop i.toNat = ys.drop i.toNat), ⟨xs.length, rfl, by omega, by omega, by simp⟩, ?_⟩
    rintro n i _ ⟨rfl, h0, h1, h2⟩ hL
    refine ⟨fun e => ?_, fun e => ?_⟩
    · have hi := H.lt e
      have hi' : i < (ys.length : Int) := by omega
      obtain ⟨x, cx, rx⟩ := H.get h0 hi
      obtain ⟨y, cy, ry⟩ := H'.get h0 hi'
      refine ⟨H.inb h0 hi, x, cx, H'.inb h0 hi', y, cy, k_eqIntS rx ry _ ⟨_, rfl, hL, fun e => ?_, fun e => ?_⟩⟩
      · rw [drop_cons xs h0 hi, drop_cons ys h0 hi'] at h2
        have e3 := not_t e
        simp only [decide_eq_false_iff_not] at e3
        rw [h2, decide_eq_false (fun e4 => e3 (List.cons.inj e4).1)] at HK
        exact HK
      · rw [drop_cons xs h0 hi, drop_cons ys h0 hi'] at h2
        have e3 := not_f e
        simp only [decide_eq_true_eq] at e3
        rw [H.succ h0 hi]
        refine ⟨n - 1, by omega, rfl, by omega, by omega, h2.trans ?_⟩
        rw [e3]
        simp
    · have hi := H.ge e
      rw [List.drop_of_length_le (by omega), List.drop_of_length_le (by omega)] at h2
      rw [h2] at HK
      exact HK

def numI (k : Int) : List Int → List Int
  | [] => []
  | _ :: xs => k :: numI (k + 1) xs
theorem numI_length : ∀ (k : Int) (xs : List Int), (numI k xs).length = xs.length
  | _, [] => rfl
  | k, _ :: xs => by simp [numI, numI_length (k + 1) xs]
theorem numI_get : ∀ (xs : List Int) (k : Int) (i : Nat) (h : i < (numI k xs).length), (numI k xs)[i] = k + i
  | [], k, i, h => by simp [numI] at h
  | x :: xs, k, 0, h => by simp [numI]
  | x :: xs, k, i + 1, h => by
    simp only [numI, List.getElem_cons_succ]
    rw [numI_get xs (k + 1) i]
    omega
def totR (xss : List (List Int)) : Nat := (xss.map List.length).sum
def numR (k : Int) : List (List Int) → List (List Int)
  | [] => []
  | xs :: xss => numI k xs :: numR (k + xs.length) xss
theorem numR_length : ∀ (k : Int) (xss : List (List Int)), (numR k xss).length = xss.length
  | _, [] => rfl
  | k, xs :: xss => by simp [numR, numR_length (k + xs.length) xss]
theorem numR_get : ∀ (xss : List (List Int)) (k : Int) (i : Nat) (h : i < (numR k xss).length) (h' : i < xss.length), (numR k xss)[i] = numI (k + totR (xss.take i)) xss[i]
  | [], k, i, h, _ => by simp [numR] at h
  | x :: xs, k, 0, h, _ => by simp [numR, totR]
  | x :: xs, k, i + 1, h, h' => by
    simp only [numR, List.getElem_cons_succ]
    rw [numR_get xs _ i (by simpa [numR] using h) (by simpa using h')]
    congr 1
    simp [totR]
    omega
theorem totR_take_le : ∀ (xss : List (List Int)) (i : Nat), totR (xss.take i) ≤ totR xss
  | [], i => by simp [totR]
  | x :: xs, 0 => by simp [totR]
  | x :: xs, i + 1 => by
    have := totR_take_le xs i
    simp only [totR, List.take_succ_cons, List.map_cons, List.sum_cons] at *
    omega
theorem totR_snoc (xss : List (List Int)) (i : Nat) (h : i < xss.length) : totR (xss.take (i + 1)) = totR (xss.take i) + xss[i].length := by
  rw [List.take_succ_eq_append_getElem h]
  simp only [totR, List.map_append, List.sum_append, List.map_cons, List.map_nil, List.sum_cons, List.sum_nil]
  omega

def firstXs : List (List Int) := [[1, 2], [0, 2], [0]]
def DeskIs (h h' : Heap) (v : Value) : Prop := ∃ (g w : Sl) (m : Nat), v = .agg #[g.v, w.v, VI 0] ∧ OwX h' (fun k => h.size ≤ k ∧ k < m) g firstXs ∧ OwI h' (fun k => h.size ≤ k ∧ m ≤ k) w [0, 0, 0] ∧ Fr No h h'
theorem own_lt {h : Heap} {F : Nat → Prop} {e : TypeId} {sz : Nat} {s : Sl} {vs : List Value} (H : Ow h F e sz s vs) {n : Nat} (hn : h.size ≤ n) : ∀ k, s.own k → k < n := fun k hk => Nat.lt_of_lt_of_le (H.foot hk).2 hn
theorem lit_first {h1 : Heap} {K : Value → Heap → Prop} (HK : ∀ (g : Sl) (h' : Heap), OwX h' (fun k => h1.size ≤ k) g firstXs → Fr No h1 h' → K g.v h') :
    eop Tryd.prog (Instr.buildSlice tIs 2 #[(0, VI 1), (1, VI 2)]) h1 fun rv_1 h_2 => ∃ t1_1 : Sl, rv_1 = t1_1.v ∧ Fr No h1 h_2 ∧
    eop Tryd.prog (Instr.buildSlice tIs 2 #[(0, VI 0), (1, VI 2)]) h_2 fun rv_2 h_3 => ∃ t2_1 : Sl, rv_2 = t2_1.v ∧ Fr No h_2 h_3 ∧
    eop Tryd.prog (Instr.buildSlice tIs 1 #[(0, VI 0)]) h_3 fun rv_3 h_4 => ∃ t3_1 : Sl, rv_3 = t3_1.v ∧ Fr No h_3 h_4 ∧
    eop Tryd.prog (Instr.buildSlice tIss 3 #[(0, t1_1.v), (1, t2_1.v), (2, t3_1.v)]) h_4 K := by
  refine eop_lit rIs (fun k => h1.size ≤ k) (fun _ h => h) 2 (by omega) [VI 1, VI 2] rfl rfl fun t1 h2 n1 c1 o1 f1 l1 _ => ⟨t1, rfl, f1, ?_⟩
  refine eop_lit rIs (fun k => h1.size ≤ k) (fun _ h => Nat.le_trans f1.size h) 2 (by omega) [VI 0, VI 2] rfl rfl fun t2 h3 n2 c2 o2 f2 l2 _ => ⟨t2, rfl, f2, ?_⟩
  have f13 := f1.no_trans f2
  refine eop_lit rIs (fun k => h1.size ≤ k) (fun _ h => Nat.le_trans f13.size h) 1 (by omega) [VI 0] rfl rfl fun t3 h4 n3 c3 o3 f3 l3 _ => ⟨t3, rfl, f3, ?_⟩
  have f14 := f13.no_trans f3
  refine eop_lit rIss (fun k => h1.size ≤ k) (fun _ h => Nat.le_trans f14.size h) 3 (by omega) [t1.v, t2.v, t3.v] rfl rfl fun t4 h5 n4 c4 o4 f4 l4 _ => ?_
  have g1 := own_lt o1 (Nat.le_refl _)
  have g2 := own_lt o2 (Nat.le_refl _)
  have g3 := own_lt o3 (Nat.le_refl _)
  have s3 := f2.size
  have s4 := f3.size
  refine HK t4 h5 (OwR.of [t1, t2, t3] rfl o4 ?_ ?_ ?_) (f14.trans f4)
  · intro p hp
    simp only [firstXs, List.zip_cons_cons, List.zip_nil_right, List.mem_cons, List.not_mem_nil, or_false] at hp
    rcases hp with rfl | rfl | rfl
    · exact ((o1.no f2).no f3).no f4
    · exact (o2.no f3).no f4
    · exact o3.no f4
  · simp only [List.pairwise_cons, List.mem_cons, List.not_mem_nil, or_false, forall_eq_or_imp, forall_eq, List.Pairwise.nil, and_true]
    refine ⟨⟨fun k a b => ?_, fun k a b => ?_⟩, fun k a b => ?_, by simp⟩
    · have := g1 k a; have := l2 k b; omega
    · have := g1 k a; have := l3 k b; omega
    · have := g2 k a; have := l3 k b; omega
  · intro a ha k hk hk2
    have := l4 k hk
    simp only [List.mem_cons, List.not_mem_nil, or_false] at ha
    rcases ha with rfl | rfl | rfl
    · have := g1 k hk2; omega
    · have := g2 k hk2; omega
    · have := g3 k hk2; omega

theorem k_szIntS {S : Nat → Prop} {h : Heap} {s : Sl} {xs : List Int} (H : RdI S h s xs) (left : Int) (h0 : 0 ≤ left) (h1 : left ≤ 1048576) (K : Value → Heap → Prop) (HK : ∀ r : Int, r = -1 ∨ (0 ≤ r ∧ r = left - xs.length) → K (VI r) h) : callM Tryd.prog 61 #[s.v, VI left] h K := by
  have hb := maxLen_lt (RdV.big H)
  have e := H.len
  have hw : w64 (left - s.n) = left - s.n := w64_eq _ (by omega) (by omega)
  refine v61 s left h K ⟨fun _ => HK _ (.inl rfl), fun e2 => HK _ (.inr ?_)⟩
  rw [hw] at e2 ⊢
  simp only [decide_eq_false_iff_not] at e2
  omega

theorem k_szIntSS {S : Nat → Prop} {h : Heap} {s : Sl} {xss : List (List Int)} (H : RdR S h s xss) (left : Int) (h0 : 0 ≤ left) (h1 : left ≤ 1048576) (K : Value → Heap → Prop) (HK : ∀ r : Int, r = -1 ∨ (0 ≤ r ∧ r = left - xss.length - totR xss) → K (VI r) h) : callM Tryd.prog 50 #[s.v, VI left] h K := by
  have hb := maxLen_lt H.big
  have e := H.len
  have hw : w64 (left - s.n) = left - s.n := w64_eq _ (by omega) (by omega)
  refine v50 s left h K ⟨fun _ => HK _ (.inl rfl), fun e2 => ?_⟩
  rw [hw] at e2 ⊢
  simp only [decide_eq_false_iff_not] at e2
  refine ⟨fun n l i h' => h' = h ∧ 0 ≤ i ∧ i + n = (xss.length : Int) ∧ l = left - xss.length - totR (xss.take i.toNat) ∧ 0 ≤ l, ⟨xss.length, rfl, by omega, by omega, by simp [totR]; omega, by omega⟩, ?_⟩
  rintro n l i _ ⟨rfl, i0, i1, rfl, l0⟩ hL
  refine ⟨fun e => ?_, fun e => ?_⟩
  · have hi := H.lt e
    obtain ⟨si, c1, c2⟩ := H.get i0 hi
    have hsn := totR_snoc xss i.toNat (by omega)
    refine ⟨H.inb i0 hi, si, c1, k_szIntS c2 _ l0 (by omega) _ fun r hr => ⟨r, rfl, .nil, fun _ => HK _ (.inl rfl), fun e3 => ?_⟩⟩
    simp only [decide_eq_false_iff_not] at e3
    rw [H.succ i0 hi]
    exact ⟨n - 1, by omega, rfl, by omega, by omega, by rw [toNat_succ i0, hsn]; omega, by omega⟩
  · have hi := H.ge e
    have e4 : i = xss.length := by omega
    refine HK _ (.inr ⟨l0, ?_⟩)
    rw [e4]
    simp

theorem k_toIntS {S : Nat → Prop} {h : Heap} {s : Sl} {xs : List Int} (H : RdI S h s xs) (hn : xs.length ≤ 1000000000000) (K : Value → Heap → Prop) (HK : ∀ t h', OwI h' (fun k => h.size ≤ k) t xs → Fr No h h' → K t.v h') : callM Tryd.prog 64 #[s.v] h K := by
  have hl := H.len
  refine v64 s h K ?_
  refine eop_make rIs (fun k => h.size ≤ k) (fun _ h => h) .i64 .i64 s.n s.n (Nat.le_refl _) (by omega) fun t h1 n1 c1 o1 f1 l1 _ => ⟨t, rfl, .nil, ?_⟩
  have o1 : OwI h1 (fun k => h.size ≤ k) t (List.replicate xs.length 0) := by
    have e : (List.replicate s.n [VI 0]).flatten = (List.replicate xs.length (0 : Int)).map VI := by rw [H.len]; simp [List.flatten_replicate_singleton]
    rw [e] at o1; exact o1
  refine ⟨fun n i h' => 0 ≤ i ∧ i + n = (xs.length : Int) ∧ OwI h' (fun k => h.size ≤ k) t (xs.take i.toNat ++ (List.replicate xs.length (0 : Int)).drop i.toNat) ∧ Fr t.own h1 h', ⟨xs.length, by omega, by omega, by simpa using o1, Fr.refl _ _⟩, ?_⟩
  rintro n i h2 ⟨i0, i1, o2, f2⟩ hL
  have H2 := H.on f1 f2 l1
  refine ⟨fun e => ?_, fun e => ?_⟩
  · have hi := H.lt e
    obtain ⟨w1, w2, w3⟩ := o2.store1 i0 (by omega) (VI (xs[i.toNat]'(by omega)))
    refine ⟨H2.inb i0 hi, _, H2.get i0 hi, o2.inb i0 (by omega), w1, .nil, fun h3 e3 _ => ?_⟩
    subst e3
    rw [← List.map_set, set_mid _ _ _ _ (by simp; omega)] at w2
    rw [H.succ i0 hi]
    exact ⟨n - 1, by omega, by omega, by omega, by rw [toNat_succ i0]; exact w2, f2.trans w3⟩
  · have hi := H.ge e
    have e4 : i = xs.length := by omega
    subst e4
    exact HK t h2 (by simpa using o2) (f1.fresh f2 l1)

theorem k_toIntSS {S : Nat → Prop} {h : Heap} {s : Sl} {xss : List (List Int)} (H : RdR S h s xss) (hn : xss.length ≤ 1000000000000) (hm : totR xss ≤ 1000000000000) (K : Value → Heap → Prop) (HK : ∀ t h', OwX h' (fun k => h.size ≤ k) t xss → Fr No h h' → K t.v h') : callM Tryd.prog 54 #[s.v] h K := by
  have hl := H.len
  refine v54 s h K ?_
  refine eop_make rIss (fun k => h.size ≤ k) (fun _ h => h) .i64 .i64 s.n s.n (Nat.le_refl _) (by omega) fun t h1 n1 c1 o1 f1 l1 _ => ⟨t, rfl, .nil, ?_⟩
  have o1 : OwX h1 (fun k => h.size ≤ k) t (List.replicate xss.length []) := OwR.zeros _ (by rw [hl] at o1; exact o1)
  refine ⟨fun n i h' => 0 ≤ i ∧ i + n = (xss.length : Int) ∧ OwX h' (fun k => h.size ≤ k) t (xss.take i.toNat ++ (List.replicate xss.length []).drop i.toNat) ∧ Fr No h h', ⟨xss.length, by omega, by omega, by simpa using o1, f1⟩, ?_⟩
  rintro n i h2 ⟨i0, i1, o2, f2⟩ hL
  have H2 := H.no f2
  refine ⟨fun e => ?_, fun e => ?_⟩
  · have hi := H.lt e
    obtain ⟨si, c1, c2⟩ := H2.get i0 hi
    have hlen : (xss.take i.toNat ++ (List.replicate xss.length ([] : List Int)).drop i.toNat).length = xss.length := by simp; omega
    have hsz : (xss[i.toNat]'(by omega)).length ≤ totR xss := by
      have h1 := totR_snoc xss i.toNat (by omega)
      have h2 := totR_take_le xss (i.toNat + 1)
      omega
    refine ⟨H2.inb i0 hi, si, c1, k_toIntS c2 (by omega) _ fun x h3 o3 f3 => ⟨x, rfl, .nil, ?_⟩⟩
    have o2' := (o2.mono (F' := fun k => h.size ≤ k ∧ k < h2.size) fun k hk hF => ⟨hF, hk⟩).no f3
    obtain ⟨sj, d1, d2, _⟩ := o2'.inner i0 (by omega)
    have s2 := f2.size
    obtain ⟨w1, w2, w3⟩ := o2'.outer i0 (by omega) d1 (F' := fun k => h.size ≤ k) (o3.mono fun k _ hk => by omega) (fun k _ hk => hk.1) (fun k hk => .inr fun hk2 => by have := (o3.foot hk).1; omega)
    refine ⟨o2'.rd.inb i0 (by omega), w1, .nil, fun h4 e4 _ => ?_⟩
    subst e4
    rw [set_mid _ _ _ _ (by simp; omega)] at w2
    rw [H.succ i0 hi]
    exact ⟨n - 1, by omega, by omega, by omega, by rw [toNat_succ i0]; exact w2, (f2.no_trans f3).fresh w3 fun k hk => by
      obtain ⟨ss, _, h5, _⟩ := o2'.out
      exact (h5.foot hk).1.1⟩
  · have hi := H.ge e
    have e4 : i = xss.length := by omega
    subst e4
    exact HK t h2 (by simpa using o2) f2

theorem frOwn {h h' : Heap} {F : Nat → Prop} {e : TypeId} {sz : Nat} {s : Sl} {vs : List Value} {b : Heap} (H : Ow h F e sz s vs) (f : Fr s.own h h') : Fr F h h' := f.mono fun _ _ hk => (H.foot hk).1

theorem g_szIntS {S : Nat → Prop} {h : Heap} {s : Sl} {xs : List Int} (H : RdI S h s xs) (left : Int) (h0 : 0 ≤ left) (h1 : left ≤ 1048576) (K : Value → Heap → Prop) (HK : ∀ (h' : Heap) (r : Int), Fr No h h' → r = -1 ∨ (0 ≤ r ∧ r = left - xs.length) → K (VI r) h') : callM Tryd.prog 61 #[s.v, VI left] h K := k_szIntS H left h0 h1 K fun r hr => HK h r (Fr.refl _ _) hr

theorem g_toIntS {S : Nat → Prop} {h : Heap} {s : Sl} {xs : List Int} (H : RdI S h s xs) (hn : xs.length ≤ 1048576) (K : Value → Heap → Prop) (HK : ∀ t h', OwI h' (Iv h.size h'.size) t xs → Fr No h h' → K t.v h') : callM Tryd.prog 64 #[s.v] h K := k_toIntS H (by omega) K fun t h' o f => HK t h' o.toIv f

theorem g_eqIntS {S S' : Nat → Prop} {h : Heap} {a b : Sl} {xs : List Int} (H : RdI S h a xs) (H' : RdI S' h b xs) : Ret Tryd.prog 46 #[a.v, b.v] h (VB true) := fun K HK => k_eqIntS H H' K (by rw [decide_eq_true rfl]; exact HK h (Fr.refl _ _))

theorem g_eqIntSS {S S' : Nat → Prop} {h : Heap} {a b : Sl} {xs : List (List Int)} (H : RdR S h a xs) (H' : RdR S' h b xs) : Ret Tryd.prog 60 #[a.v, b.v] h (VB true) := fun K HK => k_eqIntSS H H' K (by rw [decide_eq_true rfl]; exact HK h (Fr.refl _ _))

theorem nil_of_none {S : Nat → Prop} {h : Heap} {s : Sl} {xs : List Int} (H : RdI S h s xs) (hn : s.a = none) : xs = [] := by
  cases xs with
  | nil => rfl
  | cons x xs =>
    obtain ⟨a, ha, _⟩ := RdV.cell H 0 (by simp)
    rw [hn] at ha
    cases ha

/-- Every list of these is short. -/
def shortR (n : Nat) (xss : List (List Int)) : Prop := xss.length ≤ n ∧ ∀ l, l ∈ xss → l.length ≤ n
theorem tot_short {n : Nat} : ∀ {xss : List (List Int)} {m : Nat}, xss.length ≤ m → (∀ l, l ∈ xss → l.length ≤ n) → totR xss ≤ m * n
  | [], m, _, _ => by simp [totR]
  | x :: xs, 0, h, _ => by simp at h
  | x :: xs, m + 1, h, h2 => by
    have h3 := tot_short (n := n) (xss := xs) (m := m) (by simpa using h) fun l hl => h2 l (List.mem_cons_of_mem _ hl)
    have h4 := h2 x (by simp)
    have h5 : totR (x :: xs) = x.length + totR xs := by simp [totR]
    rw [h5, Nat.add_mul]
    omega
theorem short_of_tot {xss : List (List Int)} : ∀ l, l ∈ xss → l.length ≤ totR xss := by
  induction xss with
  | nil => intro l h; simp at h
  | cons x xs ih =>
    intro l hl
    have h5 : totR (x :: xs) = x.length + totR xs := by simp [totR]
    rcases List.mem_cons.1 hl with rfl | hl
    · omega
    · have := ih l hl; omega

def toldP (xss : List (List Int)) : List (List Int) := if graphB xss then xss else []
def addP (g : List (List Int)) (p q : Int) : List (List Int) × Bool :=
  if graphB g && inR 0 ((g.length : Int) - 1) p && inR 0 ((g.length : Int) - 1) q then (toldP (g.set p.toNat (g.getD p.toNat [] ++ [q])), graphB (g.set p.toNat (g.getD p.toNat [] ++ [q]))) else ([], false)
theorem inR_iff {lo hi x : Int} : inR lo hi x = true ↔ lo ≤ x ∧ x ≤ hi := by simp [inR]
theorem graph_len {g : List (List Int)} (h : graphB g = true) : 1 ≤ g.length ∧ g.length ≤ 8 := by
  unfold graphB at h
  rw [Bool.and_eq_true, inR_iff] at h
  omega
theorem graph_mem {g : List (List Int)} (h : graphB g = true) {l : List Int} (hl : l ∈ g) : l.length ≤ 5 ∧ ∀ x, x ∈ l → 0 ≤ x ∧ x < (g.length : Int) := by
  unfold graphB at h
  rw [Bool.and_eq_true] at h
  have := List.all_eq_true.1 h.2 l hl
  rw [Bool.and_eq_true] at this
  obtain ⟨h1, h2⟩ := this
  simp only [Bool.not_eq_true', decide_eq_false_iff_not] at h1
  refine ⟨by omega, fun x hx => ?_⟩
  have := List.all_eq_true.1 h2 x hx
  rw [inR_iff] at this
  omega
theorem graph_tot {g : List (List Int)} (h : graphB g = true) : totR g ≤ 40 := by
  have := tot_short (n := 5) (xss := g) (m := 8) (graph_len h).2 fun l hl => (graph_mem h hl).1
  omega
theorem toldP_tot (g : List (List Int)) : (toldP g).length + totR (toldP g) ≤ 48 := by
  unfold toldP
  split
  · rename_i h
    have := graph_tot h
    have := graph_len h
    omega
  · simp [totR]
theorem addP_tot (g : List (List Int)) (p q : Int) : (addP g p q).1.length + totR (addP g p q).1 ≤ 48 := by
  unfold addP
  split
  · exact toldP_tot _
  · simp [totR]
theorem getD_get {g : List (List Int)} {i : Nat} (h : i < g.length) : g.getD i [] = g[i] := by simp [List.getD, List.getElem?_eq_getElem h]

theorem totR_flat (xss : List (List Int)) : xss.flatten.length = totR xss := by simp [totR, List.length_flatten]

def rotL (l : List Int) (k : Nat) : List Int := l.drop (k % l.length) ++ l.take (k % l.length)
def turnP (g : List (List Int)) (p k : Int) : List (List Int) × Bool :=
  if graphB g && inR 0 ((g.length : Int) - 1) p && inR 0 1000 k then (g.set p.toNat (rotL (g.getD p.toNat []) k.toNat), true) else ([], false)
theorem rotL_length (l : List Int) (k : Nat) : (rotL l k).length = l.length := by
  unfold rotL
  simp
  rcases Nat.eq_zero_or_pos l.length with h | h
  · simp [h]
  · have := Nat.mod_lt k h
    omega
theorem rot_get (l : List Int) (j i : Nat) (h : i < l.length) (hj : j < l.length) : (l.drop j ++ l.take j)[i]? = l[(i + j) % l.length]? := by
  by_cases h1 : i < (l.drop j).length
  · rw [List.getElem?_append_left h1]
    simp only [List.length_drop] at h1
    rw [Nat.mod_eq_of_lt (by omega), List.getElem?_drop]
    congr 1
    omega
  · rw [List.getElem?_append_right (by omega)]
    simp only [List.length_drop] at h1 ⊢
    rw [Nat.mod_eq_sub_mod (by omega), Nat.mod_eq_of_lt (by omega), List.getElem?_take, if_pos (by omega)]
    congr 1
    omega
theorem rotL_get (l : List Int) (k i : Nat) (h : i < l.length) : (rotL l k)[i]'(by rw [rotL_length]; exact h) = l[(i + k) % l.length]'(Nat.mod_lt _ (by omega)) := by
  have hm := Nat.mod_lt k (show 0 < l.length by omega)
  have := rot_get l (k % l.length) i h hm
  rw [Nat.add_mod_mod, List.getElem?_eq_getElem (by simp; omega), List.getElem?_eq_getElem (Nat.mod_lt _ (by omega))] at this
  exact Option.some.inj this
theorem totR_set (xss : List (List Int)) (i : Nat) (ys : List Int) : totR (xss.set i ys) ≤ totR xss + ys.length := by
  induction xss generalizing i with
  | nil => simp [totR]
  | cons x xs ih =>
    cases i with
    | zero => simp [totR]; omega
    | succ i =>
      have := ih i
      simp only [totR, List.set_cons_succ, List.map_cons, List.sum_cons] at *
      omega
theorem turnP_tot (g : List (List Int)) (p k : Int) : (turnP g p k).1.length + totR (turnP g p k).1 ≤ 100 := by
  unfold turnP
  split
  · rename_i h
    rw [Bool.and_eq_true, Bool.and_eq_true, inR_iff, inR_iff] at h
    obtain ⟨⟨h1, h2, h3⟩, _⟩ := h
    have a := graph_tot h1
    have b := graph_len h1
    have c := totR_set g p.toNat (rotL (g.getD p.toNat []) k.toNat)
    rw [rotL_length, getD_get (by omega)] at c
    have d := (graph_mem h1 (List.getElem_mem (show p.toNat < g.length by omega))).1
    simp only [List.length_set]
    rw [getD_get (by omega)]
    omega
  · simp [totR]
theorem tmod_nat {k n : Int} (h0 : 0 ≤ k) (hn : 0 ≤ n) : Int.tmod k n = ((k.toNat % n.toNat : Nat) : Int) := by
  obtain ⟨a, rfl⟩ := Int.eq_ofNat_of_zero_le h0
  obtain ⟨b, rfl⟩ := Int.eq_ofNat_of_zero_le hn
  rfl

/-- A walk's state: its rotors and its place. -/
abbrev St := List Int × Int
def stepP (g : List (List Int)) (w : St) : Option St :=
  if (g.getD w.2.toNat []).length = 0 then none
  else some (w.1.set w.2.toNat ((((w.1.getD w.2.toNat 0).toNat + 1) % (g.getD w.2.toNat []).length : Nat) : Int), (g.getD w.2.toNat []).getD (((w.1.getD w.2.toNat 0).toNat + 1) % (g.getD w.2.toNat []).length) 0)
structure WOK (g : List (List Int)) (w : St) : Prop where
  graph : graphB g = true
  len : w.1.length = g.length
  lo : 0 ≤ w.2
  hi : w.2 < (g.length : Int)
  rot : ∀ i (h : i < w.1.length) (h' : i < g.length), 0 ≤ w.1[i] ∧ w.1[i] ≤ max ((g[i].length : Int) - 1) 0
theorem wok_of {g : List (List Int)} {rs : List Int} {p : Int} (h : walkB g rs p = true) : WOK g (rs, p) := by
  unfold walkB at h
  simp only [Bool.and_eq_true, decide_eq_true_eq] at h
  obtain ⟨⟨⟨h1, h2⟩, h3⟩, h4⟩ := h
  rw [inR_iff] at h2
  refine ⟨h1, h3, h2.1, by simp only; omega, fun i a b => ?_⟩
  have := List.all_eq_true.1 h4 (g[i], rs[i]) (by
    rw [show (g[i], rs[i]) = (g.zip rs)[i]'(by simp only [List.length_zip]; simp only at a; omega) by simp]
    exact List.getElem_mem _)
  unfold rotB at this
  rw [inR_iff] at this
  exact this
theorem stepP_none {g : List (List Int)} {w : St} (W : WOK g w) (hp : w.2.toNat < g.length) : (g[w.2.toNat]).length = 0 → stepP g w = none := fun h => by
  unfold stepP
  rw [getD_get hp, if_pos h]
theorem getD_getI {xs : List Int} {i : Nat} (h : i < xs.length) : xs.getD i 0 = xs[i] := by simp [List.getD, List.getElem?_eq_getElem h]
theorem stepP_some {g : List (List Int)} {w : St} (W : WOK g w) (hp : w.2.toNat < g.length) (hr : w.2.toNat < w.1.length) (h : (g[w.2.toNat]).length ≠ 0) :
    stepP g w = some (w.1.set w.2.toNat ((((w.1[w.2.toNat]).toNat + 1) % (g[w.2.toNat]).length : Nat) : Int), (g[w.2.toNat])[((w.1[w.2.toNat]).toNat + 1) % (g[w.2.toNat]).length]'(Nat.mod_lt _ (by omega))) := by
  unfold stepP
  rw [getD_get hp, if_neg h, getD_getI hr, getD_getI (Nat.mod_lt _ (by omega))]
theorem WOK.step {g : List (List Int)} {w w' : St} (W : WOK g w) (h : stepP g w = some w') : WOK g w' := by
  have hp : w.2.toNat < g.length := by have := W.hi; have := W.lo; omega
  have hr : w.2.toNat < w.1.length := by rw [W.len]; exact hp
  by_cases h0 : (g[w.2.toNat]).length = 0
  · rw [stepP_none W hp h0] at h; cases h
  · rw [stepP_some W hp hr h0] at h
    have hm := Nat.mod_lt ((w.1[w.2.toNat]).toNat + 1) (show 0 < (g[w.2.toNat]).length by omega)
    simp only [Option.some.injEq] at h
    subst h
    have hmem := (graph_mem W.graph (List.getElem_mem hp)).2 _ (List.getElem_mem hm)
    refine ⟨W.graph, by simpa using W.len, hmem.1, hmem.2, fun i a b => ?_⟩
    simp only [List.length_set] at a
    simp only [List.getElem_set]
    split
    · rename_i e
      subst e
      omega
    · exact W.rot i a b

def firstGo {τ : Type} (g : List (List Int)) (test : τ → St → Bool × τ) (frm : Int) : Nat → Int → τ → St → Int × Bool
  | 0, _, _, _ => (0, false)
  | f + 1, n, t, s =>
    if frm ≤ n then
      if (test t s).1 then (n, true)
      else match stepP g s with
        | none => (0, false)
        | some s' => firstGo g test frm f (n + 1) (test t s).2 s'
    else match stepP g s with
      | none => (0, false)
      | some s' => firstGo g test frm f (n + 1) t s'

def hitP (g : List (List Int)) (rs : List Int) (p q : Int) : Int × Bool :=
  if walkB g rs p && (graphB g && inR 0 ((g.length : Int) - 1) q) then firstGo g (fun (_ : Unit) s => (decide (s.2 = q), ())) 0 2001 0 () (rs, p) else (0, false)
theorem rdI_not {S : Nat → Prop} {h : Heap} {s : Sl} {xs : List Int} (H : RdI S h s xs) {b : Nat} (hb : h.size ≤ b) : RdI (fun k => k ≠ b) h s xs := H.low.mono fun k hk => by omega

def metT (met : List Bool) (s : St) : Bool × List Bool := (!((met.set s.2.toNat true).any (false == ·)), met.set s.2.toNat true)
def coverP (g : List (List Int)) (rs : List Int) (p : Int) : Int × Bool :=
  if walkB g rs p then firstGo g metT 0 2001 0 (List.replicate g.length false) (rs, p) else (0, false)

def sameT (rs : List Int) (p : Int) (_ : Unit) (s : St) : Bool × Unit := (decide (p = s.2 ∧ rs = s.1), ())
def recP (g : List (List Int)) (rs : List Int) (p : Int) : Bool × Bool :=
  if walkB g rs p then ((firstGo g (sameT rs p) 1 2001 0 () (rs, p)).2, true) else (false, false)
theorem first_pos (g : List (List Int)) (test : Unit → St → Bool × Unit) : ∀ (f : Nat) (n : Int) (s : St), 0 ≤ n → (firstGo g test 1 f n () s).2 = decide (0 < (firstGo g test 1 f n () s).1)
  | 0, n, s, _ => by simp [firstGo]
  | f + 1, n, s, h => by
    rw [firstGo]
    split
    · split
      · have : 0 < n := by omega
        simp [this]
      · split
        · simp
        · exact first_pos g test f (n + 1) _ (by omega)
    · split
      · simp
      · exact first_pos g test f (n + 1) _ (by omega)

def runT {τ : Type} (g : List (List Int)) (upd : τ → St → St → τ) : Nat → τ → St → Option (τ × St)
  | 0, t, s => some (t, s)
  | n + 1, t, s => match stepP g s with
    | none => none
    | some s' => runT g upd n (upd t s s') s'

theorem runT_snoc {τ : Type} {g : List (List Int)} {upd : τ → St → St → τ} {s'' : St} : ∀ (n : Nat) (t : τ) (s : St) (t' : τ) (s' : St), runT g upd n t s = some (t', s') → stepP g s' = some s'' → runT g upd (n + 1) t s = some (upd t' s' s'', s'')
  | 0, t, s, t', s', h, hs => by
    simp only [runT, Option.some.injEq, Prod.mk.injEq] at h
    obtain ⟨rfl, rfl⟩ := h
    rw [runT, hs]
    rfl
  | n + 1, t, s, t', s', h, hs => by
    rw [runT] at h
    rw [runT]
    split at h
    · cases h
    · rename_i s2 h2
      exact runT_snoc n _ _ _ _ h hs

def runOfP (g : List (List Int)) (rs : List Int) (p n : Int) : St × Bool :=
  if walkB g rs p && inR 0 2000 n then match runT g (fun (_ : Unit) _ _ => ()) n.toNat () (rs, p) with
    | none => (([], 0), false)
    | some (_, s) => (s, true)
  else (([], 0), false)
theorem run_len {τ : Type} {g : List (List Int)} {upd : τ → St → St → τ} : ∀ (n : Nat) (t : τ) (s : St), WOK g s → ∀ t' s', runT g upd n t s = some (t', s') → WOK g s'
  | 0, t, s, W, t', s', h => by
    simp only [runT, Option.some.injEq, Prod.mk.injEq] at h
    rw [← h.2]; exact W
  | n + 1, t, s, W, t', s', h => by
    rw [runT] at h
    split at h
    · cases h
    · rename_i s2 hs
      exact run_len n _ s2 (W.step hs) t' s' h
theorem runOfP_len (g : List (List Int)) (rs : List Int) (p n : Int) : (runOfP g rs p n).1.1.length ≤ 8 := by
  unfold runOfP
  split
  · rename_i h
    rw [Bool.and_eq_true] at h
    have W := wok_of h.1
    split
    · simp
    · rename_i s hs
      have W2 := run_len _ _ _ W _ _ hs
      have := graph_len W2.graph
      have := W2.len
      simp only
      omega
  · simp

/-- A run: its end, what was passed, visits, uses. -/
structure Rn where
  s : St
  ps : List Int
  vs : List Int
  us : List (List Int)
def bump (l : List Int) (i : Nat) : List Int := l.set i (l.getD i 0 + 1)
def goP (g : List (List Int)) : Nat → Rn → Option Rn
  | 0, r => some r
  | n + 1, r => match stepP g r.s with
    | none => none
    | some s' => goP g n ⟨s', r.ps ++ [s'.2], bump r.vs s'.2.toNat, r.us.set r.s.2.toNat (bump (r.us.getD r.s.2.toNat []) (s'.1.getD r.s.2.toNat 0).toNat)⟩
def zerosR (g : List (List Int)) : List (List Int) := g.map fun l => List.replicate l.length 0
def go0 (g : List (List Int)) (s : St) : Rn := ⟨s, [s.2], List.replicate g.length 0, zerosR g⟩
/-- What holds of a run on its way. -/
structure RnOK (g : List (List Int)) (m : Nat) (r : Rn) : Prop where
  w : WOK g r.s
  ps : r.ps.length = m + 1
  vs : r.vs.length = g.length
  us : r.us.length = g.length
  row : ∀ i (h : i < r.us.length) (h' : i < g.length), r.us[i].length = g[i].length
  vb : ∀ x, x ∈ r.vs → 0 ≤ x ∧ x ≤ m
  ub : ∀ l, l ∈ r.us → ∀ x, x ∈ l → 0 ≤ x ∧ x ≤ m
theorem bump_length (l : List Int) (i : Nat) : (bump l i).length = l.length := by simp [bump]
theorem bump_mem {l : List Int} {i m : Nat} (h : ∀ x, x ∈ l → 0 ≤ x ∧ x ≤ (m : Int)) : ∀ x, x ∈ bump l i → 0 ≤ x ∧ x ≤ ((m + 1 : Nat) : Int) := by
  intro x hx
  unfold bump at hx
  rcases List.mem_or_eq_of_mem_set hx with hx | rfl
  · have := h x hx; omega
  · by_cases hi : i < l.length
    · rw [getD_getI hi]
      have := h _ (List.getElem_mem hi)
      omega
    · rw [show l.getD i 0 = 0 by simp [List.getD, List.getElem?_eq_none (by omega : l.length ≤ i)]]
      omega
theorem RnOK.step {g : List (List Int)} {m : Nat} {r : Rn} (R : RnOK g m r) {s' : St} (hs : stepP g r.s = some s') : RnOK g (m + 1) ⟨s', r.ps ++ [s'.2], bump r.vs s'.2.toNat, r.us.set r.s.2.toNat (bump (r.us.getD r.s.2.toNat []) (s'.1.getD r.s.2.toNat 0).toNat)⟩ := by
  have hp : r.s.2.toNat < r.us.length := by rw [R.us]; have := R.w.hi; have := R.w.lo; omega
  refine ⟨R.w.step hs, by simp [R.ps], by simp [bump_length, R.vs], by simp [R.us], fun i a b => ?_, bump_mem R.vb, fun l hl => ?_⟩
  · simp only [List.length_set] at a
    simp only [List.getElem_set]
    split
    · rename_i e
      subst e
      rw [bump_length, getD_get hp]
      exact R.row _ a b
    · exact R.row i a b
  · rcases List.mem_or_eq_of_mem_set hl with hl | rfl
    · exact fun x hx => by have := R.ub l hl x hx; omega
    · rw [getD_get hp]
      exact bump_mem (R.ub _ (List.getElem_mem hp))
theorem go0_ok {g : List (List Int)} {s : St} (W : WOK g s) : RnOK g 0 (go0 g s) := by
  refine ⟨W, rfl, by simp [go0], by simp [go0, zerosR], fun i a b => by simp [go0, zerosR], fun x hx => ?_, fun l hl x hx => ?_⟩
  · simp only [go0, List.mem_replicate] at hx
    omega
  · simp only [go0, zerosR, List.mem_map] at hl
    obtain ⟨l', _, rfl⟩ := hl
    simp only [List.mem_replicate] at hx
    omega

def nextR (r : Rn) (s' : St) : Rn := ⟨s', r.ps ++ [s'.2], bump r.vs s'.2.toNat, r.us.set r.s.2.toNat (bump (r.us.getD r.s.2.toNat []) (s'.1.getD r.s.2.toNat 0).toNat)⟩
/-- A run that keeps one thing is the run that keeps all of them, seen from there. -/
theorem go_run {τ : Type} (g : List (List Int)) (f : Rn → τ) (upd : τ → St → St → τ) (hf : ∀ r s', f (nextR r s') = upd (f r) r.s s') : ∀ (n : Nat) (r : Rn), runT g upd n (f r) r.s = (goP g n r).map fun r => (f r, r.s)
  | 0, r => by simp [runT, goP]
  | n + 1, r => by
    rw [runT, goP]
    cases stepP g r.s with
    | none => rfl
    | some s' =>
      show runT g upd n (upd (f r) r.s s') s' = (goP g n (nextR r s')).map _
      rw [← go_run g f upd hf n (nextR r s'), hf]
      rfl

def passU (t : List Int) (_ s' : St) : List Int := t ++ [s'.2]
def passP (g : List (List Int)) (rs : List Int) (p n : Int) : List Int × Bool :=
  if walkB g rs p && inR 0 200 n then match runT g passU n.toNat [p] (rs, p) with
    | none => ([], false)
    | some (t, _) => (t, true)
  else ([], false)
def visU (t : List Int) (_ s' : St) : List Int := bump t s'.2.toNat
def visP (g : List (List Int)) (rs : List Int) (p n : Int) : List Int × Bool :=
  if walkB g rs p && inR 0 2000 n then match runT g visU n.toNat (List.replicate g.length 0) (rs, p) with
    | none => ([], false)
    | some (t, _) => (t, true)
  else ([], false)
def useU (t : List (List Int)) (s s' : St) : List (List Int) := t.set s.2.toNat (bump (t.getD s.2.toNat []) (s'.1.getD s.2.toNat 0).toNat)
def useP (g : List (List Int)) (rs : List Int) (p n : Int) : List (List Int) × Bool :=
  if walkB g rs p && inR 0 2000 n then match runT g useU n.toNat (zerosR g) (rs, p) with
    | none => ([], false)
    | some (t, _) => (t, true)
  else ([], false)

theorem passP_len (g : List (List Int)) (rs : List Int) (p n : Int) : (passP g rs p n).1.length ≤ 201 := by
  unfold passP
  split
  · rename_i h
    rw [Bool.and_eq_true, inR_iff] at h
    have key : ∀ (m : Nat) (t : List Int) (s : St) (t' : List Int) (s' : St), runT g passU m t s = some (t', s') → t'.length = t.length + m := by
      intro m
      induction m with
      | zero =>
        intro t s t' s' h
        simp only [runT, Option.some.injEq, Prod.mk.injEq] at h
        rw [h.1]
        rfl
      | succ m ih =>
        intro t s t' s' h
        rw [runT] at h
        split at h
        · cases h
        · have := ih _ _ _ _ h
          simp [passU] at this
          omega
    split
    · simp
    · rename_i t s hs
      have := key _ _ _ _ _ hs
      simp at this
      simp only
      omega
  · simp

theorem wf_ok {n : Int} (h0 : -9223372036854775808 ≤ n) (h1 : n < 9223372036854775808) : (Lit.int .i64 n).wf = true := by
  have a0 : IntKind.i64.min = -9223372036854775808 := rfl
  have a1 : IntKind.i64.max = 9223372036854775807 := rfl
  simp only [Lit.wf, Bool.and_eq_true, decide_eq_true_eq, a0, a1]
  omega

theorem eop_putI {L : List (Nat × List Value)} {F : Nat → Prop} {h : Heap} {o : Sl} {xs : List Int} {x : Int} (O : OwI h F o xs) (hF : ∀ k, h.size ≤ k → F k) (hL : Vars h L) (hoff : ∀ p, p ∈ L → ¬ F p.1) (hb : xs.length ≤ 1000000) (R : Sl → Heap → Prop) (HR : ∀ t h', OwI h' F t (xs ++ [x]) → Fr F h h' → Vars h' L → R t h') : eop Tryd.prog (Instr.buildSlice tIs 1 #[(0, VI x)]) h fun rv h1 => ∃ t : Sl, rv = t.v ∧ Vars h1 L ∧ eop Tryd.prog (appS tIs tIs tIs o.v t.v) h1 fun rv2 h2 => ∃ t2 : Sl, rv2 = t2.v ∧ Vars h2 L ∧ R t2 h2 := by
  refine eop_lit rIs (fun k => h.size ≤ k) (fun _ h => h) 1 (by omega) [VI x] rfl rfl fun t h1 n1 c1 o1 f1 m1 _ => ⟨t, rfl, hL.of_no f1, ?_⟩
  have z1 := f1.size
  have O1 : OwI h1 F o xs := Ow.no O f1
  have on := O1.rd.len
  have tn := o1.rd.len
  simp only [List.length_map, Nat.mul_one, List.length_cons, List.length_nil] at on tn
  refine eop_append rIs O1 (fun k hk => hF k (by omega)) o1.rd (plainVI [x]) (by omega) fun s' h2 n2 o2 f2 d2 => ?_
  have g2 : Fr F h1 h2 := f2.mono fun k _ hk => (O1.foot hk).1
  have V2 : Vars h2 L := (hL.of_no f1).fr g2 hoff
  exact ⟨s', rfl, V2, HR s' h2 (by rw [OwI, List.map_append]; exact o2) (f1.of_no.trans g2) V2⟩

theorem php : ∀ (N : Nat) (f : Nat → Nat), (∀ i, i ≤ N → f i < N) → ∃ i j, i < j ∧ j ≤ N ∧ f i = f j
  | 0, f, h => by have := h 0 (Nat.le_refl _); omega
  | N + 1, f, h => by
    by_cases hx : ∃ i, i ≤ N ∧ f i = f (N + 1)
    · obtain ⟨i, h1, h2⟩ := hx
      exact ⟨i, N + 1, by omega, Nat.le_refl _, h2⟩
    · have hx : ∀ i, i ≤ N → f i ≠ f (N + 1) := fun i h1 h2 => hx ⟨i, h1, h2⟩
      obtain ⟨i, j, h1, h2, h3⟩ := php N (fun i => if f i = N then f (N + 1) else f i) fun i hi => by
        have a := h i (by omega)
        have b := h (N + 1) (by omega)
        have c := hx i hi
        (try simp only)
        split <;> omega
      refine ⟨i, j, h1, by omega, ?_⟩
      have a := hx i (by omega)
      have b := hx j h2
      (try simp only at h3)
      split at h3 <;> split at h3 <;> omega
def nx (g : List (List Int)) (rs : List Int) (p : Int) : Int := if p < 0 then -1 else if (g.getD p.toNat []).length = 0 then -1 else (g.getD p.toNat []).getD (rs.getD p.toNat 0).toNat 0
def itx (g : List (List Int)) (rs : List Int) (p : Int) : Nat → Int
  | 0 => p
  | k + 1 => nx g rs (itx g rs p k)
section
variable {g : List (List Int)} {rs : List Int} {a : Int}
theorem nx_some (W : WOK g (rs, a)) {p : Int} (h0 : 0 ≤ p) (h1 : p < (g.length : Int)) (hne : (g[p.toNat]'(by omega)).length ≠ 0) : ∃ (hr : p.toNat < rs.length) (hm : (rs[p.toNat]).toNat < (g[p.toNat]'(by omega)).length), 0 ≤ rs[p.toNat] ∧ nx g rs p = (g[p.toNat]'(by omega))[(rs[p.toNat]).toNat] := by
  have hl : rs.length = g.length := W.len
  have hr : p.toNat < rs.length := by omega
  have h := W.rot p.toNat hr (by omega)
  have h2 : 0 ≤ rs[p.toNat] := h.1
  have h3 : rs[p.toNat] ≤ max (((g[p.toNat]'(by omega)).length : Int) - 1) 0 := h.2
  refine ⟨hr, by omega, h2, ?_⟩
  unfold nx
  rw [if_neg (by omega), getD_get (by omega), if_neg hne, getD_getI hr, getD_getI (by omega)]
theorem nx_none {p : Int} (h0 : 0 ≤ p) (h1 : p < (g.length : Int)) (hne : (g[p.toNat]'(by omega)).length = 0) : nx g rs p = -1 := by
  unfold nx
  rw [if_neg (by omega), getD_get (by omega), if_pos hne]
theorem nx_neg {p : Int} (h : p < 0) : nx g rs p = -1 := by unfold nx; rw [if_pos h]
theorem nx_lt (W : WOK g (rs, a)) {p : Int} (h1 : p < (g.length : Int)) : -1 ≤ nx g rs p ∧ nx g rs p < (g.length : Int) := by
  by_cases h0 : p < 0
  · rw [nx_neg h0]; omega
  by_cases hne : (g[p.toNat]'(by omega)).length = 0
  · rw [nx_none (by omega) h1 hne]; omega
  · obtain ⟨hr, hm, h2, e⟩ := nx_some W (by omega) h1 hne
    rw [e]
    have := (graph_mem W.graph (List.getElem_mem (show p.toNat < g.length by omega))).2 _ (List.getElem_mem hm)
    omega
theorem itx_lt (W : WOK g (rs, a)) {p : Int} (h0 : 0 ≤ p) (h1 : p < (g.length : Int)) : ∀ k, -1 ≤ itx g rs p k ∧ itx g rs p k < (g.length : Int)
  | 0 => by simp only [itx]; omega
  | k + 1 => by simp only [itx]; exact nx_lt W (itx_lt W h0 h1 k).2
theorem itx_negs {p : Int} {k : Nat} (h : itx g rs p k < 0) : ∀ m, itx g rs p (k + m) < 0
  | 0 => h
  | m + 1 => by
    rw [← Nat.add_assoc, itx, nx_neg (itx_negs h m)]
    omega
theorem itx_neg_mono {p : Int} {k m : Nat} (h : itx g rs p k < 0) (hm : k ≤ m) : itx g rs p m < 0 := by
  have := itx_negs h (m - k)
  rwa [show k + (m - k) = m by omega] at this
theorem itx_shift {p : Int} {i j : Nat} (h : itx g rs p i = itx g rs p j) : ∀ m, itx g rs p (i + m) = itx g rs p (j + m)
  | 0 => h
  | m + 1 => by rw [← Nat.add_assoc, ← Nat.add_assoc, itx, itx, itx_shift h m]
theorem itx_per {p : Int} {i d : Nat} (h : itx g rs p i = itx g rs p (i + d)) (r : Nat) : ∀ c, itx g rs p (i + r + d * c) = itx g rs p (i + r)
  | 0 => rfl
  | c + 1 => by
    have := itx_shift h (r + d * c)
    rw [show i + r + d * (c + 1) = i + d + (r + d * c) by rw [Nat.mul_succ]; omega, ← this, ← Nat.add_assoc]
    exact itx_per h r c
theorem itx_mod {p : Int} {i d : Nat} (h : itx g rs p i = itx g rs p (i + d)) (r : Nat) : itx g rs p (i + r) = itx g rs p (i + r % d) := by
  have := itx_per h (r % d) (r / d)
  rw [Nat.add_assoc, Nat.mod_add_div] at this
  exact this
theorem itx_cyc (W : WOK g (rs, a)) {p : Int} (h0 : 0 ≤ p) (h1 : p < (g.length : Int)) (h : 0 ≤ itx g rs p g.length) : ∃ i d, 1 ≤ d ∧ i + d ≤ g.length ∧ itx g rs p i = itx g rs p (i + d) := by
  have hn : ∀ k, k ≤ g.length → 0 ≤ itx g rs p k := fun k hk => by
    by_cases hx : itx g rs p k < 0
    · have := itx_neg_mono hx hk; omega
    · omega
  obtain ⟨i, j, e1, e2, e3⟩ := php g.length (fun k => (itx g rs p k).toNat) fun k hk => by
    have := hn k hk
    have := (itx_lt W h0 h1 k).2
    (try simp only)
    omega
  refine ⟨i, j - i, by omega, by omega, ?_⟩
  rw [show i + (j - i) = j by omega]
  have := hn i (by omega)
  have := hn j e2
  (try simp only at e3)
  omega
theorem itx_nn (W : WOK g (rs, a)) {p : Int} (h0 : 0 ≤ p) (h1 : p < (g.length : Int)) (h : 0 ≤ itx g rs p g.length) (k : Nat) : 0 ≤ itx g rs p k := by
  have hn : ∀ k, k ≤ g.length → 0 ≤ itx g rs p k := fun k hk => by
    by_cases hx : itx g rs p k < 0
    · have := itx_neg_mono hx hk; omega
    · omega
  obtain ⟨i, d, e1, e2, e3⟩ := itx_cyc W h0 h1 h
  by_cases hk : k ≤ g.length
  · exact hn k hk
  · have := itx_mod e3 (k - i)
    rw [show i + (k - i) = k by omega] at this
    rw [this]
    have := Nat.mod_lt (k - i) (show 0 < d by omega)
    exact hn _ (by omega)
/-- The places of a cycle, from where it is closed. -/
theorem cyc_mem {p : Int} {i d n : Nat} (h : itx g rs p i = itx g rs p (i + d)) (hd : 1 ≤ d) (hi : i ≤ n) (x : Int) : x ∈ (List.range d).map (fun r => itx g rs p (i + r)) ↔ ∃ k, n ≤ k ∧ itx g rs p k = x := by
  simp only [List.mem_map, List.mem_range]
  constructor
  · rintro ⟨r, hr, rfl⟩
    refine ⟨i + r + d * n, ?_, itx_per h r n⟩
    have : 1 * n ≤ d * n := Nat.mul_le_mul_right _ hd
    omega
  · rintro ⟨k, hk, rfl⟩
    refine ⟨(k - i) % d, Nat.mod_lt _ hd, ?_⟩
    rw [← itx_mod h]
    congr 1
    omega
end
noncomputable def uniB (g : List (List Int)) (rs : List Int) (a : Int) : Bool := @decide (∀ p : Nat, p < g.length → 0 ≤ itx g rs p g.length ∧ ∃ k, g.length ≤ k ∧ itx g rs p k = a) (Classical.propDecidable _)
theorem uniB_t {g : List (List Int)} {rs : List Int} {a : Int} (h : ∀ p : Nat, p < g.length → 0 ≤ itx g rs p g.length ∧ ∃ k, g.length ≤ k ∧ itx g rs p k = a) : uniB g rs a = true := by unfold uniB; exact @decide_eq_true _ (Classical.propDecidable _) h
theorem uniB_f {g : List (List Int)} {rs : List Int} {a : Int} (h : ¬ ∀ p : Nat, p < g.length → 0 ≤ itx g rs p g.length ∧ ∃ k, g.length ≤ k ∧ itx g rs p k = a) : uniB g rs a = false := by unfold uniB; exact @decide_eq_false _ (Classical.propDecidable _) h

noncomputable def uniT (g : List (List Int)) (_ : Unit) (s : St) : Bool × Unit := (uniB g s.1 s.2, ())
noncomputable def toUniP (g : List (List Int)) (rs : List Int) (p : Int) : Int × Bool := if walkB g rs p then firstGo g (uniT g) 0 2001 0 () (rs, p) else (0, false)

def itf (f : Int → Int) (p : Int) : Nat → Int
  | 0 => p
  | k + 1 => f (itf f p k)
def orb (f : Int → Int) (p : Int) (m : Nat) : List Int := (List.range m).map (itf f p)
/-- The first return, looked for from m on, so many times. -/
def ret (f : Int → Int) (p : Int) : Nat → Nat → Option Nat
  | 0, _ => none
  | r + 1, m => if itf f p m = p then some m else ret f p r (m + 1)
def lstI (xs : List Int) : Nat → Nat
  | 0 => 0
  | i + 1 => if xs.getD i 0 < xs.getD (lstI xs i) 0 then i else lstI xs i
def turnL (xs : List Int) : List Int := xs.drop (lstI xs xs.length) ++ xs.take (lstI xs xs.length)
def cyP (f : Int → Int) (n : Nat) (p : Int) : List Int := match ret f p (n + 1) 1 with
  | some k => turnL (orb f p k)
  | none => []
theorem orb_length (f : Int → Int) (p : Int) (m : Nat) : (orb f p m).length = m := by simp [orb]
theorem orb_succ (f : Int → Int) (p : Int) (m : Nat) : orb f p (m + 1) = orb f p m ++ [itf f p m] := by simp [orb, List.range_succ]
theorem orb_get (f : Int → Int) (p : Int) (m i : Nat) (h : i < (orb f p m).length) : (orb f p m)[i] = itf f p i := by simp [orb]
theorem lstI_spec (xs : List Int) : ∀ i, (∀ j, j < i → xs.getD (lstI xs i) 0 ≤ xs.getD j 0) ∧ (∀ j, j < lstI xs i → xs.getD (lstI xs i) 0 < xs.getD j 0) ∧ (lstI xs i < i ∨ i = 0 ∧ lstI xs i = 0)
  | 0 => ⟨fun j h => by omega, fun j h => by simp [lstI] at h, .inr ⟨rfl, rfl⟩⟩
  | i + 1 => by
    obtain ⟨h1, h2, h3⟩ := lstI_spec xs i
    rw [lstI]
    split
    · rename_i h
      refine ⟨fun j hj => ?_, fun j hj => ?_, by omega⟩
      · by_cases hji : j = i
        · rw [hji]; omega
        · have := h1 j (by omega); omega
      · have := h1 j hj; omega
    · rename_i h
      refine ⟨fun j hj => ?_, h2, by omega⟩
      by_cases hji : j = i
      · rw [hji]; omega
      · exact h1 j (by omega)
theorem least_eq {xs : List Int} {l : Nat} (hl : l < xs.length) (h1 : ∀ j, j < xs.length → xs.getD l 0 ≤ xs.getD j 0) (h2 : ∀ j, j < l → xs.getD l 0 < xs.getD j 0) : l = lstI xs xs.length := by
  obtain ⟨a, b, c⟩ := lstI_spec xs xs.length
  rcases Nat.lt_trichotomy l (lstI xs xs.length) with h | h | h
  · have := b l h; have := h1 (lstI xs xs.length) (by omega); omega
  · exact h
  · have := h2 _ h; have := a l hl; omega
theorem turnL_length (xs : List Int) : (turnL xs).length = xs.length := by simp [turnL]; omega
theorem mem_turnL {xs : List Int} {x : Int} : x ∈ turnL xs ↔ x ∈ xs := by
  unfold turnL
  rw [List.mem_append, or_comm, ← List.mem_append, List.take_append_drop]
theorem ret_some {f : Int → Int} {p : Int} : ∀ (r m k : Nat), ret f p r m = some k → m ≤ k ∧ k < m + r ∧ itf f p k = p ∧ ∀ j, m ≤ j → j < k → itf f p j ≠ p
  | 0, m, k, h => by simp [ret] at h
  | r + 1, m, k, h => by
    rw [ret] at h
    split at h
    · simp only [Option.some.injEq] at h
      subst h
      exact ⟨Nat.le_refl _, by omega, by assumption, fun j a b => by omega⟩
    · rename_i h0
      obtain ⟨a, b, c, d⟩ := ret_some r (m + 1) k h
      refine ⟨by omega, by omega, c, fun j h1 h2 => ?_⟩
      by_cases hj : j = m
      · rw [hj]; exact h0
      · exact d j (by omega) h2
theorem itf_shift {f : Int → Int} {p : Int} {i j : Nat} (h : itf f p i = itf f p j) : ∀ m, itf f p (i + m) = itf f p (j + m)
  | 0 => h
  | m + 1 => by rw [← Nat.add_assoc, ← Nat.add_assoc, itf, itf, itf_shift h m]
theorem cyP_cases (f : Int → Int) (n : Nat) (p : Int) : cyP f n p = [] ∨ ∃ k, 1 ≤ k ∧ k ≤ n + 1 ∧ itf f p k = p ∧ (∀ j, 1 ≤ j → j < k → itf f p j ≠ p) ∧ cyP f n p = turnL (orb f p k) := by
  unfold cyP
  cases h : ret f p (n + 1) 1 with
  | none => exact .inl rfl
  | some k =>
    obtain ⟨a, b, c, d⟩ := ret_some _ _ _ h
    exact .inr ⟨k, a, by omega, c, d, rfl⟩
theorem nodup_turnL {xs : List Int} (h : xs.Nodup) : (turnL xs).Nodup := by
  unfold turnL
  exact (List.perm_append_comm.trans (List.Perm.of_eq (List.take_append_drop _ _))).nodup_iff.2 h
theorem orb_nodup {f : Int → Int} {p : Int} {k : Nat} (h1 : itf f p k = p) (h2 : ∀ j, 1 ≤ j → j < k → itf f p j ≠ p) : (orb f p k).Nodup := by
  unfold List.Nodup
  rw [List.pairwise_iff_getElem]
  intro i j hi hj hij e
  rw [orb_get, orb_get] at e
  rw [orb_length] at hj
  have := itf_shift e (k - j)
  rw [show j + (k - j) = k by omega, h1] at this
  exact h2 (i + (k - j)) (by omega) (by omega) this
theorem cyP_nodup (f : Int → Int) (n : Nat) (p : Int) : (cyP f n p).Nodup := by
  rcases cyP_cases f n p with h | ⟨k, _, _, h1, h2, e⟩
  · rw [h]; exact List.nodup_nil
  · rw [e]; exact nodup_turnL (orb_nodup h1 h2)
theorem cyP_len (f : Int → Int) (n : Nat) (p : Int) : (cyP f n p).length ≤ n + 1 := by
  rcases cyP_cases f n p with h | ⟨k, _, h0, h1, h2, e⟩
  · rw [h]; simp
  · rw [e, turnL_length, orb_length]; exact h0

/-! Stacks -/
def sx (g S : List (List Int)) (p : Int) : Int := if p < 0 then -1 else if (S.getD p.toNat []).length = 0 then -1 else (g.getD p.toNat []).getD ((S.getD p.toNat []).getD 0 0).toNat 0
structure SOK (g S : List (List Int)) : Prop where
  graph : graphB g = true
  len : S.length = g.length
  short : ∀ i (h : i < S.length), S[i].length ≤ 12
  ent : ∀ i (h : i < S.length) (h' : i < g.length), ∀ x, x ∈ S[i] → 0 ≤ x ∧ x < (g[i].length : Int)
def stackB (g : List (List Int)) (sink : Int) (S : List (List Int)) : Bool := (graphB g && inR 0 ((g.length : Int) - 1) sink) && (decide (S.length = g.length) && (decide ((S.getD sink.toNat []).length = 0) && (g.zip S).all fun q => !decide (12 < (q.2.length : Int)) && q.2.all (inR 0 ((q.1.length : Int) - 1))))
theorem stack_of {g S : List (List Int)} {sink : Int} (h : stackB g sink S = true) : SOK g S ∧ 0 ≤ sink ∧ sink < (g.length : Int) ∧ (S.getD sink.toNat []).length = 0 := by
  unfold stackB at h
  simp only [Bool.and_eq_true, decide_eq_true_eq, inR_iff] at h
  obtain ⟨⟨h1, h2, h3⟩, h4, h5, h6⟩ := h
  have key : ∀ i (a : i < S.length) (b : i < g.length), S[i].length ≤ 12 ∧ ∀ x, x ∈ S[i] → 0 ≤ x ∧ x < (g[i].length : Int) := fun i a b => by
    have := List.all_eq_true.1 h6 (g[i], S[i]) (by
      rw [show (g[i], S[i]) = (g.zip S)[i]'(by simp only [List.length_zip]; omega) by simp]
      exact List.getElem_mem _)
    simp only [Bool.and_eq_true, Bool.not_eq_true', decide_eq_false_iff_not] at this
    refine ⟨by omega, fun x hx => ?_⟩
    have := List.all_eq_true.1 this.2 x hx
    rw [inR_iff] at this
    omega
  exact ⟨⟨h1, h4, fun i a => (key i a (by omega)).1, fun i a b => (key i a b).2⟩, h2, by omega, h5⟩
section
variable {g S : List (List Int)}
theorem sx_some (W : SOK g S) {p : Int} (h0 : 0 ≤ p) (h1 : p < (g.length : Int)) (hne : (S.getD p.toNat []).length ≠ 0) : ∃ (hs : p.toNat < S.length) (hz : 0 < (S[p.toNat]).length) (hm : ((S[p.toNat])[0]).toNat < (g[p.toNat]'(by omega)).length), 0 ≤ (S[p.toNat])[0] ∧ sx g S p = (g[p.toNat]'(by omega))[((S[p.toNat])[0]).toNat] := by
  have hl := W.len
  have hs : p.toNat < S.length := by omega
  rw [getD_get hs] at hne
  have hz : 0 < (S[p.toNat]).length := by omega
  have h := W.ent p.toNat hs (by omega) _ (List.getElem_mem hz)
  refine ⟨hs, hz, by omega, h.1, ?_⟩
  unfold sx
  rw [if_neg (by omega), getD_get hs, if_neg hne, getD_getI hz, getD_get (by omega), getD_getI (by omega)]
theorem sx_none {p : Int} (hne : (S.getD p.toNat []).length = 0) : sx g S p = -1 := by
  unfold sx
  split
  · rfl
  · rfl
theorem sx_neg {p : Int} (h : p < 0) : sx g S p = -1 := by unfold sx; rw [if_pos h]
theorem sx_lt (W : SOK g S) {p : Int} (h1 : p < (g.length : Int)) : -1 ≤ sx g S p ∧ sx g S p < (g.length : Int) := by
  have := graph_len W.graph
  by_cases h0 : p < 0
  · rw [sx_neg h0]; omega
  by_cases hne : (S.getD p.toNat []).length = 0
  · rw [sx_none hne]; omega
  · obtain ⟨hr, hz, hm, h2, e⟩ := sx_some W (by omega) h1 hne
    rw [e]
    have := (graph_mem W.graph (List.getElem_mem (show p.toNat < g.length by omega))).2 _ (List.getElem_mem hm)
    omega
theorem its_lt (W : SOK g S) {p : Int} (h1 : p < (g.length : Int)) (h0 : -1 ≤ p) : ∀ k, -1 ≤ itf (sx g S) p k ∧ itf (sx g S) p k < (g.length : Int)
  | 0 => ⟨h0, h1⟩
  | k + 1 => sx_lt W (its_lt W h1 h0 k).2
theorem its_neg {p : Int} {k : Nat} (h : itf (sx g S) p k < 0) : ∀ m, itf (sx g S) p (k + m) < 0
  | 0 => h
  | m + 1 => by
    rw [← Nat.add_assoc, itf, sx_neg (its_neg h m)]
    omega
theorem ret_neg {p : Int} (h0 : 0 ≤ p) : ∀ (r m : Nat), itf (sx g S) p m < 0 → ret (sx g S) p r m = none
  | 0, m, h => rfl
  | r + 1, m, h => by
    rw [ret, if_neg (by omega)]
    exact ret_neg h0 r (m + 1) (its_neg h 1)
/-- The places of a cycle have tops. -/
theorem cyP_top (W : SOK g S) {n : Nat} {p : Int} (h0 : 0 ≤ p) (h1 : p < (g.length : Int)) : ∀ x, x ∈ cyP (sx g S) n p → 0 ≤ x ∧ x < (g.length : Int) ∧ (S.getD x.toNat []).length ≠ 0 := by
  intro x hx
  rcases cyP_cases (sx g S) n p with h | ⟨k, k1, k2, e1, e2, e⟩
  · rw [h] at hx; simp at hx
  · rw [e, mem_turnL] at hx
    simp only [orb, List.mem_map, List.mem_range] at hx
    obtain ⟨i, hi, rfl⟩ := hx
    have nn : ∀ j, j ≤ k → 0 ≤ itf (sx g S) p j := fun j hj => by
      by_cases hx : itf (sx g S) p j < 0
      · have := its_neg hx (k - j)
        rw [show j + (k - j) = k by omega] at this
        omega
      · omega
    refine ⟨nn i (by omega), (its_lt W h1 (by omega) i).2, fun hz => ?_⟩
    have := nn (i + 1) (by omega)
    rw [itf, sx_none hz] at this
    omega
end
def popP (S : List (List Int)) (c : List Int) : List (List Int) := (List.range S.length).map fun (i : Nat) => if (i : Int) ∈ c then (S.getD i []).drop 1 else S.getD i []
theorem popP_length (S : List (List Int)) (c : List Int) : (popP S c).length = S.length := by simp [popP]
theorem popP_get (S : List (List Int)) (c : List Int) (i : Nat) (h : i < (popP S c).length) (h' : i < S.length) : (popP S c)[i] = if (i : Int) ∈ c then (S[i]).drop 1 else S[i] := by
  simp only [popP, List.getElem_map, List.getElem_range]
  rw [getD_get h']
theorem popP_nil (S : List (List Int)) : popP S [] = S := by
  apply List.ext_getElem
  · exact popP_length _ _
  · intro i h1 h2
    rw [popP_get S [] i h1 h2]
    simp
theorem popP_tot (S : List (List Int)) (c : List Int) : totR (popP S c) ≤ totR S := by
  have key : ∀ (a b : List (List Int)), a.length = b.length → (∀ i (h : i < a.length) (h' : i < b.length), a[i].length ≤ b[i].length) → totR a ≤ totR b := by
    intro a
    induction a with
    | nil => intro b h1 h2; simp [totR]
    | cons x xs ih =>
      intro b h1 h2
      cases b with
      | nil => simp at h1
      | cons y ys =>
        have a1 := ih ys (by simpa using h1) fun i h h' => by have := h2 (i + 1) (by simpa using h) (by simpa using h'); simpa using this
        have a2 := h2 0 (by simp) (by simp)
        simp only [List.getElem_cons_zero] at a2
        simp only [totR, List.map_cons, List.sum_cons] at *
        omega
  refine key _ _ (popP_length _ _) fun i h h' => ?_
  rw [popP_get S c i h h']
  split
  · simp
  · exact Nat.le_refl _
theorem SOK.pop {g S : List (List Int)} (W : SOK g S) (c : List Int) : SOK g (popP S c) := by
  refine ⟨W.graph, by rw [popP_length]; exact W.len, fun i h => ?_, fun i h h' x hx => ?_⟩
  · have h2 : i < S.length := by rw [popP_length] at h; exact h
    have := W.short i h2
    rw [popP_get S c i h h2]
    split
    · simp; omega
    · exact this
  · have h2 : i < S.length := by rw [popP_length] at h; exact h
    rw [popP_get S c i h h2] at hx
    split at hx
    · exact W.ent i h2 h' x (List.mem_of_mem_drop hx)
    · exact W.ent i h2 h' x hx
theorem SOK.tot {g S : List (List Int)} (W : SOK g S) : S.length + totR S ≤ 104 := by
  have h1 := graph_len W.graph
  have h2 := W.len
  have := tot_short (n := 12) (xss := S) (m := 8) (by omega) fun l hl => by
    obtain ⟨i, hi, rfl⟩ := List.getElem_of_mem hl
    exact W.short i hi
  omega

theorem k_eqStacks {S S' : Nat → Prop} {h : Heap} {a b : Sl} {xs ys : List (List Int)} (H : RdR S h a xs) (H' : RdR S' h b ys) : Ret Tryd.prog 11 #[.agg #[a.v], .agg #[b.v]] h (VB (decide (xs = ys))) := by
  intro K HK
  refine v11 a b h K fun b1 b2 h1 hb1 hb2 f1 hL1 => ?_
  refine k_eqIntSS (H.no f1.in_nil) (H'.no f1.in_nil) _ ⟨_, rfl, hL1, fun e => ?_, fun e => ?_⟩
  · rw [← not_t e]; exact HK _ f1.in_nil
  · rw [← not_f e]; exact HK _ f1.in_nil

theorem k_szStacks {S : Nat → Prop} {h : Heap} {s : Sl} {xss : List (List Int)} (H : RdR S h s xss) (left : Int) (h0 : 0 ≤ left) (h1 : left ≤ 1048576) (K : Value → Heap → Prop) (HK : ∀ (h' : Heap) (r : Int), Fr No h h' → r = -1 ∨ (0 ≤ r ∧ r = left - xss.length - totR xss) → K (VI r) h') : callM Tryd.prog 7 #[.agg #[s.v], VI left] h K := by
  refine v7 s left h K fun b1 h1' hb1 f1 hL1 => ?_
  refine k_szIntSS (H.no f1.in_nil) left h0 h1 _ fun r hr => ⟨r, rfl, hL1, fun e => HK _ _ f1.in_nil (.inl rfl), fun e => HK _ _ f1.in_nil hr⟩

theorem k_toStacks {S : Nat → Prop} {h : Heap} {s : Sl} {xss : List (List Int)} (H : RdR S h s xss) (hn : xss.length ≤ 1000000000000) (hm : totR xss ≤ 1000000000000) (K : Value → Heap → Prop) (HK : ∀ t h', OwX h' (fun k => h.size ≤ k) t xss → Fr No h h' → K (.agg #[t.v]) h') : callM Tryd.prog 9 #[.agg #[s.v]] h K := by
  refine v9 s h K fun b1 b2 b3 h1 hb1 hb2 hb3 f1 hL1 => ?_
  have f1 := f1.in_nil
  refine k_toIntSS (H.no f1) hn hm _ fun t h2 o2 f2 => ⟨t, rfl, hL1.of_no f2, fun h3 f3 hL3 => ?_⟩
  have l3 : b3 < h1.size := hL1.head.lt
  have l2 : b2 < h1.size := hL1.tail.head.lt
  have s1 := f1.size
  refine HK t h3 ((o2.fr f3 fun k _ hk => In.off (n := h1.size) (by simp; omega) hk).mono fun k _ hk => by omega) ((f1.no_trans f2).fresh f3 (in_ge (by simp; omega)))

theorem g_szStacks {S : Nat → Prop} {h : Heap} {s : Sl} {xss : List (List Int)} (H : RdR S h s xss) (left : Int) (h0 : 0 ≤ left) (h1 : left ≤ 1048576) (K : Value → Heap → Prop) (HK : ∀ (h' : Heap) (r : Int), Fr No h h' → r = -1 ∨ (0 ≤ r ∧ r = left - xss.length - totR xss) → K (VI r) h') : callM Tryd.prog 7 #[.agg #[s.v], VI left] h K := k_szStacks H left h0 h1 K HK

theorem g_toStacks {S : Nat → Prop} {h : Heap} {s : Sl} {xss : List (List Int)} (H : RdR S h s xss) (hn : xss.length + totR xss ≤ 1048576) (K : Value → Heap → Prop) (HK : ∀ t h', OwX h' (Iv h.size h'.size) t xss → Fr No h h' → K (.agg #[t.v]) h') : callM Tryd.prog 9 #[.agg #[s.v]] h K := k_toStacks H (by omega) (by omega) K fun t h' o f => HK t h' o.toIv f

theorem g_eqStacks {S S' : Nat → Prop} {h : Heap} {a b : Sl} {xs : List (List Int)} (H : RdR S h a xs) (H' : RdR S' h b xs) : Ret Tryd.prog 11 #[.agg #[a.v], .agg #[b.v]] h (VB true) := by have := k_eqStacks H H'; rwa [decide_eq_true rfl] at this

theorem pop_and {P : Program} {t : TypeId} {K : Value → Prop} (k : IntKind) (a b : Int) (H : K (.int k (bits .and k a b))) : pop P (binA .and t (.int k a) (.int k b)) K :=
  .mk' (fun w => by simp [binA, eqGuard, binOp, intBits_and, bind, Sem.bind, pure, Sem.run]) H
theorem pop_shr {P : Program} {t : TypeId} {K : Value → Prop} (k : IntKind) (a b : Int) (hb : 0 ≤ b) (H : K (.int k (a.fdiv (2 ^ (min b.toNat k.bits))))) : pop P (binA .shr t (.int k a) (.int k b)) K :=
  .mk' (fun w => by simp [binA, eqGuard, binOp, Op.shift, show ¬ b < 0 by omega, bind, Sem.bind, pure, Sem.run]) H
theorem rop_conv {P : Program} {src dst : TypeId} {k k' : IntKind} (hs : P.underlying src = some (.int k)) (hd : P.underlying dst = some (.int k')) {h : Heap} {K : Value → Prop} (n : Int) (H : K (.int k' (k'.wrap n))) : rop P (convert src dst (.int k n)) h K := by
  have hk : P.intKind dst = k' := by simp [Program.intKind, hd]
  refine ⟨_, fun w hw => run_convert_int w src dst k n (by simp [hs]) (by rw [hk]; exact hd), ?_⟩
  rw [hk]
  exact H
theorem cut_zero {s : Sl} (h : s.n ≤ s.c) : s.cut 1 0 s.n s.c = s := by
  obtain ⟨a, n, c⟩ := s
  unfold Sl.cut
  cases a with
  | none => simp
  | some a => simp [at_add0]
/-- copy, to the cells from l on. -/
theorem eop_copy {P : Program} {t t2 e ty : TypeId} {bs : Nat} {z : List Value} (T : rowC P t = some (e, 1, bs, z)) {h : Heap} {F S : Nat → Prop} {s x : Sl} {vs us : List Value} (H : Ow h F e 1 s vs) (X : RdV S h 1 x us) (hp : us.all plainV = true) (l m : Nat) (hl : l ≤ s.n) (hm : m = min x.n (s.n - l))
    {K : Value → Heap → Prop} (HK : ∀ h', Ow h' F e 1 s (vs.take l ++ us.take m ++ vs.drop (l + m)) → Fr s.own h h' → K (VI m) h') : eop P (Builtin.copy_ #[t, t2] ty #[(s.cut 1 l s.n s.c).v, x.v]) h K := by
  obtain ⟨hu, i, zv, hi, hsz, rfl, hz, hzc, hzl, _, hbs, hb64, hsz8⟩ := rowC_spec T
  refine ⟨fun w hw => ?_⟩
  subst hw
  have hs1 : (P.info? e).map (·.size) = some 1 := by rw [hi]; simp [hsz]
  have hvl := H.len
  have hul := X.len
  by_cases h0 : m = 0
  · subst h0
    have hr := run_copy_none (P := P) w t t2 ty e (s.cut 1 l s.n s.c).a x.a (s.cut 1 l s.n s.c).n (s.cut 1 l s.n s.c).c x.n x.c hu hs1 (by simp only [Sl.cut]; exact hm.symm)
    refine ⟨_, w, hr, Same.refl w, HK w.heap ?_ (Fr.refl _ _)⟩
    simpa using H
  · rcases H.out with ⟨rfl, rfl⟩ | ⟨g, o, cur, ha, hF, hg, h1, h2, h3, h4⟩
    · simp [nilSl] at hm; omega
    · obtain ⟨a, hxa, _, _⟩ := X.cell 0 (by omega)
      have hcl : s.c ≠ l := by omega
      have hda : (s.cut 1 l s.n s.c).a = some ⟨g, o + l, none⟩ := by simp [Sl.cut, hcl, ha, add_mk]
      have hr := run_copy_row (P := P) w t t2 ty e g (o + l) (s.n - l) (s.c - l) a x.n x.c cur e (us.take m) hu hs1 hg (by rw [List.length_take, hm]; simp only [Nat.min_def]; split <;> split <;> omega) (fun j v hj => by
        obtain ⟨hjl, rfl⟩ := List.getElem?_eq_some_iff.1 hj
        have hjl2 : j < us.length := by simp at hjl; omega
        obtain ⟨a', ha', _, hc⟩ := X.cell j hjl2
        rw [hxa] at ha'
        obtain rfl : a = a' := by simpa using ha'
        simp only [List.getElem_take]
        exact hc) (by simp; omega) (fun u hu => by
        have := List.all_eq_true.1 hp u (List.mem_of_mem_take hu)
        cases u <;> simp [plainV] at this <;> rfl)
      have hml : (us.take m).length = m := by simp; omega
      rw [hml] at hr
      have hv : (s.cut 1 l s.n s.c).v = .slice (some ⟨g, o + l, none⟩) (s.n - l) (s.c - l) := by simp only [Sl.v, hda]; rfl
      have hxv : x.v = .slice (some a) x.n x.c := by simp only [Sl.v, hxa]
      rw [← hv, ← hxv] at hr
      refine ⟨_, _, hr, ⟨rfl, rfl, rfl⟩, HK _ ⟨?_, .inr ⟨g, o, _, ha, hF, setRow_heap w g cur _ e _ hg, h1, h2, ?_, ?_⟩⟩ ⟨by simp [World.setRow], fun k _ hk => setRow_other w g k _ (fun e => hk (by simp [Sl.own, ha, e]))⟩⟩
      · simp; omega
      · simp; omega
      · have hol : (cur.toList.take (o + l)).length = o + l := by simp; omega
        simp only [Nat.mul_one] at h4 hvl ⊢
        have e1 : (cur.toList.take (o + l) ++ us.take m ++ cur.toList.drop (o + l + m)).drop o = vs.take l ++ us.take m ++ cur.toList.drop (o + l + m) := by
          rw [List.append_assoc, List.drop_append_of_le_length (by omega), List.drop_take, show o + l - o = l by omega, ← h4, List.take_take, Nat.min_eq_left hl, List.append_assoc]
        (try simp only [List.toList_toArray])
        rw [e1, List.take_append, List.take_of_length_le (by simp; omega)]
        congr 1
        have e2 : (vs.take l ++ us.take m).length = l + m := by simp; omega
        rw [e2, ← h4, List.drop_take, List.drop_drop, Nat.add_assoc]
theorem eop_copy0 {P : Program} {t t2 e ty : TypeId} {bs : Nat} {z : List Value} (T : rowC P t = some (e, 1, bs, z)) {h : Heap} {F S : Nat → Prop} {s x : Sl} {vs us : List Value} (H : Ow h F e 1 s vs) (X : RdV S h 1 x us) (hp : us.all plainV = true) (m : Nat) (hm : m = min x.n s.n)
    {K : Value → Heap → Prop} (HK : ∀ h', Ow h' F e 1 s (us.take m ++ vs.drop m) → Fr s.own h h' → K (VI m) h') : eop P (Builtin.copy_ #[t, t2] ty #[s.v, x.v]) h K := by
  have := eop_copy (t2 := t2) (ty := ty) T H X hp 0 m (by omega) (by simpa using hm) (K := K) fun h' o f => HK h' (by simpa using o) f
  rw [cut_zero H.cap.1] at this
  exact this
theorem mul_small (a n : Int) (ha : a = 1) (h0 : 0 ≤ n) (h1 : n ≤ 8) : bits .and .u64 a 4294967295 = 1 ∧ bits .and .u64 n 4294967295 = n ∧ bits .and .u64 0 4294967295 = 0 := by
  subst ha
  refine ⟨by decide, ?_, by decide⟩
  have : n = 0 ∨ n = 1 ∨ n = 2 ∨ n = 3 ∨ n = 4 ∨ n = 5 ∨ n = 6 ∨ n = 7 ∨ n = 8 := by omega
  rcases this with rfl | rfl | rfl | rfl | rfl | rfl | rfl | rfl | rfl <;> decide
theorem u64_small {n : Int} (h0 : 0 ≤ n) (h1 : n < 18446744073709551616) : IntKind.u64.wrap n = n := by
  simp only [IntKind.wrap, IntKind.bits, IntKind.signed]
  simp
  omega
theorem fdiv_small {n : Int} (h0 : 0 ≤ n) (h1 : n < 4294967296) : n.fdiv (2 ^ (min (32 : Int).toNat IntKind.u64.bits)) = 0 := by
  have e : (2 : Int) ^ (min (32 : Int).toNat IntKind.u64.bits) = 4294967296 := by decide
  rw [e, Int.fdiv_eq_ediv_of_nonneg _ (by omega)]
  omega

/-- The places of a list that are not come to yet get the next number. -/
def bfsIn (x : Int) : List Int → List Int × List Int → List Int × List Int
  | [], s => s
  | q :: qs, s => bfsIn x qs (if s.1.getD q.toNat 0 < 0 then (s.1.set q.toNat (s.1.getD x.toNat 0 + 1), s.2 ++ [q]) else s)
def bfsP (g : List (List Int)) : Nat → List Int → List Int → List Int
  | 0, far, _ => far
  | _ + 1, far, [] => far
  | f + 1, far, x :: rest => bfsP g f (bfsIn x (g.getD x.toNat []) (far, [])).1 (rest ++ (bfsIn x (g.getD x.toNat []) (far, [])).2)
def farP (g : List (List Int)) (p : Int) : List Int := bfsP g g.length ((List.replicate g.length (-1)).set p.toNat 0) [p]
def negs (l : List Int) : Nat := (l.filter fun x => decide (x < 0)).length
theorem negs_set {l : List Int} {i : Nat} {v : Int} (h : i < l.length) (h1 : l[i] < 0) (h2 : 0 ≤ v) : negs (l.set i v) + 1 = negs l := by
  induction l generalizing i with
  | nil => simp at h
  | cons x xs ih =>
    cases i with
    | zero =>
      simp only [List.getElem_cons_zero] at h1
      simp only [negs, List.set_cons_zero, List.filter_cons, show ¬ v < 0 by omega, h1, decide_true, decide_false, if_true, Bool.false_eq_true, if_false, List.length_cons]
    | succ i =>
      have := ih (by simpa using h) (by simpa using h1)
      simp only [negs, List.set_cons_succ, List.filter_cons] at this ⊢
      split <;> (try simp only [List.length_cons]) <;> simp_all <;> omega
structure BOK (n : Nat) (far : List Int) : Prop where
  len : far.length = n
  lo : ∀ v, v ∈ far → -1 ≤ v
  hi : ∀ v, v ∈ far → v + negs far ≤ n
theorem BOK.step {n : Nat} {far : List Int} (B : BOK n far) {x q : Int} (hx : x.toNat < n) (hq : q.toNat < n) (hn : far.getD q.toNat 0 < 0) : BOK n (far.set q.toNat (far.getD x.toNat 0 + 1)) ∧ negs (far.set q.toNat (far.getD x.toNat 0 + 1)) + 1 = negs far := by
  have hl := B.len
  rw [getD_getI (by omega)] at hn
  rw [getD_getI (show x.toNat < far.length by omega)]
  have h1 := B.lo _ (List.getElem_mem (show x.toNat < far.length by omega))
  have h2 := B.hi _ (List.getElem_mem (show x.toNat < far.length by omega))
  have h3 := negs_set (show q.toNat < far.length by omega) hn (v := far[x.toNat]'(by omega) + 1) (by omega)
  refine ⟨⟨by simp [hl], fun v hv => ?_, fun v hv => ?_⟩, h3⟩
  · rcases List.mem_or_eq_of_mem_set hv with hv | rfl
    · exact B.lo v hv
    · omega
  · rcases List.mem_or_eq_of_mem_set hv with hv | rfl
    · have := B.hi v hv; omega
    · omega
theorem farP_none {g : List (List Int)} {p : Int} (h : g.getD p.toNat [] = []) : farP g p = (List.replicate g.length (-1)).set p.toNat 0 := by
  unfold farP
  cases hg : g.length with
  | zero => rfl
  | succ n =>
    rw [bfsP, h]
    cases n <;> rfl
theorem bok0 {n p : Nat} (hp : p < n) : BOK n ((List.replicate n (-1)).set p 0) ∧ negs ((List.replicate n (-1)).set p 0) + 1 = n := by
  have h1 : negs (List.replicate n (-1)) = n := by
    unfold negs
    rw [List.filter_replicate_of_pos (by decide)]
    simp
  have h2 := negs_set (l := List.replicate n (-1)) (i := p) (v := 0) (by simpa using hp) (by simp) (by omega)
  refine ⟨⟨by simp, fun v hv => ?_, fun v hv => ?_⟩, by omega⟩
  · rcases List.mem_or_eq_of_mem_set hv with hv | rfl
    · simp only [List.mem_replicate] at hv; omega
    · omega
  · rcases List.mem_or_eq_of_mem_set hv with hv | rfl
    · simp only [List.mem_replicate] at hv; omega
    · omega
theorem gq_mem {g : List (List Int)} (hg : graphB g = true) {x : Nat} (hx : x < g.length) {i : Nat} (hi : i < (g[x]).length) : 0 ≤ (g[x])[i] ∧ (g[x])[i] < (g.length : Int) := (graph_mem hg (List.getElem_mem hx)).2 _ (List.getElem_mem hi)

@[reducible] def tSs : TypeId := 79
theorem rSs : rowC Tryd.prog tSs = some (9, 1, 16, [VS (⟨#[]⟩ : ByteArray)]) := by kernel_rfl
theorem plainVS (xs : List ByteArray) : (xs.map VS).all plainV = true := by simp [List.all_eq_true, plainV]
@[reducible] def OwS (h : Heap) (F : Nat → Prop) (s : Sl) (xs : List ByteArray) : Prop := Ow h F 9 1 s (xs.map VS)
theorem mk_add (g o j : Nat) : (⟨g, o, none⟩ : Addr).add j = ⟨g, o + j, none⟩ := by
  unfold Addr.add
  by_cases h : j = 0 <;> simp [h]
theorem cell_hc (w : World) (a : Addr) : w.cell? a = hcell w.heap a := rfl
theorem ba_app (a b : List UInt8) : ((⟨a.toArray⟩ : ByteArray) ++ (⟨b.toArray⟩ : ByteArray)) = ⟨(a ++ b).toArray⟩ := by
  apply ByteArray.ext
  simp [ByteArray.data_append]
theorem ba_size (a : List UInt8) : (⟨a.toArray⟩ : ByteArray).size = a.length := by simp [ByteArray.size]
theorem dec_len {n : Nat} (h : n < 100) : (Lib.decDigits n).length ≤ 2 := by
  by_cases h1 : n < 10
  · rw [Lib.decDigits_one h1]; simp
  · rw [Lib.decDigits_two h1 h]; simp
theorem join_len : ∀ (xs : List (List UInt8)), (∀ x, x ∈ xs → x.length ≤ 2) → (Lib.join xs [44]).length ≤ 3 * xs.length
  | [], _ => by simp [Lib.join_nil]
  | x :: r, h => by
    rw [Lib.join_length]
    have : ∀ (l : List (List UInt8)), (∀ x, x ∈ l → x.length ≤ 2) → Lib.lens l ≤ 2 * l.length := by
      intro l
      induction l with
      | nil => intro _; simp [Lib.lens]
      | cons a l ih =>
        intro hl
        have h1 := ih fun y hy => hl y (List.mem_cons_of_mem _ hy)
        have h2 := hl a (List.mem_cons_self ..)
        simp only [Lib.lens, List.map_cons, List.sum_cons, List.length_cons] at h1 ⊢
        omega
    have := this _ h
    simp only [List.length_cons, List.length_nil] at this ⊢
    omega
def listL (rs : List Int) : List UInt8 := if rs.length = 0 then [45] else Lib.join (rs.map fun x => Lib.decDigits x.toNat) [44]
theorem listL_len {rs : List Int} (h : ∀ x, x ∈ rs → 0 ≤ x ∧ x < 100) : (listL rs).length ≤ 3 * rs.length + 1 := by
  unfold listL
  split
  · simp
  · have := join_len (rs.map fun x => Lib.decDigits x.toNat) fun y hy => by
      obtain ⟨x, hx, rfl⟩ := List.mem_map.1 hy
      exact dec_len (by have := h x hx; omega)
    rw [List.length_map] at this
    omega
theorem k_Itoa {h : Heap} {n : Int} (h0 : 0 ≤ n) (h1 : n < 100) (K : Value → Heap → Prop) (HK : K (VS ⟨(Lib.decDigits n.toNat).toArray⟩) h) : callM Tryd.prog 96 #[VI n] h K := by
  obtain ⟨i, rfl⟩ : ∃ i : Nat, n = (i : Int) := ⟨n.toNat, by omega⟩
  refine ⟨fun w hw => .inr ⟨96, _, w, Go.Proofs.enters_of Tryd.func96 (by kernel_rfl) rfl _ _, rfl, ?_⟩⟩
  subst hw
  refine (Tryd.strconv_Itoa_small i (by omega) w).mono ?_
  rintro e w' ⟨rfl, rfl⟩
  rw [Int.toNat_natCast] at HK
  exact ⟨_, rfl, Same.refl _, HK⟩
theorem k_Join {S : Nat → Prop} {h : Heap} {s : Sl} {ts : List ByteArray} {sep : ByteArray} (H : RdV S h 1 s (ts.map VS)) (hne : ts ≠ []) (hN : ts.length ≤ 1000000) (hl : (Lib.join (ts.map (·.data.toList)) sep.data.toList).length ≤ 1000000) (K : Value → Heap → Prop) (HK : ∀ h', Fr No h h' → K (VS ⟨(Lib.join (ts.map (·.data.toList)) sep.data.toList).toArray⟩) h') : callM Tryd.prog 59 #[s.v, VS sep] h K := by
  refine ⟨fun w hw => .inr ⟨59, _, w, Go.Proofs.enters_of Tryd.func59 (by kernel_rfl) rfl _ _, rfl, ?_⟩⟩
  subst hw
  have hlen := H.len
  simp only [List.length_map, Nat.mul_one] at hlen
  have hcap := H.cap
  have hpos : 0 < ts.length := List.length_pos_iff.2 hne
  obtain ⟨a, ha, _, hc⟩ := RdV.cell H 0 (by simpa using hpos)
  have hsp : a.spot = none := by
    cases hs : a.spot with
    | none => rfl
    | some sp => exfalso; unfold hcell at hc; simp [Addr.add, hs] at hc; split at hc <;> simp at hc
  obtain ⟨g, o, q⟩ := a
  simp only at hsp
  subst hsp
  have hv : s.v = .slice (some ⟨g, o, none⟩) ts.length s.c := by unfold Sl.v; rw [ha, hlen]
  rw [hv]
  refine (Tryd.strings_Join g o s.c ts sep w (fun j x hj => ?_) ?_ (by omega) (by omega) (by omega)).mono ?_
  · have hj2 : j < ts.length := (List.getElem?_eq_some_iff.1 hj).1
    obtain ⟨a', ha', _, hc'⟩ := RdV.cell H j (by simp; omega)
    rw [ha] at ha'
    cases ha'
    rw [mk_add] at hc'
    rw [cell_hc, hc']
    rw [List.getElem?_eq_getElem hj2] at hj
    simp only [Option.some.injEq] at hj
    simp [hj]
  · have := hcell_lt hc; rw [add_block] at this; exact this
  · rintro e w' ⟨rfl, hb⟩
    exact ⟨_, rfl, ⟨hb.os, hb.tape, hb.output⟩, HK _ ⟨hb.size, fun k hk _ => hb.block k hk⟩⟩
theorem eop_putS {L : List (Nat × List Value)} {F : Nat → Prop} {h : Heap} {o : Sl} {xs : List ByteArray} {x : ByteArray} (O : OwS h F o xs) (hF : ∀ k, h.size ≤ k → F k) (hL : Vars h L) (hoff : ∀ p, p ∈ L → ¬ F p.1) (hb : xs.length ≤ 1000000) (R : Sl → Heap → Prop) (HR : ∀ t h', OwS h' F t (xs ++ [x]) → Fr F h h' → Vars h' L → R t h') : eop Tryd.prog (Instr.buildSlice tSs 1 #[(0, VS x)]) h fun rv h1 => ∃ t : Sl, rv = t.v ∧ Vars h1 L ∧ eop Tryd.prog (appS tSs tSs tSs o.v t.v) h1 fun rv2 h2 => ∃ t2 : Sl, rv2 = t2.v ∧ Vars h2 L ∧ R t2 h2 := by
  refine eop_lit rSs (fun k => h.size ≤ k) (fun _ h => h) 1 (by omega) [VS x] rfl rfl fun t h1 n1 c1 o1 f1 m1 _ => ⟨t, rfl, hL.of_no f1, ?_⟩
  have z1 := f1.size
  have O1 : OwS h1 F o xs := Ow.no O f1
  have on := O1.rd.len
  have tn := o1.rd.len
  simp only [List.length_map, Nat.mul_one, List.length_cons, List.length_nil] at on tn
  refine eop_append rSs O1 (fun k hk => hF k (by omega)) o1.rd (plainVS [x]) (by omega) fun s' h2 n2 o2 f2 d2 => ?_
  have g2 : Fr F h1 h2 := f2.mono fun k _ hk => (O1.foot hk).1
  have V2 : Vars h2 L := (hL.of_no f1).fr g2 hoff
  exact ⟨s', rfl, V2, HR s' h2 (by rw [OwS, List.map_append]; exact o2) (f1.of_no.trans g2) V2⟩
theorem k_listText {S : Nat → Prop} {h : Heap} {s : Sl} {rs : List Int} (H : RdI S h s rs) (B : ∀ x, x ∈ rs → 0 ≤ x ∧ x < 100) (hn : rs.length ≤ 1000) (K : Value → Heap → Prop) (HK : ∀ h', Fr No h h' → K (VS ⟨(listL rs).toArray⟩) h') : callM Tryd.prog 58 #[s.v] h K := by
  have sn := RdI.len H
  refine v58 s h K ⟨fun e => ?_, fun e => ?_⟩
  · simp only [decide_eq_true_eq] at e
    have := HK h (Fr.refl _ _)
    unfold listL at this
    rw [if_pos (by omega)] at this
    exact this
  simp only [decide_eq_false_iff_not] at e
  refine eop_lit rSs (fun k => h.size ≤ k) (fun _ h => h) 0 (by omega) [] rfl rfl fun o h1 n1 c1 o1 f1 m1 _ => ⟨o, rfl, .nil, ?_⟩
  have z1 := f1.size
  have o1' : OwS h1 (fun k => h.size ≤ k) o [] := o1
  have no_ : ∀ {x : Heap}, Fr (fun k => h.size ≤ k) h x → Fr No h x := fun f => f.mono fun k hk hk2 => absurd hk2 (by omega)
  refine ⟨fun m x p h' => 0 ≤ p ∧ p + m = (rs.length : Int) ∧ OwS h' (fun k => h.size ≤ k) x ((rs.take p.toNat).map fun y => (⟨(Lib.decDigits y.toNat).toArray⟩ : ByteArray)) ∧ Fr (fun k => h.size ≤ k) h h', ⟨rs.length, by omega, by omega, by simpa using o1', f1.of_no⟩, ?_⟩
  rintro m x p h2 ⟨p0, p1, o2, f2⟩ hL2
  have z2 := f2.size
  have H2 := H.no (no_ f2)
  refine ⟨fun e2 => ?_, fun e2 => ?_⟩
  · have hp := H2.lt e2
    have bx := B _ (List.getElem_mem (show p.toNat < rs.length by omega))
    refine ⟨H2.inb p0 hp, _, H2.get p0 hp, k_Itoa bx.1 bx.2 _ ⟨_, rfl, .nil, ?_⟩⟩
    refine eop_putS o2 (fun k hk => by omega) .nil (fun q hq => by cases hq) (by simp; omega) _ fun t h5 o5 f5 _ => ?_
    rw [H2.succ p0 hp]
    refine ⟨m - 1, by omega, by omega, by omega, ?_, f2.trans f5⟩
    rw [show (p + 1).toNat = p.toNat + 1 by omega, List.take_add_one, List.getElem?_eq_getElem (show p.toNat < rs.length by omega)]
    rw [List.map_append]
    exact o5
  · have hp := H2.ge e2
    rw [List.take_of_length_le (by omega)] at o2
    have hm : ((rs.map fun y => (⟨(Lib.decDigits y.toNat).toArray⟩ : ByteArray)).map (·.data.toList)) = rs.map fun y => Lib.decDigits y.toNat := by simp
    have hjl := join_len (rs.map fun x => Lib.decDigits x.toNat) fun y hy => by
      obtain ⟨x, hx, rfl⟩ := List.mem_map.1 hy
      exact dec_len (by have := B x hx; omega)
    rw [List.length_map] at hjl
    refine k_Join o2.rdF (fun hh => by have := congrArg List.length hh; simp at this; simp [this] at sn; omega) (by simp; omega) (by rw [hm]; show (Lib.join _ [44]).length ≤ _; omega) _ fun h3 f3 => ⟨_, rfl, .nil, ?_⟩
    have := HK h3 ((no_ f2).trans f3)
    unfold listL at this
    rw [if_neg (by omega)] at this
    rw [hm]
    exact this

theorem rBs8 : rowC Tryd.prog 48 = some (5, 1, 1, [.int .u8 0]) := by kernel_rfl
theorem rop_str1 {F : Nat → Prop} {h : Heap} {s : Sl} {x : Int} {bs : List UInt8} (H : RdV F h 1 s [Value.int .u8 x]) (hb : (strOfNums [x]) = ⟨bs.toArray⟩) {K : Value → Prop} (HK : K (VS ⟨bs.toArray⟩)) : rop Tryd.prog (convert 48 9 s.v) h K := by
  have hlen := H.len
  simp only [List.length_cons, List.length_nil, Nat.mul_one] at hlen
  obtain ⟨a, ha, _, hc⟩ := RdV.cell H 0 (by simp)
  have hsp : a.spot = none := by
    cases hs : a.spot with
    | none => rfl
    | some sp => exfalso; unfold hcell at hc; simp [Addr.add, hs] at hc; split at hc <;> simp at hc
  obtain ⟨g, o, q⟩ := a
  simp only at hsp
  subst hsp
  have hv : s.v = .slice (some ⟨g, o, none⟩) 1 s.c := by unfold Sl.v; rw [ha, ← hlen]
  refine ⟨_, fun w hw => ?_, HK⟩
  subst hw
  rw [hv, run_convert_bytes_arg w 48 5 (by kernel_rfl) (by kernel_rfl) g o 1 s.c [x] rfl (fun i hi => by
    have : i = 0 := by omega
    subst this
    rw [mk_add] at hc
    rw [cell_hc, hc]
    rfl) 9 (by kernel_rfl), hb]
theorem k_l1Num {h : Heap} {n : Int} (h0 : 0 ≤ n) (h1 : n < 10) (K : Value → Heap → Prop) (HK : ∀ h', Fr No h h' → K (VS ⟨(Lib.decDigits n.toNat).toArray⟩) h') : callM Tryd.prog 53 #[VI n] h K := by
  refine v53 n h K ⟨fun e => ?_, fun e => ?_⟩
  · rw [w64_eq _ (by omega) (by omega)]
    refine rop_conv (show Tryd.prog.underlying _ = some (.int .i64) from by kernel_rfl) (show Tryd.prog.underlying _ = some (.int .u8) from by kernel_rfl) (48 + n) ⟨48 + n, ?_, ?_⟩
    · show Value.int .u8 (IntKind.u8.wrap (48 + n)) = _
      have : IntKind.u8.wrap (48 + n) = 48 + n := by
        show (48 + n) % 256 = 48 + n
        omega
      rw [this]
    refine eop_lit rBs8 (fun k => h.size ≤ k) (fun _ h => h) 1 (by omega) [.int .u8 (48 + n)] rfl rfl fun w h6 n6 c6 o6 f6 m6 _ => ⟨w, rfl, .nil, ?_⟩
    refine rop_str1 (bs := Lib.decDigits n.toNat) o6.rdF ?_ ⟨_, rfl, HK h6 f6⟩
    rw [Lib.decDigits_one (show n.toNat < 10 by omega)]
    apply ByteArray.ext
    apply Array.toList_inj.1
    rw [strOfNums_data]
    simp only [List.map_cons, List.map_nil, List.cons.injEq, and_true]
    have : (48 + n).toNat = 48 + n.toNat := by omega
    rw [this]
  · simp only [decide_eq_false_iff_not] at e
    omega

theorem join_len40 (c : UInt8) : ∀ (xs : List (List UInt8)), (∀ x, x ∈ xs → x.length ≤ 40) → (Lib.join xs [c]).length ≤ 41 * xs.length
  | [], _ => by simp [Lib.join_nil]
  | x :: r, h => by
    rw [Lib.join_length]
    have : ∀ (l : List (List UInt8)), (∀ x, x ∈ l → x.length ≤ 40) → Lib.lens l ≤ 40 * l.length := by
      intro l
      induction l with
      | nil => intro _; simp [Lib.lens]
      | cons a l ih =>
        intro hl
        have h1 := ih fun y hy => hl y (List.mem_cons_of_mem _ hy)
        have h2 := hl a (List.mem_cons_self ..)
        simp only [Lib.lens, List.map_cons, List.sum_cons, List.length_cons] at h1 ⊢
        omega
    have := this _ h
    simp only [List.length_cons, List.length_nil] at this ⊢
    omega
theorem join_snoc (xs : List (List UInt8)) (y sep : List UInt8) : Lib.join (xs ++ [y]) sep = Lib.join xs sep ++ (if xs.length = 0 then [] else sep) ++ y := by
  cases xs with
  | nil => simp [Lib.join_nil, Lib.join_one]
  | cons x r =>
    rw [List.cons_append, Lib.join_cons, Lib.join_cons]
    simp [Lib.joinTail]
theorem join_take {α : Type} (f : α → List UInt8) (sep : List UInt8) {xs : List α} {i : Nat} (hi : i < xs.length) : Lib.join ((xs.take (i + 1)).map f) sep = Lib.join ((xs.take i).map f) sep ++ (if i = 0 then [] else sep) ++ f xs[i] := by
  rw [List.take_add_one, List.getElem?_eq_getElem hi, Option.toList_some, List.map_append, List.map_cons, List.map_nil, join_snoc]
  congr 2
  simp only [List.length_map, List.length_take]
  by_cases h : i = 0
  · simp [h]
  · rw [if_neg h, if_neg (by omega)]
def okL (l : List Int) : Bool := !decide (12 < (l.length : Int)) && l.all (inR 0 4)
def stxB (S : List (List Int)) : Bool := inR 1 8 (S.length : Int) && (S.all okL && S.any fun l => decide (l.length = 0))
def stxL (S : List (List Int)) : List UInt8 := Lib.join (S.map listL) [59]
def stxP (S : List (List Int)) : ByteArray × Bool := if stxB S then (⟨(stxL S).toArray⟩, true) else (⟨#[]⟩, false)
theorem okL_len {l : List Int} (h : okL l = true) : l.length ≤ 12 ∧ ∀ x, x ∈ l → 0 ≤ x ∧ x < 10 := by
  unfold okL at h
  simp only [Bool.and_eq_true, Bool.not_eq_true', decide_eq_false_iff_not, List.all_eq_true, inR_iff] at h
  exact ⟨by omega, fun x hx => by have := h.2 x hx; omega⟩
theorem okL_bytes {l : List Int} (h : okL l = true) : (listL l).length ≤ 40 := by
  have := okL_len h
  have := listL_len (rs := l) fun x hx => by have := this.2 x hx; omega
  omega
theorem all_take_succ {α : Type} {f : α → Bool} {xs : List α} {i : Nat} (hi : i < xs.length) (h : (xs.take i).all f = true) (h1 : f xs[i] = true) : (xs.take (i + 1)).all f = true := by
  rw [List.take_add_one, List.getElem?_eq_getElem hi, Option.toList_some, List.all_append, h]
  simp [h1]
theorem any_take_succ {α : Type} {f : α → Bool} {xs : List α} {i : Nat} (hi : i < xs.length) : (xs.take (i + 1)).any f = ((xs.take i).any f || f xs[i]) := by
  rw [List.take_add_one, List.getElem?_eq_getElem hi, Option.toList_some, List.any_append]
  simp
theorem stx_no {S : List (List Int)} {i : Nat} (hi : i < S.length) (h : okL S[i] = false) : stxP S = (⟨#[]⟩, false) := by
  unfold stxP
  rw [if_neg]
  intro hc
  unfold stxB at hc
  simp only [Bool.and_eq_true, List.all_eq_true] at hc
  rw [hc.2.1 _ (List.getElem_mem hi)] at h
  cases h
theorem stx_end {S : List (List Int)} (h1 : inR 1 8 (S.length : Int) = true) (h2 : S.all okL = true) : stxP S = if (S.any fun l => decide (l.length = 0)) then (⟨(stxL S).toArray⟩, true) else (⟨#[]⟩, false) := by
  unfold stxP stxB
  rw [h1, h2, Bool.true_and, Bool.true_and]

theorem k_spec_StacksText {S : Nat → Prop} {h : Heap} {s : Sl} {xss : List (List Int)} (H : RdR S h s xss) (K : Value → Heap → Prop) (HK : ∀ h', Fr No h h' → K (.tuple #[VS (stxP xss).1, VB (stxP xss).2]) h') : callM Tryd.prog 8 #[.agg #[s.v]] h K := by
  have sn := H.len
  refine v8 s h K fun b1 h1 hb1 f1 hL1 => ?_
  have f1 := f1.in_nil
  refine k_spec_l1In _ _ _ _ _ ⟨_, rfl, hL1, fun e => ?_, fun e => ?_⟩
  · have := HK h1 f1
    have hb : stxP xss = (⟨#[]⟩, false) := by
      unfold stxP stxB
      rw [if_neg]
      intro hc
      simp only [Bool.and_eq_true, inR_iff] at hc
      simp only [Bool.not_eq_true', Bool.and_eq_false_iff, decide_eq_false_iff_not] at e
      omega
    rw [hb] at this
    exact this
  simp only [Bool.not_eq_false', Bool.and_eq_true, decide_eq_true_eq] at e
  have hin : inR 1 8 (xss.length : Int) = true := inR_iff.2 (by omega)
  refine ⟨fun m out emp i h' => 0 ≤ i ∧ i + m = (xss.length : Int) ∧ out = (⟨(Lib.join ((xss.take i.toNat).map listL) [59]).toArray⟩ : ByteArray) ∧ emp = ((xss.take i.toNat).any fun l => decide (l.length = 0)) ∧ (xss.take i.toNat).all okL = true ∧ Fr No h h', ⟨xss.length, by omega, by omega, rfl, rfl, rfl, f1⟩, ?_⟩
  rintro m out emp i h3 ⟨i0, i1, rfl, rfl, hall, f3⟩ hL3
  have H3 := H.no f3
  refine ⟨fun e2 => ?_, fun e2 => ?_⟩
  · have hi := H3.lt e2
    have hi2 : i.toNat < xss.length := by omega
    obtain ⟨si, c1, r1⟩ := H3.get i0 hi
    have rn := r1.len
    have bad : okL xss[i.toNat] = false → ∀ h', Fr No h3 h' → K (.tuple #[VS ⟨#[]⟩, VB false]) h' := fun hb h' f => by
      have := HK h' (f3.trans f)
      rw [stx_no hi2 hb] at this
      exact this
    refine ⟨H3.inb i0 hi, si, c1, fun e3 => bad ?_ h3 (Fr.refl _ _), fun e3 => ?_⟩
    · simp only [decide_eq_true_eq] at e3
      unfold okL
      rw [decide_eq_true (by omega)]; rfl
    simp only [decide_eq_false_iff_not] at e3
    refine k_spec_l1All r1 0 4 _ ⟨_, rfl, hL3, fun e4 => bad ?_ h3 (Fr.refl _ _), fun e4 => ?_⟩
    · unfold okL
      simp only [Bool.not_eq_true'] at e4
      rw [e4, Bool.and_false]
    simp only [Bool.not_eq_false'] at e4
    have hok : okL xss[i.toNat] = true := by
      unfold okL
      rw [e4, decide_eq_false (by omega)]; rfl
    have hk := okL_len hok
    have hl1 := join_len40 59 ((xss.take i.toNat).map listL) fun y hy => by
      obtain ⟨l, hl, rfl⟩ := List.mem_map.1 hy
      exact okL_bytes (List.all_eq_true.1 hall l hl)
    have hl2 : ((xss.take i.toNat).map listL).length ≤ 8 := by simp; omega
    generalize hB : Lib.join ((xss.take i.toNat).map listL) [59] ++ (if i.toNat = 0 then [] else [59]) = B
    have Bl : B.length ≤ 400 := by rw [← hB, List.length_append]; split <;> simp only [List.length_nil, List.length_cons] <;> omega
    have next : Lib.join ((xss.take (i.toNat + 1)).map listL) [59] = B ++ listL xss[i.toNat] := by rw [join_take listL [59] hi2, hB]
    refine ⟨fun x h' => x = (⟨B.toArray⟩ : ByteArray) ∧ h' = h3, ⟨fun e5 => ⟨?_, ?_, rfl⟩, fun e5 => ⟨?_, rfl⟩⟩, ?_⟩
    · rw [ba_size]; show _ + 1 ≤ _; omega
    · simp only [decide_eq_true_eq] at e5
      rw [show (⟨#[59]⟩ : ByteArray) = ⟨[59].toArray⟩ from rfl, ba_app, ← hB, if_neg (by omega)]
    · simp only [decide_eq_false_iff_not] at e5
      rw [← hB, if_pos (by omega), List.append_nil]
    rintro x h5 ⟨rfl, rfl⟩ hL5
    refine ⟨fun x e' h' => x = (⟨(B ++ if xss[i.toNat].length = 0 then [45] else []).toArray⟩ : ByteArray) ∧ e' = ((xss.take (i.toNat + 1)).any fun l => decide (l.length = 0)) ∧ h' = h5, ⟨fun e5 => ⟨?_, ?_, ?_, rfl⟩, fun e5 => ⟨?_, ?_, rfl⟩⟩, ?_⟩
    · rw [ba_size]; show _ + 1 ≤ _; omega
    · simp only [decide_eq_true_eq] at e5
      rw [show (⟨#[45]⟩ : ByteArray) = ⟨[45].toArray⟩ from rfl, ba_app, if_pos (by omega)]
    · simp only [decide_eq_true_eq] at e5
      rw [any_take_succ hi2, decide_eq_true (show xss[i.toNat].length = 0 by omega), Bool.or_true]
    · simp only [decide_eq_false_iff_not] at e5
      rw [if_neg (by omega), List.append_nil]
    · simp only [decide_eq_false_iff_not] at e5
      rw [any_take_succ hi2, decide_eq_false (show ¬ xss[i.toNat].length = 0 by omega), Bool.or_false]
    rintro x2 e' h6 ⟨rfl, rfl, rfl⟩ hL6
    generalize hC : (B ++ if xss[i.toNat].length = 0 then [45] else []) = C
    have Cl : C.length ≤ 401 := by rw [← hC, List.length_append]; split <;> simp only [List.length_nil, List.length_cons] <;> omega
    refine ⟨fun m2 o j h' => 0 ≤ j ∧ j + m2 = (xss[i.toNat].length : Int) ∧ o = (⟨(C ++ Lib.join ((xss[i.toNat].take j.toNat).map fun y => Lib.decDigits y.toNat) [44]).toArray⟩ : ByteArray) ∧ Fr No h6 h', ⟨xss[i.toNat].length, by omega, by omega, by simp [Lib.join_nil], Fr.refl _ _⟩, ?_⟩
    rintro m2 o j h7 ⟨j0, j1, rfl, f7⟩ hL7
    have R7 := r1.no f7
    refine ⟨fun e5 => ?_, fun e5 => ?_⟩
    · have hj := R7.lt e5
      have hj2 : j.toNat < xss[i.toNat].length := by omega
      have dj := hk.2 _ (List.getElem_mem hj2)
      have hl3 := join_len ((xss[i.toNat].take j.toNat).map fun y => Lib.decDigits y.toNat) fun y hy => by
        obtain ⟨x, hx, rfl⟩ := List.mem_map.1 hy
        have := hk.2 x (List.mem_of_mem_take hx)
        exact dec_len (by omega)
      have hl4 : ((xss[i.toNat].take j.toNat).map fun y => Lib.decDigits y.toNat).length ≤ 12 := by simp; omega
      generalize hD : C ++ Lib.join ((xss[i.toNat].take j.toNat).map fun y => Lib.decDigits y.toNat) [44] ++ (if j.toNat = 0 then [] else [44]) = D
      have Dl : D.length ≤ 500 := by rw [← hD, List.length_append, List.length_append]; split <;> simp only [List.length_nil, List.length_cons] <;> omega
      refine ⟨R7.inb j0 hj, _, R7.get j0 hj, fun x h' => x = (⟨D.toArray⟩ : ByteArray) ∧ h' = h7, ⟨fun e6 => ⟨?_, ?_, rfl⟩, fun e6 => ⟨?_, rfl⟩⟩, ?_⟩
      · rw [ba_size, List.length_append]; show _ + 1 ≤ _; omega
      · simp only [decide_eq_true_eq] at e6
        rw [show (⟨#[44]⟩ : ByteArray) = ⟨[44].toArray⟩ from rfl, ba_app, ← hD, if_neg (by omega)]
      · simp only [decide_eq_false_iff_not] at e6
        rw [← hD, if_pos (by omega), List.append_nil]
      rintro x h8 ⟨rfl, rfl⟩ hL8
      refine k_l1Num dj.1 dj.2 _ fun h9 f9 => ⟨_, rfl, hL8.of_no f9, ?_, ?_⟩
      · have := dec_len (show (xss[i.toNat][j.toNat]).toNat < 100 by omega)
        rw [ba_size, ba_size]; omega
      · rw [R7.succ j0 hj]
        refine ⟨m2 - 1, by omega, by omega, by omega, ?_, f7.trans f9⟩
        rw [ba_app, show (j + 1).toNat = j.toNat + 1 by omega, join_take _ _ hj2, ← hD]
        simp only [List.append_assoc]
    · have hj := R7.ge e5
      rw [List.take_of_length_le (by omega), H3.succ i0 hi]
      refine ⟨m - 1, by omega, by omega, by omega, ?_, by rw [show (i + 1).toNat = i.toNat + 1 by omega], by rw [show (i + 1).toNat = i.toNat + 1 by omega]; exact all_take_succ hi2 hall hok, f3.trans f7⟩
      rw [show (i + 1).toNat = i.toNat + 1 by omega, next, ← hC]
      unfold listL
      by_cases hz : xss[i.toNat].length = 0
      · rw [if_pos hz, if_pos hz, List.length_eq_zero_iff.1 hz, List.map_nil, Lib.join_nil, List.append_nil]
      · rw [if_neg hz, if_neg hz, List.append_nil]
  · have hi := H3.ge e2
    rw [List.take_of_length_le (by omega)] at hall ⊢
    have hE := stx_end hin hall
    refine ⟨fun e3 => ?_, fun e3 => ?_⟩
    · have := HK h3 f3
      rw [hE, if_neg (by rw [not_t e3]; simp)] at this
      exact this
    · have := HK h3 f3
      rw [hE, if_pos (not_f e3)] at this
      exact this

theorem k_StacksText1 (x : Int) (h : Heap) (K : Value → Heap → Prop) (HK : K (VB (!inR 0 4 x)) h) : callV Tryd.prog (.func (.func 57) #[] #[]) [VI x] h K :=
  v57 x h K (k_impl_in _ _ _ _ _ ⟨_, rfl, .nil, HK⟩)

theorem k_StacksText {S : Nat → Prop} {h : Heap} {s : Sl} {xss : List (List Int)} (H : RdR S h s xss) (K : Value → Heap → Prop) (HK : ∀ h', Fr No h h' → K (.tuple #[VS (stxP xss).1, VB (stxP xss).2]) h') : callM Tryd.prog 10 #[.agg #[s.v]] h K := by
  have sn := H.len
  refine v10 s h K fun b1 h1 hb1 f1 hL1 => ?_
  have f1 := f1.in_nil
  have z1 := f1.size
  have l1 : b1 < h1.size := hL1.head.lt
  refine k_impl_in _ _ _ _ _ ⟨_, rfl, hL1, fun e => ?_, fun e => ?_⟩
  · have := HK h1 f1
    have hb : stxP xss = (⟨#[]⟩, false) := by
      unfold stxP stxB
      rw [if_neg]
      intro hc
      simp only [Bool.and_eq_true, inR_iff] at hc
      simp only [Bool.not_eq_true', Bool.and_eq_false_iff, decide_eq_false_iff_not] at e
      omega
    rw [hb] at this
    exact this
  simp only [Bool.not_eq_false', Bool.and_eq_true, decide_eq_true_eq] at e
  have hin : inR 1 8 (xss.length : Int) = true := inR_iff.2 (by omega)
  refine eop_lit rSs (fun k => h1.size ≤ k) (fun _ h => h) 0 (by omega) [] rfl rfl fun o h2 n2 c2 o2 f2 m2 _ => ⟨o, rfl, hL1.of_no f2, ?_⟩
  have z2 := f2.size
  have o2' : OwS h2 (fun k => h1.size ≤ k) o [] := o2
  have no_ : ∀ {x : Heap}, Fr (fun k => h1.size ≤ k) h x → Fr No h x := fun f => f.mono fun k hk hk2 => absurd hk2 (by omega)
  refine ⟨fun m emp x i h' => 0 ≤ i ∧ i + m = (xss.length : Int) ∧ OwS h' (fun k => h1.size ≤ k) x ((xss.take i.toNat).map fun l => (⟨(listL l).toArray⟩ : ByteArray)) ∧ emp = ((xss.take i.toNat).any fun l => decide (l.length = 0)) ∧ (xss.take i.toNat).all okL = true ∧ Fr (fun k => h1.size ≤ k) h h' ∧ h1.size ≤ h'.size, ⟨xss.length, by omega, by omega, by simpa using o2', rfl, rfl, f1.of_no.trans f2.of_no, z2⟩, ?_⟩
  rintro m emp x i h3 ⟨i0, i1, o3, rfl, hall, f3, z3⟩ hL3
  have H3 := H.no (no_ f3)
  refine ⟨fun e2 => ?_, fun e2 => ?_⟩
  · have hi := H3.lt e2
    have hi2 : i.toNat < xss.length := by omega
    obtain ⟨si, c1, r1⟩ := H3.get i0 hi
    have rn := r1.len
    have bad : okL xss[i.toNat] = false → K (.tuple #[VS ⟨#[]⟩, VB false]) h3 := fun hb => by
      have := HK h3 (no_ f3)
      rw [stx_no hi2 hb] at this
      exact this
    refine ⟨H3.inb i0 hi, si, c1, fun e3 => bad ?_, fun e3 => ?_⟩
    · simp only [decide_eq_true_eq] at e3
      unfold okL
      rw [decide_eq_true (by omega)]; rfl
    simp only [decide_eq_false_iff_not] at e3
    refine k_ContainsFunc r1 _ _ (fun x K HK => k_StacksText1 x h3 K HK) _ ⟨_, rfl, hL3, fun e4 => bad ?_, fun e4 => ?_⟩
    · rw [any_not] at e4
      unfold okL
      simp only [Bool.not_eq_true'] at e4
      rw [e4, Bool.and_false]
    rw [any_not] at e4
    simp only [Bool.not_eq_false'] at e4
    have hok : okL xss[i.toNat] = true := by
      unfold okL
      rw [e4, decide_eq_false (by omega)]; rfl
    have hk := okL_len hok
    have off : ∀ A (q : Nat × List Value), q ∈ [(b1, A)] → ¬ h1.size ≤ q.1 := fun A q hq => by
      simp only [List.mem_cons, List.not_mem_nil, or_false] at hq
      subst hq; simp only; omega
    have nxt : ∀ (u : Sl) (h' : Heap) (b : Bool), OwS h' (fun k => h1.size ≤ k) u ((xss.take i.toNat).map (fun l => (⟨(listL l).toArray⟩ : ByteArray)) ++ [⟨(listL xss[i.toNat]).toArray⟩]) → b = ((xss.take i.toNat).any (fun l => decide (l.length = 0)) || decide (xss[i.toNat].length = 0)) → Fr (fun k => h1.size ≤ k) h h' → h1.size ≤ h'.size → ∃ m' : Nat, m' < m ∧ (0 ≤ w64 (i + 1) ∧ w64 (i + 1) + m' = (xss.length : Int) ∧ OwS h' (fun k => h1.size ≤ k) u ((xss.take (w64 (i + 1)).toNat).map fun l => (⟨(listL l).toArray⟩ : ByteArray)) ∧ b = ((xss.take (w64 (i + 1)).toNat).any fun l => decide (l.length = 0)) ∧ (xss.take (w64 (i + 1)).toNat).all okL = true ∧ Fr (fun k => h1.size ≤ k) h h' ∧ h1.size ≤ h'.size) := fun u h' b O hb f z => by
      rw [H3.succ i0 hi, show (i + 1).toNat = i.toNat + 1 by omega]
      refine ⟨m - 1, by omega, by omega, by omega, ?_, by rw [any_take_succ hi2]; exact hb, all_take_succ hi2 hall hok, f, z⟩
      rw [List.take_add_one, List.getElem?_eq_getElem hi2, Option.toList_some, List.map_append]
      exact O
    refine ⟨fun e5 => ?_, fun e5 => ?_⟩
    · refine k_listText r1 (fun y hy => by have := hk.2 y hy; omega) (by omega) _ fun h9 f9 => ⟨_, rfl, hL3.of_no f9, ?_⟩
      have z9 := f9.size
      refine eop_putS (Ow.no o3 f9) (fun k hk => by omega) (hL3.of_no f9) (off _) (by simp; omega) _ fun u h11 o11 f11 V11 => ?_
      have z11 := f11.size
      exact nxt u h11 true o11 (by rw [e5]; rfl) ((f3.trans f9.of_no).trans f11) (by omega)
    · refine k_listText r1 (fun y hy => by have := hk.2 y hy; omega) (by omega) _ fun h9 f9 => ⟨_, rfl, hL3.of_no f9, ?_⟩
      have z9 := f9.size
      refine eop_putS (Ow.no o3 f9) (fun k hk => by omega) (hL3.of_no f9) (off _) (by simp; omega) _ fun u h11 o11 f11 V11 => ?_
      have z11 := f11.size
      exact nxt u h11 _ o11 (by rw [e5, Bool.false_or]; congr 1; rw [rn]; simp) ((f3.trans f9.of_no).trans f11) (by omega)
  · have hi := H3.ge e2
    rw [List.take_of_length_le (by omega)] at hall o3 ⊢
    have hE := stx_end hin hall
    refine ⟨fun e3 => ?_, fun e3 => ?_⟩
    · have := HK h3 (no_ f3)
      rw [hE, if_neg (by rw [not_t e3]; simp)] at this
      exact this
    · have hm : ((xss.map fun l => (⟨(listL l).toArray⟩ : ByteArray)).map (·.data.toList)) = xss.map listL := by simp
      have hjl := join_len40 59 (xss.map listL) fun y hy => by
        obtain ⟨l, hl, rfl⟩ := List.mem_map.1 hy
        exact okL_bytes (List.all_eq_true.1 hall l hl)
      rw [List.length_map] at hjl
      refine k_Join o3.rdF (fun hh => by have := congrArg List.length hh; simp at this; simp [this] at sn; omega) (by simp; omega) (by rw [hm]; show (Lib.join _ [59]).length ≤ _; omega) _ fun h12 f12 => ⟨_, rfl, hL3.of_no f12, ?_⟩
      have := HK h12 ((no_ f3).trans f12)
      rw [hE, if_pos (not_f e3)] at this
      rw [hm]
      exact this

set_option maxHeartbeats 4000000 in
theorem k_lawStacksText {h : Heap} {S0 : Nat → Prop} {s0 : Sl} {x0 : List (List Int)} (G0 : RdR S0 h s0 x0)  : Ret Tryd.prog 3 #[.agg #[s0.v]] h (VB true) := by
  intro K HK
  replace G0 := RdR.toIv G0
  have fz : Fr No h h := Fr.refl _ _
  refine v3 s0 h K ?_
  have hL : Vars h [] := .nil
  intro b_1 h_1 hb_b_1 f1 hL
  have lt_b_1 : b_1 < h_1.size := (hL).head.lt
  replace f1 := f1.in_nil
  have z_f1 := f1.size
  replace G0 := RdR.no G0 f1
  replace fz := fz.no_trans f1
  refine g_szStacks G0 _ (by omega) (by omega) _ fun h_2 r2 f2 hr2 => ⟨r2, rfl, hL.of_no f2, ?_⟩
  replace hL := hL.of_no f2
  have z_f2 := f2.size
  replace G0 := RdR.no G0 f2
  replace fz := fz.no_trans f2
  refine ⟨fun e => ?_, fun e => ?_⟩
  · exact HK _ fz
  (try simp only [decide_eq_false_iff_not] at e)
  refine g_toStacks G0 (by omega) _ fun u3_0 h_3 O3_0 f3 => ⟨u3_0, rfl, hL.of_no f3, ?_⟩
  replace hL := hL.of_no f3
  have z_f3 := f3.size
  replace G0 := RdR.no G0 f3
  replace fz := fz.no_trans f3
  refine k_spec_StacksText (OwR.rdI O3_0) _ fun  h_4  f4 => ⟨_, _, rfl, hL.of_no f4, ?_⟩
  replace hL := hL.of_no f4
  have z_f4 := f4.size
  replace G0 := RdR.no G0 f4
  replace O3_0 := OwR.no O3_0 f4
  replace fz := fz.no_trans f4
  refine g_toStacks G0 (by omega) _ fun u5_0 h_5 O5_0 f5 => ⟨u5_0, rfl, hL.of_no f5, ?_⟩
  replace hL := hL.of_no f5
  have z_f5 := f5.size
  replace G0 := RdR.no G0 f5
  replace O3_0 := OwR.no O3_0 f5
  replace fz := fz.no_trans f5
  intro b_2 h_7 hb_b_2 f6 hL
  have lt_b_2 : b_2 < h_7.size := (hL).head.lt
  replace f6 := f6.in_nil
  have z_f6 := f6.size
  replace G0 := RdR.no G0 f6
  replace O3_0 := OwR.no O3_0 f6
  replace O5_0 := OwR.no O5_0 f6
  replace fz := fz.no_trans f6
  refine k_StacksText (OwR.rdI O5_0) _ fun  h_8  f7 => ⟨_, _, rfl, hL.of_no f7, ?_⟩
  replace hL := hL.of_no f7
  have z_f7 := f7.size
  replace G0 := RdR.no G0 f7
  replace O3_0 := OwR.no O3_0 f7
  replace O5_0 := OwR.no O5_0 f7
  replace fz := fz.no_trans f7
  refine ⟨fun e => ?_, fun e => ?_⟩
  · first | (simp at e; done) | (simp only [decide_eq_true_eq] at e; omega)
  (try simp only [decide_eq_false_iff_not] at e)
  refine ⟨fun e => ?_, fun e => ?_⟩
  · first | (simp at e; done) | (simp only [decide_eq_true_eq] at e; omega)
  (try simp only [decide_eq_false_iff_not] at e)
  refine g_toStacks G0 (by omega) _ fun u8_0 h_9 O8_0 f8 => ⟨u8_0, rfl, hL.of_no f8, ?_⟩
  replace hL := hL.of_no f8
  have z_f8 := f8.size
  replace G0 := RdR.no G0 f8
  replace O3_0 := OwR.no O3_0 f8
  replace O5_0 := OwR.no O5_0 f8
  replace fz := fz.no_trans f8
  refine g_eqStacks (OwR.rdI O5_0) (OwR.rdI O8_0) _ fun h_10 f9 => ⟨_, rfl, hL.of_no f9, ?_⟩
  replace hL := hL.of_no f9
  have z_f9 := f9.size
  replace G0 := RdR.no G0 f9
  replace O3_0 := OwR.no O3_0 f9
  replace O5_0 := OwR.no O5_0 f9
  replace O8_0 := OwR.no O8_0 f9
  replace fz := fz.no_trans f9
  refine ⟨fun e => ?_, fun e => ?_⟩
  · first | (simp at e; done) | (simp only [decide_eq_true_eq] at e; omega)
  (try simp only [decide_eq_false_iff_not] at e)
  exact HK _ fz
end Go.Proofs.YtkjkfjkapbpgiaaDoor
