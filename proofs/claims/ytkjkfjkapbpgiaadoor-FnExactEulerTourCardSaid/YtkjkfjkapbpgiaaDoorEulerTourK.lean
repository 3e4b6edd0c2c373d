/-
  What each function that the law 'FnExactEulerTour' comes to does: the contracts.
-/
import Derived.Test.YtkjkfjkapbpgiaaDoorEulerTourK0
set_option linter.unusedVariables false
set_option linter.unusedSimpArgs false
namespace Go.Proofs.YtkjkfjkapbpgiaaDoor
open Go Go.Mx
/-! Chips in any order: what moves make is told by their numbers. -/
def dstP (g : List (List Int)) (rs : List Int) (q j : Nat) : Int := (g.getD q []).getD (((rs.getD q 0).toNat + j) % (g.getD q []).length) 0
/-- How many of the first k moves at q send a chip to p. -/
def arrP (g : List (List Int)) (rs : List Int) (q : Nat) : Nat → Nat → Nat
  | 0, _ => 0
  | k + 1, p => arrP g rs q k p + (if dstP g rs q (k + 1) = (p : Int) then 1 else 0)
def sumN (f : Nat → Nat) : Nat → Nat
  | 0 => 0
  | n + 1 => sumN f n + f n
theorem sumN_congr {f f' : Nat → Nat} : ∀ {n : Nat}, (∀ i, i < n → f i = f' i) → sumN f n = sumN f' n
  | 0, _ => rfl
  | n + 1, h => by rw [sumN, sumN, sumN_congr fun i hi => h i (by omega), h n (by omega)]
theorem sumN_le {f f' : Nat → Nat} : ∀ {n : Nat}, (∀ i, i < n → f i ≤ f' i) → sumN f n ≤ sumN f' n
  | 0, _ => Nat.le_refl _
  | n + 1, h => by
    have := sumN_le (n := n) fun i hi => h i (by omega)
    have := h n (by omega)
    rw [sumN, sumN]; omega
theorem sumN_one {f f' : Nat → Nat} {p d : Nat} (hp : f' p = f p + d) (ho : ∀ i, i ≠ p → f' i = f i) : ∀ n, sumN f' n = sumN f n + (if p < n then d else 0)
  | 0 => by simp [sumN]
  | n + 1 => by
    rw [sumN, sumN, sumN_one hp ho n]
    by_cases e : n = p
    · subst e; rw [hp, if_neg (by omega), if_pos (by omega)]; omega
    · rw [ho n e]
      by_cases h : p < n
      · rw [if_pos h, if_pos (by omega)]; omega
      · rw [if_neg h, if_neg (by omega), Nat.add_zero, Nat.add_zero]
theorem sumN_eq {f f' : Nat → Nat} : ∀ {n : Nat}, (∀ i, i < n → f i ≤ f' i) → sumN f' n ≤ sumN f n → ∀ i, i < n → f i = f' i
  | n + 1, h, hs, i, hi => by
    rw [sumN, sumN] at hs
    have h1 := sumN_le (n := n) fun i hi => h i (by omega)
    have h2 := h n (by omega)
    by_cases e : i = n
    · subst e; omega
    · exact sumN_eq (n := n) (fun i hi => h i (by omega)) (by omega) i (by omega)
def upC (c : Nat → Nat) (p : Nat) : Nat → Nat := fun i => if i = p then c i + 1 else c i
theorem upC_at (c : Nat → Nat) (p : Nat) : upC c p p = c p + 1 := by unfold upC; rw [if_pos rfl]
theorem upC_ne (c : Nat → Nat) {p i : Nat} (h : i ≠ p) : upC c p i = c i := by unfold upC; rw [if_neg h]
/-- The load behind so many moves at each place. -/
structure IsSt (g : List (List Int)) (l : Lo) (c : Nat → Nat) (l' : Lo) : Prop where
  len1 : l'.1.length = g.length
  len2 : l'.2.length = g.length
  ex : ∀ q, q < g.length → (g.getD q []).length = 0 → c q = 0
  rot : ∀ q, q < g.length → l'.1.getD q 0 = if (g.getD q []).length = 0 then l.1.getD q 0 else ((((l.1.getD q 0).toNat + c q) % (g.getD q []).length : Nat) : Int)
  chip : ∀ p, p < g.length → l'.2.getD p 0 = l.2.getD p 0 - (c p : Int) + ((sumN (fun q => arrP g l.1 q (c q) p) g.length : Nat) : Int)
theorem ext_getD {xs ys : List Int} (hl : xs.length = ys.length) (h : ∀ i, i < xs.length → xs.getD i 0 = ys.getD i 0) : xs = ys := by
  apply List.ext_getElem hl
  intro i h1 h2
  have := h i h1
  rwa [getD_getI h1, getD_getI h2] at this
theorem IsSt.same {g : List (List Int)} {l a b : Lo} {c c' : Nat → Nat} (A : IsSt g l c a) (B : IsSt g l c' b) (hc : ∀ i, i < g.length → c i = c' i) : a = b := by
  have h1 : a.1 = b.1 := ext_getD (by rw [A.len1, B.len1]) fun i hi => by
    rw [A.len1] at hi
    rw [A.rot i hi, B.rot i hi, hc i hi]
  have h2 : a.2 = b.2 := ext_getD (by rw [A.len2, B.len2]) fun i hi => by
    rw [A.len2] at hi
    rw [A.chip i hi, B.chip i hi, hc i hi, sumN_congr (f := fun q => arrP g l.1 q (c q) i) (f' := fun q => arrP g l.1 q (c' q) i) fun q hq => by simp only [hc q hq]]
  exact Prod.ext h1 h2
theorem LOK.rotN {g : List (List Int)} {m : Nat} {l : Lo} (L : LOK g m l) {q : Nat} (hq : q < g.length) : 0 ≤ l.1.getD q 0 ∧ ((g.getD q []).length ≠ 0 → (l.1.getD q 0).toNat < (g.getD q []).length) := by
  have hl : l.1.length = g.length := L.w.len
  have h1 : q < l.1.length := by omega
  have := L.w.rot q h1 hq
  simp only at this
  rw [getD_getI h1, List.getD_eq_getElem?_getD, List.getElem?_eq_getElem hq, Option.getD_some]
  exact ⟨this.1, fun hn => by omega⟩
theorem IsSt.init {g : List (List Int)} {m : Nat} {l : Lo} (L : LOK g m l) : IsSt g l (fun _ => 0) l := by
  refine ⟨L.w.len, L.len, fun _ _ _ => rfl, fun q hq => ?_, fun p hp => ?_⟩
  · obtain ⟨a, b⟩ := L.rotN hq
    split
    · rfl
    · rename_i hn
      rw [Nat.add_zero, Nat.mod_eq_of_lt (b hn)]
      omega
  · have : sumN (fun q => arrP g l.1 q ((fun _ => 0) q) p) g.length = 0 := by
      have : ∀ n, sumN (fun q => arrP g l.1 q ((fun _ => 0) q) p) n = 0 := by
        intro n
        induction n with
        | zero => rfl
        | succ n ih => rw [sumN, ih]; rfl
      exact this _
    rw [this]; simp
theorem getD_set {xs : List Int} {i j : Nat} {v : Int} (hi : i < xs.length) : (xs.set i v).getD j 0 = if j = i then v else xs.getD j 0 := by
  by_cases hj : j < xs.length
  · rw [getD_getI (by rw [List.length_set]; exact hj), List.getElem_set, getD_getI hj]
    by_cases e : i = j
    · rw [if_pos e, if_pos e.symm]
    · rw [if_neg e, if_neg fun h => e h.symm]
  · rw [if_neg (by omega), List.getD_eq_getElem?_getD, List.getElem?_eq_none (by rw [List.length_set]; omega), List.getD_eq_getElem?_getD, List.getElem?_eq_none (by omega)]
/-- What a move makes. -/
theorem mvP_at {g : List (List Int)} {m : Nat} {l : Lo} (L : LOK g m l) {p : Nat} (hp : p < g.length) (hn : (g.getD p []).length ≠ 0) : ∃ k : Nat, k = ((l.1.getD p 0).toNat + 1) % (g.getD p []).length ∧ 0 ≤ (g.getD p []).getD k 0 ∧ (g.getD p []).getD k 0 < (g.length : Int) ∧ (mvP g l p).1 = l.1.set p (k : Int) ∧ ∀ i, i < g.length → (mvP g l p).2.getD i 0 = l.2.getD i 0 - (if i = p then 1 else 0) + (if (g.getD p []).getD k 0 = (i : Int) then 1 else 0) := by
  have hl : l.1.length = g.length := L.w.len
  have hl2 := L.len
  have W : WOK g (l.1, (p : Int)) := L.w.to (by omega) (by omega)
  have hs : stepP g (l.1, (p : Int)) = some (l.1.set p ((((l.1.getD p 0).toNat + 1) % (g.getD p []).length : Nat) : Int), (g.getD p []).getD (((l.1.getD p 0).toNat + 1) % (g.getD p []).length) 0) := by
    unfold stepP
    simp only [Int.toNat_natCast]
    rw [if_neg hn]
  have W' := W.step hs
  have h0 := W'.lo
  have h1 := W'.hi
  simp only at h0 h1
  refine ⟨_, rfl, h0, h1, ?_, fun i hi => ?_⟩
  · unfold mvP; rw [hs]
  · have e : (mvP g l p).2 = (l.2.set p (l.2.getD p 0 - 1)).set ((g.getD p []).getD (((l.1.getD p 0).toNat + 1) % (g.getD p []).length) 0).toNat ((l.2.set p (l.2.getD p 0 - 1)).getD ((g.getD p []).getD (((l.1.getD p 0).toNat + 1) % (g.getD p []).length) 0).toNat 0 + 1) := by
      unfold mvP; rw [hs]
      simp only [Int.toNat_natCast]
    rw [e]
    generalize (g.getD p []).getD (((l.1.getD p 0).toNat + 1) % (g.getD p []).length) 0 = d at *
    rw [getD_set (by rw [List.length_set]; omega), getD_set (by omega), getD_set (by omega)]
    by_cases hd : i = d.toNat
    · rw [if_pos hd, if_pos (show d = (i : Int) by omega), ← hd]
      by_cases hip : i = p
      · rw [if_pos hip, if_pos hip, hip]
      · rw [if_neg hip, if_neg hip]; omega
    · rw [if_neg hd, if_neg (show ¬ d = (i : Int) by omega)]
      by_cases hip : i = p
      · rw [if_pos hip, if_pos hip, hip]; omega
      · rw [if_neg hip, if_neg hip]; omega
theorem IsSt.mv {g : List (List Int)} {m : Nat} {l l' : Lo} {c : Nat → Nat} (L0 : LOK g 0 l) (A : IsSt g l c l') (L : LOK g m l') {p : Nat} (hp : p < g.length) (hn : (g.getD p []).length ≠ 0) : IsSt g l (upC c p) (mvP g l' p) := by
  obtain ⟨k, ek, k0, k1, e1, e2⟩ := mvP_at L hp hn
  have hl := A.len1
  have hl2 := (mvP_len L (p := (p : Int)) (by omega) (by omega)).2
  have hr := A.rot p hp
  rw [if_neg hn] at hr
  have ek' : k = ((l.1.getD p 0).toNat + (c p + 1)) % (g.getD p []).length := by
    rw [ek, hr, Int.toNat_natCast, Nat.mod_add_mod, Nat.add_assoc]
  refine ⟨by rw [e1, List.length_set]; exact hl, hl2, fun q hq h => ?_, fun q hq => ?_, fun i hi => ?_⟩
  · have : q ≠ p := fun e => hn (e ▸ h)
    rw [upC_ne c this]; exact A.ex q hq h
  · rw [e1, getD_set (by omega)]
    by_cases e : q = p
    · subst e; rw [if_pos rfl, if_neg hn, upC_at, ek']
    · rw [if_neg e, upC_ne c e]; exact A.rot q hq
  · rw [e2 i hi, A.chip i hi]
    have hs := sumN_one (f := fun q => arrP g l.1 q (c q) i) (f' := fun q => arrP g l.1 q (upC c p q) i) (p := p) (d := if dstP g l.1 p (c p + 1) = (i : Int) then 1 else 0) (by simp only [upC_at, arrP]) (fun q hq => by simp only [upC_ne c hq]) g.length
    rw [hs, if_pos hp]
    have hd : dstP g l.1 p (c p + 1) = (g.getD p []).getD k 0 := by unfold dstP; rw [ek']
    rw [hd]
    have hc : (upC c p i : Int) = (c i : Int) + (if i = p then 1 else 0) := by
      by_cases e : i = p
      · subst e; rw [upC_at, if_pos rfl]; omega
      · rw [upC_ne c e, if_neg e]; omega
    rw [hc]
    split <;> split <;> omega
theorem arrP_mono {g : List (List Int)} {rs : List Int} {q p : Nat} {k : Nat} : ∀ d, arrP g rs q k p ≤ arrP g rs q (k + d) p
  | 0 => Nat.le_refl _
  | d + 1 => by
    have := arrP_mono (g := g) (rs := rs) (q := q) (p := p) (k := k) d
    rw [← Nat.add_assoc, arrP]; omega
/-- Moves with a chip each, but at the sink. -/
def Leg (g : List (List Int)) (sink : Int) : List Int → Lo → Lo → Prop
  | [], l, l' => l = l'
  | p :: w, l, l' => 0 ≤ p ∧ p < (g.length : Int) ∧ p ≠ sink ∧ 1 ≤ l.2.getD p.toNat 0 ∧ Leg g sink w (mvP g l p) l'
theorem Leg.append {g : List (List Int)} {sink : Int} : ∀ {w v : List Int} {l l' l'' : Lo}, Leg g sink w l l' → Leg g sink v l' l'' → Leg g sink (w ++ v) l l''
  | [], v, l, l', l'', h, h' => by rw [show l = l' from h]; exact h'
  | p :: w, v, l, l', l'', h, h' => ⟨h.1, h.2.1, h.2.2.1, h.2.2.2.1, h.2.2.2.2.append h'⟩
def upW (c : Nat → Nat) : List Int → Nat → Nat
  | [] => c
  | p :: w => upW (upC c p.toNat) w
/-- Each place but the sink has an exit. -/
def SnkOK (g : List (List Int)) (sink : Int) : Prop := ∀ p : Nat, p < g.length → (p : Int) ≠ sink → (g.getD p []).length ≠ 0
theorem IsSt.leg {g : List (List Int)} {sink : Int} (hg : SnkOK g sink) {l : Lo} (L0 : LOK g 0 l) : ∀ {w : List Int} {m : Nat} {c : Nat → Nat} {a b : Lo}, IsSt g l c a → LOK g m a → Leg g sink w a b → IsSt g l (upW c w) b ∧ LOK g (m + w.length) b
  | [], m, c, a, b, A, L, h => by rw [← show a = b from h]; exact ⟨A, L⟩
  | p :: w, m, c, a, b, A, L, h => by
    obtain ⟨h0, h1, h2, h3, h4⟩ := h
    have e : ((p.toNat : Nat) : Int) = p := by omega
    have A' := A.mv L0 L (p := p.toNat) (by omega) (hg _ (by omega) (by rw [e]; exact h2))
    rw [e] at A'
    obtain ⟨r1, r2⟩ := IsSt.leg hg L0 A' (L.mv h0 h1) h4
    refine ⟨r1, ?_⟩
    rw [List.length_cons, show m + (w.length + 1) = m + 1 + w.length by omega]
    exact r2
/-- No place but the sink has a chip. -/
def Ended (g : List (List Int)) (sink : Int) (l : Lo) : Prop := ∀ p : Nat, p < g.length → (p : Int) ≠ sink → l.2.getD p 0 ≤ 0
/-- Where moves are enough, none is made more often. -/
theorem least_step {g : List (List Int)} {sink : Int} {l a e : Lo} {c d : Nat → Nat} (A : IsSt g l c a) (E : IsSt g l d e) (hE : Ended g sink e) (hle : ∀ i, i < g.length → c i ≤ d i) {p : Nat} (hp : p < g.length) (hs : (p : Int) ≠ sink) (h1 : 1 ≤ a.2.getD p 0) : c p < d p := by
  refine Nat.lt_of_le_of_ne (hle p hp) fun he => ?_
  have e1 := A.chip p hp
  have e2 := E.chip p hp
  have e3 := hE p hp hs
  have e4 := sumN_le (f := fun q => arrP g l.1 q (c q) p) (f' := fun q => arrP g l.1 q (d q) p) (n := g.length) fun q hq => by
    have := arrP_mono (g := g) (rs := l.1) (q := q) (p := p) (k := c q) (d q - c q)
    have h := hle q hq
    rw [show c q + (d q - c q) = d q by omega] at this
    exact this
  omega
theorem least_leg {g : List (List Int)} {sink : Int} (hg : SnkOK g sink) {l e : Lo} {d : Nat → Nat} (L0 : LOK g 0 l) (E : IsSt g l d e) (hE : Ended g sink e) : ∀ {w : List Int} {m : Nat} {c : Nat → Nat} {a b : Lo}, IsSt g l c a → LOK g m a → (∀ i, i < g.length → c i ≤ d i) → Leg g sink w a b → ∀ i, i < g.length → upW c w i ≤ d i
  | [], m, c, a, b, A, L, hle, h => hle
  | p :: w, m, c, a, b, A, L, hle, h => by
    obtain ⟨h0, h1, h2, h3, h4⟩ := h
    have e : ((p.toNat : Nat) : Int) = p := by omega
    have hlt := least_step A E hE hle (p := p.toNat) (by omega) (by rw [e]; exact h2) h3
    have A' := A.mv L0 L (p := p.toNat) (by omega) (hg _ (by omega) (by rw [e]; exact h2))
    rw [e] at A'
    rw [upW]
    refine least_leg hg L0 E hE (c := upC c p.toNat) A' (L.mv h0 h1) (fun i hi => ?_) h4
    by_cases ei : i = p.toNat
    · subst ei; rw [upC_at]; omega
    · rw [upC_ne c ei]; exact hle i hi
theorem upW_mono : ∀ (w : List Int) (c : Nat → Nat) (i : Nat), c i ≤ upW c w i
  | [], c, i => Nat.le_refl _
  | p :: w, c, i => by
    have := upW_mono w (upC c p.toNat) i
    rw [upW]
    by_cases e : i = p.toNat
    · subst e; rw [upC_at] at this; omega
    · rw [upC_ne c e] at this; exact this
theorem upW_sum {n : Nat} : ∀ (w : List Int) (c : Nat → Nat), (∀ p, p ∈ w → 0 ≤ p ∧ p < (n : Int)) → sumN (upW c w) n = sumN c n + w.length
  | [], c, _ => rfl
  | p :: w, c, h => by
    have h1 := h p List.mem_cons_self
    rw [upW, upW_sum w _ fun q hq => h q (List.mem_cons_of_mem _ hq), sumN_one (f := c) (p := p.toNat) (d := 1) (upC_at _ _) (fun i hi => upC_ne c hi), if_pos (by omega), List.length_cons]
    omega
theorem Leg.rng {g : List (List Int)} {sink : Int} : ∀ {w : List Int} {l l' : Lo}, Leg g sink w l l' → ∀ p, p ∈ w → 0 ≤ p ∧ p < (g.length : Int)
  | q :: w, l, l', h, p, hp => by
    rcases List.mem_cons.1 hp with e | e
    · rw [e]; exact ⟨h.1, h.2.1⟩
    · exact h.2.2.2.2.rng p e
theorem upW_off {p : Nat} : ∀ {w : List Int} (c : Nat → Nat), (∀ q, q ∈ w → q.toNat ≠ p) → upW c w p = c p
  | [], c, _ => rfl
  | q :: w, c, h => by
    rw [upW, upW_off _ fun x hx => h x (List.mem_cons_of_mem _ hx), upC_ne c fun e => h q List.mem_cons_self e.symm]
theorem Leg.off {g : List (List Int)} {sink : Int} : ∀ {w : List Int} {l l' : Lo}, Leg g sink w l l' → ∀ p, p ∈ w → p ≠ sink
  | q :: w, l, l', h, p, hp => by
    rcases List.mem_cons.1 hp with e | e
    · rw [e]; exact h.2.2.1
    · exact h.2.2.2.2.off p e
/-- Two ends of one load: the same moves. -/
theorem ends_same {g : List (List Int)} {sink : Int} (hg : SnkOK g sink) {l a b : Lo} (L0 : LOK g 0 l) {v w : List Int} (h1 : Leg g sink v l a) (h2 : Leg g sink w l b) (e1 : Ended g sink a) (e2 : Ended g sink b) : a = b ∧ (∀ i, i < g.length → upW (fun _ => 0) v i = upW (fun _ => 0) w i) ∧ v.length = w.length := by
  have A := (IsSt.init L0).leg hg L0 L0 h1
  have B := (IsSt.init L0).leg hg L0 L0 h2
  have i1 := least_leg hg L0 B.1 e2 (IsSt.init L0) L0 (fun i _ => Nat.zero_le _) h1
  have i2 := least_leg hg L0 A.1 e1 (IsSt.init L0) L0 (fun i _ => Nat.zero_le _) h2
  have hs : ∀ i, i < g.length → upW (fun _ => 0) v i = upW (fun _ => 0) w i := fun i hi => Nat.le_antisymm (i1 i hi) (i2 i hi)
  refine ⟨A.1.same B.1 hs, hs, ?_⟩
  have s1 := upW_sum v (fun _ => 0) h1.rng
  have s2 := upW_sum w (fun _ => 0) h2.rng
  rw [sumN_congr hs] at s1
  omega
/-! The numbers of moves as lists. -/
def CntOK (n : Nat) (c : Nat → Nat) (xs : List Int) : Prop := xs.length = n ∧ ∀ i, i < n → xs.getD i 0 = (c i : Int)
theorem CntOK.bump {n : Nat} {c : Nat → Nat} {xs : List Int} (h : CntOK n c xs) {p : Nat} (hp : p < n) : CntOK n (upC c p) (Go.Proofs.YtkjkfjkapbpgiaaDoor.bump xs p) := by
  refine ⟨by rw [bump_length]; exact h.1, fun i hi => ?_⟩
  unfold Go.Proofs.YtkjkfjkapbpgiaaDoor.bump
  rw [getD_set (by rw [h.1]; exact hp)]
  by_cases e : i = p
  · subst e; rw [if_pos rfl, upC_at, h.2 i hi]; omega
  · rw [if_neg e, upC_ne c e, h.2 i hi]
theorem CntOK.same {n : Nat} {c d : Nat → Nat} {xs ys : List Int} (h : CntOK n c xs) (h' : CntOK n d ys) (hc : ∀ i, i < n → c i = d i) : xs = ys :=
  ext_getD (by rw [h.1, h'.1]) fun i hi => by
    rw [h.1] at hi
    rw [h.2 i hi, h'.2 i hi, hc i hi]
theorem CntOK.zero (n : Nat) : CntOK n (fun _ => 0) (List.replicate n 0) := ⟨by simp, fun i hi => by rw [getD_getI (by simpa using hi)]; simp⟩
theorem wait_mem {sink : Int} {cs : List Int} : ∀ {n p : Nat}, p < n → (p : Int) ≠ sink → 0 < cs.getD p 0 → (p : Int) ∈ wtP sink cs n
  | n + 1, p, h, h1, h2 => by
    rw [wtP, List.mem_append]
    by_cases e : p = n
    · subst e; exact .inr (by rw [if_pos ⟨h1, h2⟩]; simp)
    · exact .inl (wait_mem (by omega) h1 h2)
theorem ended_of {g : List (List Int)} {sink : Int} {l : Lo} (hl : l.2.length = g.length) (h : (waitP sink l.2).length = 0) : Ended g sink l := by
  intro p hp hs
  refine Int.not_lt.1 fun hlt => ?_
  have := wait_mem (sink := sink) (cs := l.2) (n := l.2.length) (by omega) hs hlt
  unfold waitP at h
  rw [List.length_eq_zero_iff.1 h] at this
  simp at this
theorem of_ended {g : List (List Int)} {sink : Int} {l : Lo} (hl : l.2.length = g.length) (h : Ended g sink l) : (waitP sink l.2).length = 0 := by
  refine Classical.byContradiction fun hn => ?_
  have hm := List.getElem_mem (show 0 < (waitP sink l.2).length by omega)
  have := wtP_mem sink l.2 _ _ hm
  have h2 := h (waitP sink l.2)[0].toNat (by omega) (by omega)
  omega
/-- The end that is made is one of legal moves. -/
theorem endL_leg {g : List (List Int)} {sink : Int} {ch : List Int} (hc : ∀ c, c ∈ ch → 0 ≤ c) : ∀ (f j : Nat) (l : Lo) (cnt : List Int) (m : Nat) (c : Nat → Nat), LOK g m l → CntOK g.length c cnt → (endL g sink ch f j l cnt).2.2 = true → ∃ w, w.length ≤ f ∧ Leg g sink w l (endL g sink ch f j l cnt).1 ∧ CntOK g.length (upW c w) (endL g sink ch f j l cnt).2.1 ∧ Ended g sink (endL g sink ch f j l cnt).1
  | 0, j, l, cnt, m, c, L, hcnt, h => by
    rw [endL] at h ⊢
    by_cases hw : (waitP sink l.2).length = 0
    · rw [if_pos hw]
      exact ⟨[], Nat.le_refl _, rfl, hcnt, ended_of L.len hw⟩
    · rw [if_neg hw] at h; simp at h
  | f + 1, j, l, cnt, m, c, L, hcnt, h => by
    rw [endL] at h ⊢
    by_cases hw : (waitP sink l.2).length = 0
    · rw [if_pos hw]
      exact ⟨[], Nat.zero_le _, rfl, hcnt, ended_of L.len hw⟩
    · rw [if_neg hw] at h ⊢
      obtain ⟨p0, p1, p2⟩ := pick_ok L hc hw j
      have p3 := (wtP_mem sink l.2 _ _ (pick_mem hc hw j)).2.2.2
      obtain ⟨w, w1, w2, w3, w4⟩ := endL_leg hc f (j + 1) _ _ (m + 1) _ (L.mv p0 p1) (hcnt.bump (by omega)) h
      exact ⟨_ :: w, by simp only [List.length_cons]; omega, ⟨p0, p1, p2, by omega, w2⟩, w3, w4⟩
/-- An end is come to if there is one over no more moves. -/
theorem endL_comes {g : List (List Int)} {sink : Int} {ch : List Int} (hg : SnkOK g sink) (hc : ∀ c, c ∈ ch → 0 ≤ c) {l0 e : Lo} {d : Nat → Nat} (L0 : LOK g 0 l0) (E : IsSt g l0 d e) (hE : Ended g sink e) : ∀ (f j : Nat) (l : Lo) (cnt : List Int) (m : Nat) (c : Nat → Nat), LOK g m l → IsSt g l0 c l → (∀ i, i < g.length → c i ≤ d i) → sumN d g.length ≤ sumN c g.length + f → (endL g sink ch f j l cnt).2.2 = true
  | 0, j, l, cnt, m, c, L, A, hle, hs => by
    have heq := sumN_eq hle (by omega)
    have : l = e := A.same E heq
    rw [endL, if_pos (of_ended L.len (this ▸ hE))]
  | f + 1, j, l, cnt, m, c, L, A, hle, hs => by
    rw [endL]
    by_cases hw : (waitP sink l.2).length = 0
    · rw [if_pos hw]
    · rw [if_neg hw]
      obtain ⟨p0, p1, p2⟩ := pick_ok L hc hw j
      have p3 := (wtP_mem sink l.2 _ _ (pick_mem hc hw j)).2.2.2
      have e : (((pickP ch (waitP sink l.2) j).toNat : Nat) : Int) = pickP ch (waitP sink l.2) j := by omega
      have hlt := least_step A E hE hle (p := (pickP ch (waitP sink l.2) j).toNat) (by omega) (by rw [e]; exact p2) (by omega)
      have A' := A.mv L0 L (p := (pickP ch (waitP sink l.2) j).toNat) (by omega) (hg _ (by omega) (by rw [e]; exact p2))
      rw [e] at A'
      refine endL_comes hg hc L0 E hE f (j + 1) _ _ (m + 1) _ (L.mv p0 p1) A' (fun i hi => ?_) ?_
      · by_cases ei : i = (pickP ch (waitP sink l.2) j).toNat
        · subst ei; rw [upC_at]; omega
        · rw [upC_ne c ei]; exact hle i hi
      · rw [sumN_one (f := c) (p := (pickP ch (waitP sink l.2) j).toNat) (d := 1) (upC_at _ _) (fun i hi => upC_ne c hi), if_pos (by omega)]
        omega
/-! The sum of chips stays. -/
theorem sum_set : ∀ (xs : List Int) (i : Nat) (v : Int), i < xs.length → (xs.set i v).sum = xs.sum - xs.getD i 0 + v
  | [], i, v, h => by simp at h
  | x :: xs, 0, v, h => by simp; omega
  | x :: xs, i + 1, v, h => by
    rw [List.set_cons_succ, List.sum_cons, List.sum_cons, sum_set xs i v (by simpa using h), List.getD_cons_succ]
    omega
theorem mvP_sum {g : List (List Int)} {m : Nat} {l : Lo} (L : LOK g m l) {p : Int} (h0 : 0 ≤ p) (h1 : p < (g.length : Int)) : (mvP g l p).2.sum = l.2.sum := by
  unfold mvP
  split
  · rfl
  · rename_i s hs
    have W := (L.w.to h0 h1).step hs
    have := W.lo
    have := W.hi
    have := L.len
    rw [sum_set _ _ _ (by rw [List.length_set]; omega), sum_set _ _ _ (by omega)]
    omega
theorem leg_sum {g : List (List Int)} {sink : Int} : ∀ {w : List Int} {m : Nat} {a b : Lo}, LOK g m a → Leg g sink w a b → b.2.sum = a.2.sum
  | [], m, a, b, L, h => by rw [show a = b from h]
  | p :: w, m, a, b, L, h => by rw [leg_sum (L.mv h.1 h.2.1) h.2.2.2.2, mvP_sum L h.1 h.2.1]

/-! Walks that come again. -/
def sq (g : List (List Int)) (s : St) : Nat → Option St
  | 0 => some s
  | n + 1 => (sq g s n).bind (stepP g)
theorem sq_succ' (g : List (List Int)) {s s' : St} (h : stepP g s = some s') : ∀ n, sq g s (n + 1) = sq g s' n
  | 0 => by rw [sq, sq]; exact h
  | n + 1 => by rw [sq, sq_succ' g h n, sq]
theorem sq_add (g : List (List Int)) (s : St) (a : Nat) : ∀ b, sq g s (a + b) = (sq g s a).bind fun t => sq g t b
  | 0 => by rw [Nat.add_zero]; cases sq g s a <;> rfl
  | b + 1 => by
    rw [← Nat.add_assoc, sq, sq_add g s a b]
    cases sq g s a <;> rfl
theorem sq_shift {g : List (List Int)} {s : St} {a b : Nat} (h : sq g s a = sq g s b) (k : Nat) : sq g s (a + k) = sq g s (b + k) := by
  rw [sq_add, sq_add, h]
theorem sq_none {g : List (List Int)} {s : St} {a : Nat} (h : sq g s a = none) (k : Nat) : sq g s (a + k) = none := by
  rw [sq_add, h]; rfl
/-- The first place that comes again, and where it does. -/
structure Rho (g : List (List Int)) (s : St) (m n : Nat) : Prop where
  lt : m < n
  eq : sq g s m = sq g s n
  some : sq g s m ≠ none
  dis : ∀ i j, i < j → j < n → sq g s i ≠ sq g s j
theorem rho_of {g : List (List Int)} {s : St} : ∀ (b : Nat) {a : Nat}, a < b → sq g s a = sq g s b → sq g s a ≠ none → ∃ m n, n ≤ b ∧ Rho g s m n := by
  intro b
  induction b using Nat.strongRecOn with
  | ind b ih =>
    intro a h1 h2 h3
    by_cases hx : ∃ i j, i < j ∧ j < b ∧ sq g s i = sq g s j
    · obtain ⟨i, j, x1, x2, x3⟩ := hx
      obtain ⟨m, n, y1, y2⟩ := ih j x2 x1 x3 (fun hn => by
        have e0 : i ≤ a ∨ a < i := by omega
        have := sq_none hn (b - i)
        rw [show i + (b - i) = b by omega, ← h2] at this
        exact h3 this)
      exact ⟨m, n, by omega, y2⟩
    · exact ⟨a, b, Nat.le_refl _, h1, h2, h3, fun i j x1 x2 x3 => hx ⟨i, j, x1, x2, x3⟩⟩
theorem Rho.mul {g : List (List Int)} {s : St} {m n : Nat} (R : Rho g s m n) {a : Nat} (h : m ≤ a) : ∀ k, sq g s (a + k * (n - m)) = sq g s a
  | 0 => by rw [Nat.zero_mul, Nat.add_zero]
  | k + 1 => by
    have := sq_shift R.eq (a + k * (n - m) - m)
    have hlt := R.lt
    rw [show m + (a + k * (n - m) - m) = a + k * (n - m) by omega, R.mul h k] at this
    rw [this, Nat.succ_mul]
    congr 1; omega
theorem Rho.all {g : List (List Int)} {s : St} {m n : Nat} (R : Rho g s m n) (a : Nat) : sq g s a ≠ none := by
  intro h
  have h1 := sq_none h (m + a * (n - m))
  have hlt := R.lt
  have h2 := R.mul (a := m) (Nat.le_refl _) a
  have : a ≤ a * (n - m) := Nat.le_mul_of_pos_right _ (by omega)
  have h3 := sq_none h (m + a * (n - m) - a)
  rw [show a + (m + a * (n - m) - a) = m + a * (n - m) by omega, h2] at h3
  exact R.some h3
theorem Rho.rep {g : List (List Int)} {s : St} {m n : Nat} (R : Rho g s m n) {a : Nat} (h : m ≤ a) : sq g s (m + (a - m) % (n - m)) = sq g s a ∧ m + (a - m) % (n - m) < n := by
  have hlt := R.lt
  have h1 := Nat.mod_add_div (a - m) (n - m)
  have h2 := R.mul (a := m + (a - m) % (n - m)) (by omega) ((a - m) / (n - m))
  rw [Nat.mul_comm] at h1
  rw [show m + (a - m) % (n - m) + (a - m) / (n - m) * (n - m) = a by omega] at h2
  have h3 := Nat.mod_lt (a - m) (show n - m > 0 by omega)
  exact ⟨h2.symm, by omega⟩
theorem Rho.iff {g : List (List Int)} {s : St} {m n : Nat} (R : Rho g s m n) {a b : Nat} (h : a < b) : sq g s a = sq g s b ↔ m ≤ a ∧ (b - a) % (n - m) = 0 := by
  have hlt := R.lt
  constructor
  · intro e
    have ha : m ≤ a := by
      refine Nat.not_lt.1 fun hl => ?_
      by_cases hb : b < n
      · exact R.dis a b h hb e
      · obtain ⟨r1, r2⟩ := R.rep (a := b) (by omega)
        exact R.dis a _ (by omega) r2 (e.trans r1.symm)
    refine ⟨ha, ?_⟩
    obtain ⟨r1, r2⟩ := R.rep (a := b) (by omega)
    obtain ⟨q1, q2⟩ := R.rep ha
    have hr : (a - m) % (n - m) = (b - m) % (n - m) := by
      rcases Nat.lt_trichotomy ((a - m) % (n - m)) ((b - m) % (n - m)) with x | x | x
      · exact absurd (q1.trans (e.trans r1.symm)) (R.dis _ _ (by omega) r2)
      · exact x
      · exact absurd (r1.trans (e.symm.trans q1.symm)) (R.dis _ _ (by omega) q2)
    have := Nat.sub_mod_eq_zero_of_mod_eq hr.symm
    rwa [show b - m - (a - m) = b - a by omega] at this
  · rintro ⟨h1, h2⟩
    have h3 := Nat.mod_add_div (b - a) (n - m)
    rw [h2, Nat.zero_add, Nat.mul_comm] at h3
    have := R.mul h1 ((b - a) / (n - m))
    rw [h3, show a + (b - a) = b by omega] at this
    exact this.symm
theorem Rho.uniq {g : List (List Int)} {s : St} {m n m' n' : Nat} (R : Rho g s m n) (R' : Rho g s m' n') : m = m' ∧ n = n' := by
  have h1 := R.lt
  have h2 := R'.lt
  have hn : n = n' := by
    rcases Nat.lt_trichotomy n n' with x | x | x
    · exact absurd R.eq (R'.dis m n h1 x)
    · exact x
    · exact absurd R'.eq (R.dis m' n' h2 x)
  subst hn
  refine ⟨?_, rfl⟩
  rcases Nat.lt_trichotomy m m' with x | x | x
  · exact absurd (R.eq.trans R'.eq.symm) (R.dis m m' x h2)
  · exact x
  · exact absurd (R'.eq.trans R.eq.symm) (R.dis m' m x h1)
/-- A pair of walks, one twice as fast, meets within so many steps. -/
theorem Rho.meets {g : List (List Int)} {s : St} {m n : Nat} (R : Rho g s m n) : ∃ k, 1 ≤ k ∧ k ≤ n ∧ m ≤ k ∧ sq g s k = sq g s (2 * k) := by
  have hlt := R.lt
  have h1 := Nat.mod_add_div m (n - m)
  have h3 := Nat.mod_lt m (show n - m > 0 by omega)
  by_cases h0 : m % (n - m) = 0 ∧ 1 ≤ m
  · refine ⟨m, h0.2, by omega, Nat.le_refl _, (R.iff (by omega)).2 ⟨Nat.le_refl _, ?_⟩⟩
    rw [show 2 * m - m = m by omega]; exact h0.1
  · have hk : (n - m) * (m / (n - m) + 1) = (n - m) * (m / (n - m)) + (n - m) := by rw [Nat.mul_succ]
    refine ⟨(n - m) * (m / (n - m) + 1), by omega, ?_, by omega, ?_⟩
    · by_cases hm : m = 0
      · subst hm
        simp at hk ⊢
      · have : m % (n - m) ≠ 0 := fun e => h0 ⟨e, by omega⟩
        omega
    · refine (R.iff (by omega)).2 ⟨by omega, ?_⟩
      rw [show 2 * ((n - m) * (m / (n - m) + 1)) - (n - m) * (m / (n - m) + 1) = (n - m) * (m / (n - m) + 1) by omega]
      exact Nat.mul_mod_right _ _
def idxL : List St → St → Option Nat
  | [], _ => none
  | x :: xs, s => if x = s then some 0 else (idxL xs s).map (· + 1)
theorem idxL_some : ∀ {hs : List St} {s : St} {m : Nat}, idxL hs s = some m → hs[m]? = some s
  | [], s, m, h => by simp [idxL] at h
  | x :: xs, s, m, h => by
    rw [idxL] at h
    split at h
    · rename_i e
      simp only [Option.some.injEq] at h
      rw [← h, e]; rfl
    · cases hm : idxL xs s with
      | none => rw [hm] at h; simp at h
      | some k =>
        rw [hm] at h
        simp only [Option.map_some, Option.some.injEq] at h
        rw [← h, List.getElem?_cons_succ]
        exact idxL_some hm
theorem idxL_none : ∀ {hs : List St} {s : St}, idxL hs s = none → s ∉ hs
  | [], s, _ => by simp
  | x :: xs, s, h => by
    rw [idxL] at h
    split at h
    · cases h
    · rename_i e
      cases hm : idxL xs s with
      | none =>
        intro hx
        rcases List.mem_cons.1 hx with a | a
        · exact e a.symm
        · exact idxL_none hm a
      | some k => rw [hm] at h; simp at h
def perL (g : List (List Int)) : Nat → Nat → St → List St → Int × Int × Bool
  | 0, _, _, _ => (0, 0, false)
  | f + 1, n, s, hs => match idxL hs s with
    | some m => ((m : Int), (n : Int) - m, true)
    | none => match stepP g s with
      | none => (0, 0, false)
      | some s' => perL g f (n + 1) s' (hs ++ [s])
structure Hist (g : List (List Int)) (s0 : St) (n : Nat) (s : St) (hs : List St) : Prop where
  len : hs.length = n
  at_ : ∀ i, i < n → hs[i]? = sq g s0 i
  now : sq g s0 n = some s
  dis : ∀ i j, i < j → j < n → sq g s0 i ≠ sq g s0 j
theorem Hist.init (g : List (List Int)) (s0 : St) : Hist g s0 0 s0 [] := ⟨rfl, fun i h => by omega, rfl, fun i j _ h => by omega⟩
theorem Hist.next {g : List (List Int)} {s0 s s' : St} {n : Nat} {hs : List St} (H : Hist g s0 n s hs) (h : idxL hs s = none) (hs' : stepP g s = some s') : Hist g s0 (n + 1) s' (hs ++ [s]) := by
  refine ⟨by rw [List.length_append, H.len]; rfl, fun i hi => ?_, by rw [sq, H.now]; exact hs', fun i j h1 h2 => ?_⟩
  · by_cases e : i = n
    · subst e
      rw [List.getElem?_append_right (by rw [H.len]; exact Nat.le_refl _), H.len, Nat.sub_self, H.now]; rfl
    · rw [List.getElem?_append_left (by rw [H.len]; omega)]
      exact H.at_ i (by omega)
  · by_cases e : j = n
    · subst e
      intro he
      rw [H.now, ← H.at_ i h1] at he
      exact idxL_none h (List.mem_of_getElem? he)
    · exact H.dis i j h1 (by omega)
theorem perL_yes {g : List (List Int)} {s0 : St} {m k : Nat} (R : Rho g s0 m k) : ∀ (f n : Nat) (s : St) (hs : List St), Hist g s0 n s hs → n ≤ k → k < n + f → perL g f n s hs = ((m : Int), (k : Int) - m, true)
  | 0, n, s, hs, H, h1, h2 => by omega
  | f + 1, n, s, hs, H, h1, h2 => by
    rw [perL]
    cases hi : idxL hs s with
    | some i =>
      have h3 := idxL_some hi
      have hil : i < n := by
        refine Nat.not_le.1 fun hle => ?_
        rw [List.getElem?_eq_none (by rw [H.len]; exact hle)] at h3; cases h3
      rw [H.at_ i hil, ← H.now] at h3
      have R' : Rho g s0 i n := ⟨hil, h3, by rw [h3, H.now]; simp, H.dis⟩
      obtain ⟨a, b⟩ := R.uniq R'
      rw [a, b]
    | none =>
      cases hs' : stepP g s with
      | none =>
        exfalso
        have := R.all (n + 1)
        rw [sq, H.now] at this
        exact this hs'
      | some s' =>
        have hne : n ≠ k := by
          rintro rfl
          have h3 := R.eq
          rw [H.now, ← H.at_ m R.lt] at h3
          exact idxL_none hi (List.mem_of_getElem? h3)
        exact perL_yes R f (n + 1) s' _ (H.next hi hs') (by omega) (by omega)
theorem perL_no {g : List (List Int)} {s0 : St} : ∀ (f n : Nat) (s : St) (hs : List St), Hist g s0 n s hs → (∀ m k, Rho g s0 m k → n + f ≤ k) → perL g f n s hs = (0, 0, false)
  | 0, n, s, hs, H, h => rfl
  | f + 1, n, s, hs, H, h => by
    rw [perL]
    cases hi : idxL hs s with
    | some i =>
      have h3 := idxL_some hi
      have hil : i < n := by
        refine Nat.not_le.1 fun hle => ?_
        rw [List.getElem?_eq_none (by rw [H.len]; exact hle)] at h3; cases h3
      rw [H.at_ i hil, ← H.now] at h3
      have := h i n ⟨hil, h3, by rw [h3, H.now]; simp, H.dis⟩
      omega
    | none =>
      cases hs' : stepP g s with
      | none => rfl
      | some s' => exact perL_no f (n + 1) s' _ (H.next hi hs') fun m k R => by have := h m k R; omega
def perP (g : List (List Int)) (s : St) : Int × Int × Bool := perL g 2001 0 s []
theorem perP_yes {g : List (List Int)} {s : St} {m k : Nat} (R : Rho g s m k) (h : k ≤ 2000) : perP g s = ((m : Int), (k : Int) - m, true) := perL_yes R 2001 0 s [] (Hist.init g s) (Nat.zero_le _) (by omega)
theorem perP_no {g : List (List Int)} {s : St} (h : ∀ m k, Rho g s m k → 2000 < k) : perP g s = (0, 0, false) := perL_no 2001 0 s [] (Hist.init g s) fun m k R => by have := h m k R; omega

/-! Walks on strong and balanced graphs: one that comes again goes through each exit once. -/
def unitL (n : Nat) (a : Int) : List Int := (List.range n).map fun (i : Nat) => if (i : Int) = a then (1 : Int) else 0
def ldOf (g : List (List Int)) (s : St) : Lo := (s.1, unitL g.length s.2)
theorem unit_len (n : Nat) (a : Int) : (unitL n a).length = n := by simp [unitL]
theorem unit_get {n : Nat} {a : Int} {i : Nat} (h : i < n) : (unitL n a).getD i 0 = if (i : Int) = a then 1 else 0 := by
  rw [getD_getI (by rw [unit_len]; exact h)]
  simp [unitL]
theorem ld_ok {g : List (List Int)} {s : St} (W : WOK g s) : LOK g 0 (ldOf g s) := by
  have h0 := W.lo
  have h1 := W.hi
  refine ⟨⟨W.graph, W.len, Int.le_refl _, by simp only; omega, W.rot⟩, unit_len _ _, fun c hc => ?_⟩
  unfold ldOf unitL at hc
  simp only [List.mem_map] at hc
  obtain ⟨i, _, rfl⟩ := hc
  split <;> omega
theorem step_ex {g : List (List Int)} {s s' : St} (W : WOK g s) (h : stepP g s = some s') : (g.getD s.2.toNat []).length ≠ 0 ∧ s'.1 = s.1.set s.2.toNat ((((s.1.getD s.2.toNat 0).toNat + 1) % (g.getD s.2.toNat []).length : Nat) : Int) ∧ s'.2 = (g.getD s.2.toNat []).getD (((s.1.getD s.2.toNat 0).toNat + 1) % (g.getD s.2.toNat []).length) 0 := by
  unfold stepP at h
  split at h
  · cases h
  · rename_i hn
    simp only [Option.some.injEq] at h
    rw [← h]
    exact ⟨hn, rfl, rfl⟩
theorem ld_step {g : List (List Int)} {s s' : St} (W : WOK g s) (h : stepP g s = some s') : mvP g (ldOf g s) s.2 = ldOf g s' := by
  obtain ⟨hn, e1, e2⟩ := step_ex W h
  have h0 := W.lo
  have h1 := W.hi
  have ep : ((s.2.toNat : Nat) : Int) = s.2 := by omega
  obtain ⟨k, ek, k0, k1, f1, f2⟩ := mvP_at (ld_ok W) (p := s.2.toNat) (by omega) hn
  rw [ep] at f1 f2
  have ek' : k = ((s.1.getD s.2.toNat 0).toNat + 1) % (g.getD s.2.toNat []).length := ek
  have hl := (mvP_len (ld_ok W) h0 h1).2
  refine Prod.ext ?_ (ext_getD (by rw [hl]; exact (unit_len _ _).symm) fun i hi => ?_)
  · rw [f1]
    show s.1.set s.2.toNat (k : Int) = s'.1
    rw [e1, ek']
  · rw [hl] at hi
    rw [f2 i hi]
    unfold ldOf
    simp only
    rw [unit_get hi, unit_get hi, e2, ← ek']
    by_cases a : i = s.2.toNat
    · rw [if_pos a, if_pos (show (i : Int) = s.2 by omega)]
      by_cases b : (g.getD s.2.toNat []).getD k 0 = (i : Int)
      · rw [if_pos b, if_pos b.symm]; omega
      · rw [if_neg b, if_neg fun e => b e.symm]; omega
    · rw [if_neg a, if_neg (show ¬ (i : Int) = s.2 by omega)]
      by_cases b : (g.getD s.2.toNat []).getD k 0 = (i : Int)
      · rw [if_pos b, if_pos b.symm]; omega
      · rw [if_neg b, if_neg fun e => b e.symm]; omega
def posA (g : List (List Int)) (s : St) (i : Nat) : Int := match sq g s i with
  | some t => t.2
  | none => -1
/-- How often a place is left within so many steps. -/
def cntA (g : List (List Int)) (s : St) : Nat → Nat → Nat
  | 0, _ => 0
  | n + 1, p => cntA g s n p + (if posA g s n = (p : Int) then 1 else 0)
theorem sq_wok {g : List (List Int)} {s : St} (W : WOK g s) : ∀ {n : Nat} {t : St}, sq g s n = some t → WOK g t
  | 0, t, h => by simp only [sq, Option.some.injEq] at h; rw [← h]; exact W
  | n + 1, t, h => by
    rw [sq] at h
    cases hn : sq g s n with
    | none => rw [hn] at h; cases h
    | some u => rw [hn] at h; exact (sq_wok W hn).step h
theorem posA_eq {g : List (List Int)} {s t : St} {n : Nat} (h : sq g s n = some t) : posA g s n = t.2 := by unfold posA; rw [h]
theorem run_st {g : List (List Int)} {s : St} (W : WOK g s) : ∀ {n : Nat} {t : St}, sq g s n = some t → IsSt g (ldOf g s) (cntA g s n) (ldOf g t)
  | 0, t, h => by
    simp only [sq, Option.some.injEq] at h
    rw [← h]
    exact IsSt.init (ld_ok W)
  | n + 1, t, h => by
    rw [sq] at h
    cases hn : sq g s n with
    | none => rw [hn] at h; cases h
    | some u =>
      rw [hn] at h
      have Wu := sq_wok W hn
      have h : stepP g u = some t := h
      have h0 := Wu.lo
      have h1 := Wu.hi
      have A := (run_st W hn).mv (ld_ok W) (ld_ok Wu) (p := u.2.toNat) (by omega) (step_ex Wu h).1
      rw [show ((u.2.toNat : Nat) : Int) = u.2 by omega, ld_step Wu h] at A
      have : upC (cntA g s n) u.2.toNat = cntA g s (n + 1) := by
        funext i
        unfold upC
        rw [cntA, posA_eq hn]
        by_cases e : i = u.2.toNat
        · rw [if_pos e, if_pos (show u.2 = (i : Int) by omega)]
        · rw [if_neg e, if_neg (show ¬ u.2 = (i : Int) by omega)]; rfl
      rw [← this]; exact A
theorem cntA_mono {g : List (List Int)} {s : St} {p a : Nat} : ∀ d, cntA g s a p ≤ cntA g s (a + d) p
  | 0 => Nat.le_refl _
  | d + 1 => by have := cntA_mono (g := g) (s := s) (p := p) (a := a) d; rw [← Nat.add_assoc, cntA]; omega
theorem cntA_sum {g : List (List Int)} {s : St} : ∀ {n : Nat}, (∀ i, i < n → 0 ≤ posA g s i ∧ posA g s i < (g.length : Int)) → sumN (cntA g s n) g.length = n
  | 0, _ => by
    have : ∀ m, sumN (cntA g s 0) m = 0 := by
      intro m
      induction m with
      | zero => rfl
      | succ m ih => rw [sumN, ih]; rfl
    exact this _
  | n + 1, h => by
    have hn := h n (by omega)
    rw [sumN_one (f := cntA g s n) (p := (posA g s n).toNat) (d := 1) (by rw [cntA, if_pos (by omega)]) (fun i hi => by rw [cntA, if_neg (by omega)]; rfl), if_pos (by omega), cntA_sum fun i hi => h i (by omega)]
/-- Exits of a place that lead to another one. -/
def arrH (xs : List Int) (p : Nat) (j : Nat) : Nat := if xs.getD (j % xs.length) 0 = (p : Int) then 1 else 0
theorem arr_sum {g : List (List Int)} {rs : List Int} {q p : Nat} : ∀ k, arrP g rs q k p = sumN (fun j => arrH (g.getD q []) p ((rs.getD q 0).toNat + 1 + j)) k
  | 0 => rfl
  | k + 1 => by
    rw [arrP, sumN, arr_sum k]
    unfold dstP arrH
    rw [show (rs.getD q 0).toNat + 1 + k = (rs.getD q 0).toNat + (k + 1) by omega]
theorem sumN_shift (h : Nat → Nat) : ∀ n, sumN (fun j => h (j + 1)) n + h 0 = sumN h (n + 1)
  | 0 => by simp [sumN]
  | n + 1 => by rw [sumN, sumN, ← sumN_shift h n]; omega
theorem turn_sum {h : Nat → Nat} {d : Nat} (hp : ∀ j, h (j + d) = h j) : ∀ r, sumN (fun j => h (r + j)) d = sumN h d
  | 0 => sumN_congr fun i _ => by (try simp only); rw [Nat.zero_add]
  | r + 1 => by
    rw [← turn_sum hp r]
    have e1 : sumN (fun j => h (r + (j + 1))) d + h (r + 0) = sumN (fun j => h (r + j)) d + h (r + d) := sumN_shift (fun j => h (r + j)) d
    have e2 : sumN (fun j => h (r + (j + 1))) d = sumN (fun j => h (r + 1 + j)) d := sumN_congr fun i _ => by (try simp only); rw [show r + (i + 1) = r + 1 + i by omega]
    have e3 := hp r
    have e0 : h (r + 0) = h r := rfl
    omega
theorem cnt_list : ∀ (xs : List Int) (p : Nat), sumN (fun j => if xs.getD j 0 = (p : Int) then 1 else 0) xs.length = xs.count (p : Int) := by
  intro xs p
  have key : ∀ i, i ≤ xs.length → sumN (fun j => if xs.getD j 0 = (p : Int) then 1 else 0) i = (xs.take i).count (p : Int) := by
    intro i
    induction i with
    | zero => intro _; simp [sumN]
    | succ i ih =>
      intro h
      rw [sumN, ih (by omega), List.take_add_one, List.getElem?_eq_getElem (by omega), List.count_append, getD_getI (by omega)]
      simp only [Option.toList_some, List.count_cons, List.count_nil, Nat.zero_add, beq_iff_eq]
  have := key xs.length (Nat.le_refl _)
  rwa [List.take_length] at this
theorem arr_full {g : List (List Int)} {rs : List Int} {q p : Nat} : arrP g rs q (g.getD q []).length p = (g.getD q []).count (p : Int) := by
  rw [arr_sum, turn_sum (h := arrH (g.getD q []) p) (d := (g.getD q []).length) (fun j => by unfold arrH; rw [Nat.add_mod_right]) ((rs.getD q 0).toNat + 1), ← cnt_list]
  exact sumN_congr fun i hi => by unfold arrH; rw [Nat.mod_eq_of_lt hi]
/-- Strong: what is closed under exits and has a place has all. -/
def StrongP (g : List (List Int)) : Prop := ∀ V : Nat → Prop, (∀ q, q < g.length → V q → ∀ t, t ∈ g.getD q [] → V t.toNat) → ∀ p q, p < g.length → q < g.length → V p → V q
def BalP (g : List (List Int)) : Prop := ∀ p, p < g.length → sumN (fun q => (g.getD q []).count (p : Int)) g.length = (g.getD p []).length
def degN (g : List (List Int)) (p : Nat) : Nat := (g.getD p []).length
section
variable {g : List (List Int)} {s : St}
theorem chipE (W : WOK g s) {n : Nat} {t : St} (h : sq g s n = some t) {p : Nat} (hp : p < g.length) : (if (p : Int) = t.2 then (1 : Int) else 0) = (if (p : Int) = s.2 then 1 else 0) - (cntA g s n p : Int) + ((sumN (fun q => arrP g s.1 q (cntA g s n q) p) g.length : Nat) : Int) := by
  have := (run_st W h).chip p hp
  unfold ldOf at this
  simp only at this
  rw [unit_get hp, unit_get hp] at this
  exact this
theorem rotE (W : WOK g s) {n : Nat} {t : St} (h : sq g s n = some t) {q : Nat} (hq : q < g.length) (hn : degN g q ≠ 0) : t.1.getD q 0 = ((((s.1.getD q 0).toNat + cntA g s n q) % degN g q : Nat) : Int) := by
  have := (run_st W h).rot q hq
  unfold degN at hn
  rw [if_neg hn] at this
  exact this
theorem sumN_ge {f : Nat → Nat} {q : Nat} : ∀ {n : Nat}, q < n → f q ≤ sumN f n
  | n + 1, h => by
    rw [sumN]
    by_cases e : q = n
    · subst e; omega
    · have := sumN_ge (f := f) (n := n) (q := q) (by omega); omega
/-- Each place is left at least as often as it has exits before the walk comes again. -/
theorem all_left (W : WOK g s) (hs : StrongP g) (hd : ∀ p, p < g.length → degN g p ≠ 0) {n : Nat} (hn : 1 ≤ n) (h : sq g s n = some s) : ∀ q, q < g.length → degN g q ≤ cntA g s n q := by
  have h0 := W.lo
  have h1 := W.hi
  have hdiv : ∀ q, q < g.length → 1 ≤ cntA g s n q → degN g q ≤ cntA g s n q := by
    intro q hq hc
    have hr := rotE W h hq (hd q hq)
    have hrn := (ld_ok W).rotN hq
    have hrn1 : 0 ≤ s.1.getD q 0 := hrn.1
    have hrn2 : (s.1.getD q 0).toNat < degN g q := hrn.2 (hd q hq)
    refine Nat.not_lt.1 fun hlt => ?_
    have e : (s.1.getD q 0).toNat = ((s.1.getD q 0).toNat + cntA g s n q) % degN g q := by omega
    by_cases hx : (s.1.getD q 0).toNat + cntA g s n q < degN g q
    · rw [Nat.mod_eq_of_lt hx] at e; omega
    · rw [Nat.mod_eq_sub_mod (by omega), Nat.mod_eq_of_lt (by omega)] at e; omega
  have hv := hs (fun q => 1 ≤ cntA g s n q) (fun q hq hc t ht => by
    have ht' := (graph_mem W.graph (List.getElem_mem hq)).2
    rw [List.getD_eq_getElem?_getD, List.getElem?_eq_getElem hq, Option.getD_some] at ht
    have htr := ht' t ht
    have hc' := chipE W h (p := t.toNat) (by omega)
    have ha := arrP_mono (g := g) (rs := s.1) (q := q) (p := t.toNat) (k := degN g q) (cntA g s n q - degN g q)
    rw [show degN g q + (cntA g s n q - degN g q) = cntA g s n q by have := hdiv q hq hc; omega] at ha
    have hf := arr_full (g := g) (rs := s.1) (q := q) (p := t.toNat)
    have hcount : 1 ≤ (g.getD q []).count ((t.toNat : Nat) : Int) := by
      rw [show ((t.toNat : Nat) : Int) = t by omega]
      refine List.count_pos_iff.2 ?_
      rw [List.getD_eq_getElem?_getD, List.getElem?_eq_getElem hq, Option.getD_some]
      exact ht
    have hsum := sumN_ge (f := fun q => arrP g s.1 q (cntA g s n q) t.toNat) (n := g.length) hq
    (try simp only at hsum)
    unfold degN at ha
    omega) s.2.toNat
  intro q hq
  refine hdiv q hq (hv q (by omega) hq ?_)
  have := cntA_mono (g := g) (s := s) (p := s.2.toNat) (a := 1) (n - 1)
  rw [show 1 + (n - 1) = n by omega] at this
  have h1 : cntA g s 1 s.2.toNat = 1 := by
    rw [cntA, posA_eq (show sq g s 0 = some s from rfl), if_pos (by omega)]
    rfl
  omega
/-- Next places lead to where the walk is. -/
theorem uni_back (W : WOK g s) {n : Nat} (h : sq g s n = some s) : ∀ (d i : Nat), i + d = n → ∀ j, i ≤ j → j < n → ∃ k, itx g s.1 (posA g s j) k = s.2
  | 0, i, hi, j, h1, h2 => by omega
  | d + 1, i, hi, j, h1, h2 => by
    have ih := uni_back W h d (i + 1) (by omega)
    by_cases hj : i + 1 ≤ j
    · exact ih j hj h2
    · have hji : j = i := by omega
      subst hji
      by_cases hl : ∃ m, j + 1 ≤ m ∧ m < n ∧ posA g s m = posA g s j
      · obtain ⟨m, m1, m2, m3⟩ := hl
        obtain ⟨k, hk⟩ := ih m m1 m2
        exact ⟨k, by rw [← m3]; exact hk⟩
      · cases hu : sq g s j with
        | none =>
          have := sq_none hu (n - j)
          rw [show j + (n - j) = n by omega, h] at this
          cases this
        | some u =>
          have Wu := sq_wok W hu
          have u0 := Wu.lo
          have u1 := Wu.hi
          cases hv : stepP g u with
          | none =>
            have h3 : sq g s (j + 1) = none := by rw [sq, hu]; exact hv
            have := sq_none h3 (n - (j + 1))
            rw [show j + 1 + (n - (j + 1)) = n by omega, h] at this
            cases this
          | some v =>
            have hsv : sq g s (j + 1) = some v := by rw [sq, hu]; exact hv
            obtain ⟨e0, e1, e2⟩ := step_ex Wu hv
            have hp := posA_eq hu
            have hsame : ∀ m, j + 1 ≤ m → m ≤ n → cntA g s m u.2.toNat = cntA g s (j + 1) u.2.toNat := by
              intro m
              induction m with
              | zero => intro a; omega
              | succ m ihm =>
                intro a b
                by_cases e : m + 1 = j + 1
                · rw [e]
                · rw [cntA, ihm (by omega) (by omega), if_neg]
                  · rfl
                  · intro e'
                    exact hl ⟨m, by omega, by omega, by rw [hp]; omega⟩
            have r1 := rotE W h (q := u.2.toNat) (by omega) e0
            have r2 := rotE W hsv (q := u.2.toNat) (by omega) e0
            rw [hsame n (by omega) (Nat.le_refl _), ← r2, e1, getD_set (by have := Wu.len; omega), if_pos rfl] at r1
            have hnx : nx g s.1 u.2 = v.2 := by
              unfold nx
              rw [if_neg (by omega), if_neg e0, r1, e2, Int.toNat_natCast]
            by_cases hlast : j + 1 = n
            · refine ⟨1, ?_⟩
              rw [hp, itx, itx, hnx]
              rw [hlast, h] at hsv
              simp only [Option.some.injEq] at hsv
              rw [hsv]
            · obtain ⟨k, hk⟩ := ih (j + 1) (Nat.le_refl _) (by omega)
              rw [posA_eq hsv] at hk
              refine ⟨k + 1, ?_⟩
              rw [hp]
              have itx_head : ∀ m, itx g s.1 u.2 (m + 1) = itx g s.1 (nx g s.1 u.2) m := by
                intro m
                induction m with
                | zero => rfl
                | succ m ihm => rw [itx, ihm, itx]
              rw [itx_head, hnx, hk]
/-- Once one place is to be left more often than it has exits, all have been left as often. -/
theorem all_done (W : WOK g s) (hb : BalP g) (hd : ∀ p, p < g.length → degN g p ≠ 0) (hu : ∀ q : Nat, q < g.length → ∃ k, itx g s.1 q k = s.2) {T : Nat} {t : St} (h : sq g s T = some t) (hle : ∀ q, q < g.length → cntA g s T q ≤ degN g q) (hp : cntA g s T t.2.toNat = degN g t.2.toNat) : ∀ q, q < g.length → cntA g s T q = degN g q := by
  have Wt := sq_wok W h
  have t0 := Wt.lo
  have t1 := Wt.hi
  have hm : ∀ x q, q < g.length → arrP g s.1 q (cntA g s T q) x ≤ (g.getD q []).count (x : Int) := fun x q hq => by
    rw [← arr_full (rs := s.1)]
    have := arrP_mono (g := g) (rs := s.1) (q := q) (p := x) (k := cntA g s T q) (degN g q - cntA g s T q)
    rw [show cntA g s T q + (degN g q - cntA g s T q) = degN g q by have := hle q hq; omega] at this
    exact this
  have e1 := chipE W h (p := t.2.toNat) (by omega)
  rw [if_pos (show ((t.2.toNat : Nat) : Int) = t.2 by omega), hp] at e1
  have e2 := hb t.2.toNat (by omega)
  have e3 := sumN_le (n := g.length) (f := fun q => arrP g s.1 q (cntA g s T q) t.2.toNat) (f' := fun q => (g.getD q []).count ((t.2.toNat : Nat) : Int)) fun q hq => hm _ q hq
  have hts : t.2 = s.2 := by
    refine Classical.byContradiction fun hne => ?_
    rw [if_neg (show ¬ ((t.2.toNat : Nat) : Int) = s.2 by omega)] at e1
    unfold degN at e1
    omega
  rw [if_pos (show ((t.2.toNat : Nat) : Int) = s.2 by omega)] at e1
  have e4 := sumN_eq (n := g.length) (f := fun q => arrP g s.1 q (cntA g s T q) t.2.toNat) (f' := fun q => (g.getD q []).count ((t.2.toNat : Nat) : Int)) (fun q hq => hm _ q hq) (by unfold degN at e1; omega)
  -- what is not done leads on
  have key : ∀ q : Nat, q < g.length → cntA g s T q < degN g q → 0 ≤ nx g s.1 q ∧ nx g s.1 q < (g.length : Int) ∧ cntA g s T (nx g s.1 q).toNat < degN g (nx g s.1 q).toNat := by
    intro q hq hlt
    have hrn := (ld_ok W).rotN hq
    have hrn1 : 0 ≤ s.1.getD q 0 := hrn.1
    have hrn2 : (s.1.getD q 0).toNat < degN g q := hrn.2 (hd q hq)
    have hx : nx g s.1 q = dstP g s.1 q (degN g q) := by
      unfold nx dstP
      rw [if_neg (by omega), Int.toNat_natCast, if_neg (show ¬ (g.getD q []).length = 0 from hd q hq)]
      unfold degN at hrn2 ⊢
      rw [Nat.add_mod_right, Nat.mod_eq_of_lt hrn2]
    have hxm := nx_lt W (p := (q : Int)) (by omega)
    have hx0 : 0 ≤ nx g s.1 q := by
      have hne : (g[((q : Nat) : Int).toNat]'(by omega)).length ≠ 0 := by
        have := hd q hq
        unfold degN at this
        rw [List.getD_eq_getElem?_getD, List.getElem?_eq_getElem hq, Option.getD_some] at this
        exact this
      obtain ⟨_, hm', _, e⟩ := nx_some W (by omega) (by omega) hne
      rw [e]
      exact ((graph_mem W.graph (List.getElem_mem _)).2 _ (List.getElem_mem hm')).1
    refine ⟨hx0, hxm.2, ?_⟩
    have harr : arrP g s.1 q (cntA g s T q) (nx g s.1 q).toNat < (g.getD q []).count (((nx g s.1 q).toNat : Nat) : Int) := by
      rw [← arr_full (rs := s.1)]
      have := arrP_mono (g := g) (rs := s.1) (q := q) (p := (nx g s.1 q).toNat) (k := cntA g s T q) (degN g q - 1 - cntA g s T q)
      rw [show cntA g s T q + (degN g q - 1 - cntA g s T q) = degN g q - 1 by omega] at this
      have h2 : arrP g s.1 q (degN g q - 1 + 1) (nx g s.1 q).toNat = arrP g s.1 q (degN g q - 1) (nx g s.1 q).toNat + 1 := by
        rw [arrP, show degN g q - 1 + 1 = degN g q by omega, ← hx, if_pos (by omega)]
      rw [show degN g q - 1 + 1 = degN g q by omega] at h2
      have dq : degN g q = (g.getD q []).length := rfl
      rw [dq] at h2 this
      omega
    have hne : nx g s.1 q ≠ t.2 := by
      intro e
      have := e4 q hq
      (try simp only at this)
      rw [e] at harr
      omega
    have c1 := chipE W h (p := (nx g s.1 q).toNat) (by omega)
    rw [if_neg (show ¬ (((nx g s.1 q).toNat : Nat) : Int) = t.2 by omega), if_neg (show ¬ (((nx g s.1 q).toNat : Nat) : Int) = s.2 by omega)] at c1
    have c2 := hb (nx g s.1 q).toNat (by omega)
    have c3 := sumN_le (n := g.length) (f := fun z => arrP g s.1 z (cntA g s T z) (nx g s.1 q).toNat) (f' := fun z => (g.getD z []).count (((nx g s.1 q).toNat : Nat) : Int)) fun z hz => hm _ z hz
    have hlt' : sumN (fun z => arrP g s.1 z (cntA g s T z) (nx g s.1 q).toNat) g.length < sumN (fun z => (g.getD z []).count (((nx g s.1 q).toNat : Nat) : Int)) g.length := by
      refine Nat.lt_of_le_of_ne c3 fun he => ?_
      have := sumN_eq (n := g.length) (f := fun z => arrP g s.1 z (cntA g s T z) (nx g s.1 q).toNat) (f' := fun z => (g.getD z []).count (((nx g s.1 q).toNat : Nat) : Int)) (fun z hz => hm _ z hz) (by omega) q hq
      (try simp only at this)
      omega
    unfold degN
    omega
  intro q hq
  refine Nat.le_antisymm (hle q hq) (Nat.not_lt.1 fun hlt => ?_)
  have walk : ∀ k, 0 ≤ itx g s.1 q k ∧ itx g s.1 q k < (g.length : Int) ∧ cntA g s T (itx g s.1 q k).toNat < degN g (itx g s.1 q k).toNat := by
    intro k
    induction k with
    | zero =>
      rw [itx, Int.toNat_natCast]
      exact ⟨by omega, by omega, hlt⟩
    | succ k ih =>
      obtain ⟨a, b, c⟩ := ih
      have := key (itx g s.1 q k).toNat (by omega) c
      rw [show (((itx g s.1 q k).toNat : Nat) : Int) = itx g s.1 q k by omega] at this
      rw [itx]; exact this
  obtain ⟨k, hk⟩ := hu q hq
  have := (walk k).2.2
  rw [hk, ← hts, hp] at this
  exact Nat.lt_irrefl _ this
/-- A walk that comes again does so behind as many steps as there are exits. -/
theorem euler (W : WOK g s) (hs : StrongP g) (hb : BalP g) (hd : ∀ p, p < g.length → degN g p ≠ 0) {n : Nat} (hn : 1 ≤ n) (h : sq g s n = some s) : sq g s (sumN (degN g) g.length) = some s ∧ sumN (degN g) g.length ≤ n ∧ ∀ q, q < g.length → cntA g s (sumN (degN g) g.length) q = degN g q := by
  have hl := all_left W hs hd hn h
  have hsome : ∀ m, ∃ t, sq g s m = some t := by
    intro m
    induction m with
    | zero => exact ⟨s, rfl⟩
    | succ m ih =>
      obtain ⟨t, ht⟩ := ih
      have Wt := sq_wok W ht
      have := hd t.2.toNat (by have := Wt.lo; have := Wt.hi; omega)
      unfold degN at this
      rw [sq, ht]
      show ∃ t', stepP g t = some t'
      unfold stepP
      rw [if_neg this]
      exact ⟨_, rfl⟩
  have hrng : ∀ i, 0 ≤ posA g s i ∧ posA g s i < (g.length : Int) := fun i => by
    obtain ⟨t, ht⟩ := hsome i
    rw [posA_eq ht]
    have Wt := sq_wok W ht
    exact ⟨Wt.lo, Wt.hi⟩
  have hu : ∀ q : Nat, q < g.length → ∃ k, itx g s.1 q k = s.2 := by
    intro q hq
    have hc : 1 ≤ cntA g s n q := by have := hl q hq; have := hd q hq; omega
    have : ∀ m, 1 ≤ cntA g s m q → ∃ j, j < m ∧ posA g s j = (q : Int) := by
      intro m
      induction m with
      | zero => intro h; simp [cntA] at h
      | succ m ih =>
        intro h
        by_cases e : posA g s m = (q : Int)
        · exact ⟨m, by omega, e⟩
        · rw [cntA, if_neg e] at h
          obtain ⟨j, j1, j2⟩ := ih h
          exact ⟨j, by omega, j2⟩
    obtain ⟨j, j1, j2⟩ := this n hc
    obtain ⟨k, hk⟩ := uni_back W h n 0 (by omega) j (Nat.zero_le _) j1
    exact ⟨k, by rw [← j2]; exact hk⟩
  have hsum : ∀ m, sumN (cntA g s m) g.length = m := fun m => cntA_sum fun i _ => hrng i
  have hE : ∀ T, (∃ T', T' ≤ T ∧ ∀ q, q < g.length → cntA g s T' q = degN g q) ∨ ∀ q, q < g.length → cntA g s T q ≤ degN g q := by
    intro T
    induction T with
    | zero => exact .inr fun q _ => Nat.zero_le _
    | succ T ih =>
      rcases ih with ⟨T', a, b⟩ | ih
      · exact .inl ⟨T', by omega, b⟩
      · obtain ⟨t, ht⟩ := hsome T
        have Wt := sq_wok W ht
        have t0 := Wt.lo
        have t1 := Wt.hi
        by_cases e : cntA g s T t.2.toNat = degN g t.2.toNat
        · exact .inl ⟨T, by omega, all_done W hb hd hu ht ih e⟩
        · refine .inr fun q hq => ?_
          rw [cntA, posA_eq ht]
          have := ih q hq
          split
          · rename_i e2
            have : q = t.2.toNat := by omega
            subst this
            omega
          · omega
  have hc : ∀ q, q < g.length → cntA g s (sumN (degN g) g.length) q = degN g q := by
    rcases hE (sumN (degN g) g.length) with ⟨T', a, b⟩ | a
    · have h1 := hsum T'
      rw [sumN_congr b] at h1
      rw [← h1] at b; exact b
    · exact sumN_eq a (by rw [hsum]; exact Nat.le_refl _)
  refine ⟨?_, ?_, hc⟩
  · obtain ⟨t, ht⟩ := hsome (sumN (degN g) g.length)
    rw [ht]
    have Wt := sq_wok W ht
    have e1 : t.1 = s.1 := by
      refine ext_getD (by rw [Wt.len, W.len]) fun i hi => ?_
      rw [Wt.len] at hi
      have hrn := (ld_ok W).rotN hi
      have hrn1 : 0 ≤ s.1.getD i 0 := hrn.1
      have hrn2 : (s.1.getD i 0).toNat < degN g i := hrn.2 (hd i hi)
      rw [rotE W ht hi (hd i hi), hc i hi, Nat.add_mod_right, Nat.mod_eq_of_lt hrn2]
      omega
    have e2 : t.2 = s.2 := by
      refine Classical.byContradiction fun hne => ?_
      have t0 := Wt.lo
      have t1 := Wt.hi
      have c1 := chipE W ht (p := t.2.toNat) (by omega)
      rw [if_pos (by omega), if_neg (by omega), hc _ (by omega)] at c1
      have c2 := hb t.2.toNat (by omega)
      have c3 : sumN (fun q => arrP g s.1 q (cntA g s (sumN (degN g) g.length) q) t.2.toNat) g.length = sumN (fun q => (g.getD q []).count ((t.2.toNat : Nat) : Int)) g.length := sumN_congr fun q hq => by
        (try simp only)
        rw [hc q hq]; exact arr_full
      rw [c3, c2] at c1
      unfold degN at c1
      omega
    rw [show t = s from Prod.ext e1 e2]
  · have := sumN_le (n := g.length) (f := degN g) (f' := cntA g s n) hl
    rw [hsum] at this
    exact this
end

theorem w64_add (a b : Int) : w64 (w64 a + b) = w64 (a + b) := by
  simp only [w64, IntKind.wrap, IntKind.bits, IntKind.signed]
  simp
  try omega

theorem k_entries {S : Nat → Prop} {h : Heap} {g : Sl} {xss : List (List Int)} (G : RdR S h g xss) (hn : xss.length + totR xss ≤ 1000000000) (p : Int) : Ret Tryd.prog 112 #[.agg #[g.v], VI p] h (VI (xss.flatten.count p : Nat)) := by
  intro K HK
  refine v112 g p h K fun b1 h1 hb1 f1 hL1 => ?_
  have f1 := f1.in_nil
  refine k_Concat (G.no f1) hn _ fun t h2 o2 f2 => ⟨t, rfl, hL1.of_no f2, ?_⟩
  have R := Ow.rdI o2
  have hfl := totR_flat xss
  refine ⟨fun n m i h' => h2 = h' ∧ 0 ≤ i ∧ i + n = (xss.flatten.length : Int) ∧ m = (((xss.flatten.take i.toNat).count p : Nat) : Int), ⟨xss.flatten.length, rfl, by omega, by omega, by simp⟩, ?_⟩
  rintro n m i _ ⟨rfl, i0, i1, e1⟩ hL
  refine ⟨fun e => ?_, fun e => ?_⟩
  · have hi := R.lt e
    have hc : (xss.flatten.take i.toNat).count p ≤ xss.flatten.length := Nat.le_trans List.count_le_length (by rw [List.length_take]; exact Nat.min_le_right _ _)
    have es : (xss.flatten.take (i + 1).toNat).count p = (xss.flatten.take i.toNat).count p + (if (xss.flatten[i.toNat]'(by omega)) = p then 1 else 0) := by
      rw [take_snoc _ i0 hi, List.count_append, List.count_singleton]
      simp only [beq_iff_eq]
    refine ⟨R.inb i0 hi, _, R.get i0 hi, fun c => ?_, fun c => ?_⟩
    · simp only [decide_eq_true_eq] at c
      rw [R.succ i0 hi, w64_eq (m + 1) (by omega) (by omega)]
      exact ⟨n - 1, by omega, rfl, by omega, by omega, by rw [es, if_pos c]; omega⟩
    · simp only [decide_eq_false_iff_not] at c
      rw [R.succ i0 hi]
      exact ⟨n - 1, by omega, rfl, by omega, by omega, by rw [es, if_neg c]; omega⟩
  · have hi := R.ge e
    rw [List.take_of_length_le (by omega)] at e1
    rw [e1]
    exact HK h2 (f1.no_trans f2)

theorem k_reach {S : Nat → Prop} {h : Heap} {g : Sl} {xss : List (List Int)} (G : RdR S h g xss) (hg : graphB xss = true) {p : Int} (h0 : 0 ≤ p) (h1 : p < (xss.length : Int)) (K : Value → Heap → Prop) (HK : ∀ (t : Sl) (h' : Heap), t.n = (farP xss p).countP (fun x => decide (0 ≤ x)) → Fr No h h' → K t.v h') : callM Tryd.prog 111 #[.agg #[g.v], VI p] h K := by
  refine v111 g p h K fun b1 h1' hb1 f1 hL1 => ?_
  have f1 := f1.in_nil
  have hgl := graph_len hg
  have l1 : b1 < h1'.size := hL1.head.lt
  refine eop_lit rIs (fun k => h1'.size ≤ k) (fun _ h => h) 0 (by omega) [] rfl rfl fun t h2 n2 c2 o2 f2 m2 _ => ⟨t, rfl, hL1.of_no f2, ?_⟩
  have z2 := f2.size
  refine k_lengths ((G.no f1).no f2) hg h0 h1 _ fun w h3 o3 fl f3 => ⟨w, rfl, (hL1.of_no f2).of_no f3, ?_⟩
  have z3 := f3.size
  have R3 : RdI (Iv h2.size h3.size) h3 w _ := Ow.rdI o3
  have o2' : OwI h3 (fun k => (Iv h1'.size h2.size k ∨ h3.size ≤ k)) t [] := (Ow.no o2 f3).mono fun k _ hk => by
    have := (o2.foot (by assumption)).2
    exact .inl ⟨hk, this⟩
  refine ⟨fun n x i h' => 0 ≤ i ∧ i + n = ((farP xss p).length : Int) ∧ (∃ ys, OwI h' (fun k => Iv h1'.size h2.size k ∨ h3.size ≤ k) x ys ∧ ys.length = ((farP xss p).take i.toNat).countP (fun x => decide (0 ≤ x))) ∧ RdI (Iv h2.size h3.size) h' w (farP xss p) ∧ Fr (fun k => Iv h1'.size h2.size k ∨ h3.size ≤ k) h3 h' ∧ h3.size ≤ h'.size, ⟨(farP xss p).length, by omega, by omega, ⟨[], o2', by simp⟩, R3, Fr.refl _ _, Nat.le_refl _⟩, ?_⟩
  rintro n x i h4 ⟨i0, i1, ⟨ys, o4, e4⟩, R4, f4, z4⟩ hL4
  have wn := R4.len
  refine ⟨fun e => ?_, fun e => ?_⟩
  · have hi := R4.lt e
    have hcl : ((farP xss p).take i.toNat).countP (fun x => decide (0 ≤ x)) ≤ (farP xss p).length := Nat.le_trans List.countP_le_length (by rw [List.length_take]; exact Nat.min_le_right _ _)
    have es : ((farP xss p).take (i + 1).toNat).countP (fun x => decide (0 ≤ x)) = ((farP xss p).take i.toNat).countP (fun x => decide (0 ≤ x)) + (if 0 ≤ ((farP xss p)[i.toNat]'(by omega)) then 1 else 0) := by
      rw [take_snoc _ i0 hi, List.countP_append, List.countP_singleton]
      simp only [decide_eq_true_eq]
    refine ⟨R4.inb i0 hi, _, R4.get i0 hi, fun c => ?_, fun c => ?_⟩
    · simp only [decide_eq_true_eq] at c
      refine eop_lit rIs (fun k => h4.size ≤ k) (fun _ h => h) 1 (by omega) [VI i] rfl rfl fun u h5 n5 c5 o5 f5 m5 _ => ⟨u, rfl, hL4.of_no f5, ?_⟩
      have z5 := f5.size
      have o4n := Ow.no o4 f5
      have on := o4n.rd.len
      have un := o5.rd.len
      simp only [List.length_map, Nat.mul_one, List.length_cons, List.length_nil] at on un
      refine eop_append rIs o4n (fun k hk => .inr (by omega)) o5.rd (plainVI [i]) (by omega) fun y h6 n6 o6 f6 d6 => ?_
      have g6 : Fr (fun k => Iv h1'.size h2.size k ∨ h3.size ≤ k) h5 h6 := f6.mono fun k _ hk => (o4n.foot hk).1
      have V6 := (hL4.of_no f5).fr g6 fun q hq hk => by
        simp only [List.mem_cons, List.not_mem_nil, or_false] at hq
        subst hq
        simp only at hk
        rcases hk with e | e
        · have := e.1; omega
        · omega
      rw [R4.succ i0 hi]
      refine ⟨y, rfl, V6, n - 1, by omega, by omega, by omega, ⟨ys ++ [i], by rw [OwI, List.map_append]; exact o6, by rw [es, if_pos c]; simp; omega⟩, (R4.no f5).fr g6 fun k hk hk2 => ?_, (f4.trans f5.of_no).trans g6, by have := f6.size; omega⟩
      have h1 := hk.1; have h2 := hk.2
      rcases hk2 with e | e
      · have := e.2; omega
      · omega
    · simp only [decide_eq_false_iff_not] at c
      rw [R4.succ i0 hi]
      exact ⟨n - 1, by omega, by omega, by omega, ⟨ys, o4, by rw [es, if_neg c]; omega⟩, R4, f4, z4⟩
  · have hi := R4.ge e
    rw [List.take_of_length_le (by omega)] at e4
    have xn := o4.rd.len
    simp only [List.length_map, Nat.mul_one] at xn
    refine HK x h4 (by omega) (((f1.no_trans f2).no_trans f3).fresh f4 fun k hk => ?_)
    rcases hk with e | e
    · have := e.1; have := f1.size; omega
    · have := f1.size; omega

def strongB (g : List (List Int)) : Bool := (List.range g.length).all fun p => decide ((farP g p).countP (fun x => decide (0 ≤ x)) = g.length)
def balB (g : List (List Int)) : Bool := (List.range g.length).all fun p => decide ((g.getD p []).length = g.flatten.count (p : Int))

theorem k_isStrong {S : Nat → Prop} {h : Heap} {g : Sl} {xss : List (List Int)} (G : RdR S h g xss) (hg : graphB xss = true) : Ret Tryd.prog 88 #[.agg #[g.v]] h (VB (strongB xss)) := by
  intro K HK
  have hgl := graph_len hg
  refine v88 g h K fun b1 h1 hb1 f1 hL1 => ?_
  have f1 := f1.in_nil
  refine ⟨fun n i h' => 0 ≤ i ∧ i + n = (xss.length : Int) ∧ (∀ p : Nat, (p : Int) < i → (farP xss p).countP (fun x => decide (0 ≤ x)) = xss.length) ∧ Fr No h h', ⟨xss.length, by omega, by omega, fun p hp => by omega, f1⟩, ?_⟩
  rintro n i h2 ⟨i0, i1, hp, f2⟩ hL2
  have G2 := G.no f2
  have gn := G2.len
  refine ⟨fun e => ?_, fun e => ?_⟩
  · have hi := G2.lt e
    refine k_reach G2 hg i0 hi _ fun t h3 e3 f3 => ⟨t, rfl, hL2.of_no f3, fun c => ?_, fun c => ?_⟩
    · have c := not_t c
      simp only [decide_eq_false_iff_not] at c
      have : strongB xss = false := by
        refine Bool.eq_false_iff.2 fun hs => ?_
        have := List.all_eq_true.1 hs i.toNat (by simpa using by omega)
        simp only [decide_eq_true_eq] at this
        rw [show ((i.toNat : Nat) : Int) = i by omega] at this
        omega
      rw [this] at HK
      exact HK h3 (f2.no_trans f3)
    · have c := not_f c
      simp only [decide_eq_true_eq] at c
      rw [G2.succ i0 hi]
      refine ⟨n - 1, by omega, by omega, by omega, fun p hp' => ?_, f2.no_trans f3⟩
      by_cases hpi : (p : Int) < i
      · exact hp p hpi
      · have : (p : Int) = i := by omega
        rw [this]; omega
  · have hi := G2.ge e
    have : strongB xss = true := List.all_eq_true.2 fun p hpr => by
      simp only [decide_eq_true_eq]
      exact hp p (by have := List.mem_range.1 hpr; omega)
    rw [this] at HK
    exact HK h2 f2

theorem k_isBalanced {S : Nat → Prop} {h : Heap} {g : Sl} {xss : List (List Int)} (G : RdR S h g xss) (hg : graphB xss = true) : Ret Tryd.prog 89 #[.agg #[g.v]] h (VB (balB xss)) := by
  intro K HK
  have hgl := graph_len hg
  have hgt := graph_tot hg
  refine v89 g h K fun b1 h1 hb1 f1 hL1 => ?_
  have f1 := f1.in_nil
  refine ⟨fun n i h' => 0 ≤ i ∧ i + n = (xss.length : Int) ∧ (∀ p : Nat, (p : Int) < i → (xss.getD p []).length = xss.flatten.count (p : Int)) ∧ Fr No h h', ⟨xss.length, by omega, by omega, fun p hp => by omega, f1⟩, ?_⟩
  rintro n i h2 ⟨i0, i1, hp, f2⟩ hL2
  have G2 := G.no f2
  have gn := G2.len
  refine ⟨fun e => ?_, fun e => ?_⟩
  · have hi := G2.lt e
    obtain ⟨si, c1, r1⟩ := G2.get i0 hi
    have sn := r1.len
    have eg : xss.getD i.toNat [] = xss[i.toNat]'(by omega) := getD_get (by omega)
    refine ⟨G2.inb i0 hi, si, c1, k_entries G2 (by omega) i _ fun h3 f3 => ⟨_, rfl, hL2.of_no f3, fun c => ?_, fun c => ?_⟩⟩
    · have c := not_t c
      simp only [decide_eq_false_iff_not] at c
      have : balB xss = false := by
        refine Bool.eq_false_iff.2 fun hs => ?_
        have := List.all_eq_true.1 hs i.toNat (by simpa using by omega)
        simp only [decide_eq_true_eq] at this
        rw [show ((i.toNat : Nat) : Int) = i by omega, eg] at this
        omega
      rw [this] at HK
      exact HK h3 (f2.no_trans f3)
    · have c := not_f c
      simp only [decide_eq_true_eq] at c
      rw [G2.succ i0 hi]
      refine ⟨n - 1, by omega, by omega, by omega, fun p hp' => ?_, f2.no_trans f3⟩
      by_cases hpi : (p : Int) < i
      · exact hp p hpi
      · have : p = i.toNat := by omega
        rw [this, eg, show ((i.toNat : Nat) : Int) = i by omega]; omega
  · have hi := G2.ge e
    have : balB xss = true := List.all_eq_true.2 fun p hpr => by
      simp only [decide_eq_true_eq]
      exact hp p (by have := List.mem_range.1 hpr; omega)
    rw [this] at HK
    exact HK h2 f2

/-! The least lengths of ways. -/
def Way (g : List (List Int)) (p : Int) : Nat → Int → Prop
  | 0, q => p = q
  | k + 1, q => ∃ x, Way g p k x ∧ q ∈ g.getD x.toNat []
theorem Way.rng {g : List (List Int)} (hg : graphB g = true) {p : Int} (h0 : 0 ≤ p) (h1 : p < (g.length : Int)) : ∀ {k : Nat} {q : Int}, Way g p k q → 0 ≤ q ∧ q < (g.length : Int)
  | 0, q, h => by rw [← show p = q from h]; exact ⟨h0, h1⟩
  | k + 1, q, h => by
    obtain ⟨x, hx, hq⟩ := h
    have hr := Way.rng hg h0 h1 hx
    rw [getD_get (by omega)] at hq
    exact (graph_mem hg (List.getElem_mem (show x.toNat < g.length by omega))).2 q hq
theorem Way.trans {g : List (List Int)} {p q r : Int} {a : Nat} (h : Way g p a q) : ∀ {b : Nat}, Way g q b r → Way g p (a + b) r
  | 0, k => by rw [← show q = r from k]; exact h
  | b + 1, k => by
    obtain ⟨x, hx, hr⟩ := k
    exact ⟨x, h.trans hx, hr⟩
theorem set_getI {l : List Int} {i j : Nat} {v : Int} (hi : i < l.length) : (l.set i v).getD j 0 = if i = j then v else l.getD j 0 := by
  rw [List.getD_eq_getElem?_getD, List.getElem?_set, List.getD_eq_getElem?_getD]
  by_cases h : i = j
  · subst h; simp [hi]
  · simp [h]
/-- What one place makes of the lengths. -/
structure BIn (x : Int) (qs far : List Int) (far' new : List Int) : Prop where
  len : far'.length = far.length
  old : ∀ y : Nat, 0 ≤ far.getD y 0 → far'.getD y 0 = far.getD y 0
  chg : ∀ y : Nat, far.getD y 0 < 0 → far'.getD y 0 = far.getD y 0 ∨ far'.getD y 0 = far.getD x.toNat 0 + 1 ∧ (y : Int) ∈ qs ∧ (y : Int) ∈ new
  met : ∀ y, y ∈ qs → 0 ≤ far'.getD y.toNat 0
  nw : ∀ z, z ∈ new → z ∈ qs ∧ far'.getD z.toNat 0 = far.getD x.toNat 0 + 1
  cnt : new.length + negs far' = negs far
theorem bfsIn_spec (x : Int) : ∀ (qs far out : List Int), (∀ q, q ∈ qs → 0 ≤ q ∧ q < (far.length : Int)) → 0 ≤ far.getD x.toNat 0 → ∃ far' new, bfsIn x qs (far, out) = (far', out ++ new) ∧ BIn x qs far far' new
  | [], far, out, _, _ => ⟨far, [], by rw [bfsIn, List.append_nil], rfl, fun _ _ => rfl, fun _ _ => .inl rfl, fun y hy => by simp at hy, fun z hz => by simp at hz, by simp⟩
  | q :: qs, far, out, hr, hx => by
    have hq := hr q List.mem_cons_self
    rw [bfsIn]
    by_cases hn : far.getD q.toNat 0 < 0
    · rw [if_pos hn]
      simp only
      have hqx : q.toNat ≠ x.toNat := fun e => by rw [e] at hn; omega
      have gx : (far.set q.toNat (far.getD x.toNat 0 + 1)).getD x.toNat 0 = far.getD x.toNat 0 := by rw [set_getI (by omega), if_neg hqx]
      obtain ⟨far', new, e, B⟩ := bfsIn_spec x qs (far.set q.toNat (far.getD x.toNat 0 + 1)) (out ++ [q]) (fun r h => by rw [List.length_set]; exact hr r (List.mem_cons_of_mem _ h)) (by rw [gx]; exact hx)
      have hc := negs_set (l := far) (i := q.toNat) (v := far.getD x.toNat 0 + 1) (by omega) (by rw [← getD_getI (by omega)]; exact hn) (by omega)
      have hqf : far'.getD q.toNat 0 = far.getD x.toNat 0 + 1 := by
        have := B.old q.toNat (by rw [set_getI (by omega), if_pos rfl]; omega)
        rw [this, set_getI (by omega), if_pos rfl]
      refine ⟨far', q :: new, by rw [e, List.append_assoc]; rfl, by rw [B.len, List.length_set], fun y hy => ?_, fun y hy => ?_, fun y hy => ?_, fun z hz => ?_, by have := B.cnt; simp only [List.length_cons]; omega⟩
      · have hne : q.toNat ≠ y := fun e => by rw [e] at hn; omega
        have := B.old y (by rw [set_getI (by omega), if_neg hne]; exact hy)
        rw [this, set_getI (by omega), if_neg hne]
      · by_cases hne : q.toNat = y
        · subst hne
          refine .inr ⟨hqf, ?_, ?_⟩ <;> rw [show ((q.toNat : Nat) : Int) = q by omega] <;> exact List.mem_cons_self
        · have g1 : (far.set q.toNat (far.getD x.toNat 0 + 1)).getD y 0 = far.getD y 0 := by rw [set_getI (by omega), if_neg hne]
          rcases B.chg y (by rw [g1]; exact hy) with h | ⟨h1, h2, h3⟩
          · exact .inl (h.trans g1)
          · exact .inr ⟨by rw [h1, gx], List.mem_cons_of_mem _ h2, List.mem_cons_of_mem _ h3⟩
      · rcases List.mem_cons.1 hy with rfl | hy
        · rw [hqf]; omega
        · exact B.met y hy
      · rcases List.mem_cons.1 hz with rfl | hz
        · exact ⟨List.mem_cons_self, hqf⟩
        · have := B.nw z hz
          exact ⟨List.mem_cons_of_mem _ this.1, by rw [this.2, gx]⟩
    · rw [if_neg hn]
      obtain ⟨far', new, e, B⟩ := bfsIn_spec x qs far out (fun r h => hr r (List.mem_cons_of_mem _ h)) hx
      refine ⟨far', new, e, B.len, B.old, fun y hy => ?_, fun y hy => ?_, fun z hz => ⟨List.mem_cons_of_mem _ (B.nw z hz).1, (B.nw z hz).2⟩, B.cnt⟩
      · rcases B.chg y hy with h | ⟨h1, h2, h3⟩
        · exact .inl h
        · exact .inr ⟨h1, List.mem_cons_of_mem _ h2, h3⟩
      · rcases List.mem_cons.1 hy with rfl | hy
        · rw [B.old _ (by omega)]; omega
        · exact B.met y hy
/-- Lengths on the way, and the places that wait. -/
structure BQ (g : List (List Int)) (p : Int) (far qu : List Int) : Prop where
  len : far.length = g.length
  way : ∀ y : Nat, y < g.length → 0 ≤ far.getD y 0 → Way g p (far.getD y 0).toNat y
  lo : ∀ y : Nat, -1 ≤ far.getD y 0
  qin : ∀ x, x ∈ qu → 0 ≤ x ∧ x < (g.length : Int) ∧ 0 ≤ far.getD x.toNat 0
  ord : qu.Pairwise fun a b => far.getD a.toNat 0 ≤ far.getD b.toNat 0
  top : ∀ x r, qu = x :: r → ∀ y : Nat, y < g.length → far.getD y 0 ≤ far.getD x.toNat 0 + 1
  done : ∀ x : Nat, x < g.length → 0 ≤ far.getD x 0 → (x : Int) ∈ qu ∨ ∀ y, y ∈ g.getD x [] → 0 ≤ far.getD y.toNat 0 ∧ far.getD y.toNat 0 ≤ far.getD x 0 + 1
  home : far.getD p.toNat 0 = 0
  hi : ∀ y : Nat, y < g.length → far.getD y 0 + negs far < g.length
theorem bfs_done {g : List (List Int)} (hg : graphB g = true) {p : Int} : ∀ (f : Nat) (far qu : List Int), BQ g p far qu → qu.length + negs far ≤ f → BQ g p (bfsP g f far qu) []
  | 0, far, qu, B, h => by
    have : qu = [] := List.eq_nil_of_length_eq_zero (by omega)
    subst this
    exact B
  | f + 1, far, [], B, h => B
  | f + 1, far, x :: rest, B, h => by
    have hx := B.qin x List.mem_cons_self
    have hxl : x.toNat < g.length := by omega
    have hq : ∀ q, q ∈ g.getD x.toNat [] → 0 ≤ q ∧ q < (far.length : Int) := fun q hq => by
      rw [getD_get hxl] at hq
      rw [B.len]
      exact (graph_mem hg (List.getElem_mem hxl)).2 q hq
    obtain ⟨far', new, e, C⟩ := bfsIn_spec x (g.getD x.toNat []) far [] hq hx.2.2
    rw [bfsP, e]
    simp only [List.nil_append]
    have gx : far'.getD x.toNat 0 = far.getD x.toNat 0 := C.old _ hx.2.2
    have hgrow : ∀ y : Nat, 0 ≤ far.getD y 0 → far'.getD y 0 = far.getD y 0 := C.old
    have hle : ∀ y : Nat, y < g.length → far'.getD y 0 ≤ far.getD x.toNat 0 + 1 := fun y hy => by
      by_cases h0 : 0 ≤ far.getD y 0
      · rw [C.old y h0]; exact B.top x rest rfl y hy
      · rcases C.chg y (by omega) with h | ⟨h, _⟩
        · rw [h]; omega
        · omega
    have hrest : ∀ z, z ∈ rest → far'.getD z.toNat 0 = far.getD z.toNat 0 := fun z hz => C.old _ (B.qin z (List.mem_cons_of_mem _ hz)).2.2
    obtain ⟨o1, o2⟩ := List.pairwise_cons.1 B.ord
    refine bfs_done hg f far' (rest ++ new) ⟨by rw [C.len, B.len], fun y hy h0 => ?_, fun y => ?_, fun z hz => ?_, ?_, fun z r hz y hy => ?_, fun y hy h0 => ?_, ?_, fun y hy => ?_⟩ ?_
    · by_cases h1 : 0 ≤ far.getD y 0
      · rw [C.old y h1]; exact B.way y hy h1
      · rcases C.chg y (by omega) with h | ⟨h, h2, _⟩
        · rw [h] at h0; omega
        · rw [h, show (far.getD x.toNat 0 + 1).toNat = (far.getD x.toNat 0).toNat + 1 by omega]
          refine ⟨x, ?_, h2⟩
          have := B.way x.toNat hxl hx.2.2
          rwa [show ((x.toNat : Nat) : Int) = x by omega] at this
    · by_cases h1 : 0 ≤ far.getD y 0
      · rw [C.old y h1]; omega
      · have := B.lo y
        rcases C.chg y (by omega) with h | ⟨h, _⟩ <;> omega
    · rcases List.mem_append.1 hz with hz | hz
      · have := B.qin z (List.mem_cons_of_mem _ hz)
        exact ⟨this.1, this.2.1, by rw [hrest z hz]; exact this.2.2⟩
      · have a := C.nw z hz
        have b := hq z a.1
        rw [B.len] at b
        exact ⟨b.1, b.2, by rw [a.2]; omega⟩
    · rw [List.pairwise_append]
      refine ⟨o2.imp_of_mem fun {a b} ha hb hab => by rw [hrest a ha, hrest b hb]; exact hab, ?_, fun a ha b hb => ?_⟩
      · rw [List.pairwise_iff_getElem]
        intro i j hi hj _
        rw [(C.nw _ (List.getElem_mem hi)).2, (C.nw _ (List.getElem_mem hj)).2]
        omega
      · rw [hrest a ha, (C.nw b hb).2]
        have := B.qin a (List.mem_cons_of_mem _ ha)
        exact B.top x rest rfl a.toNat (by omega)
    · have hz1 : far.getD x.toNat 0 ≤ far'.getD z.toNat 0 := by
        have hzm : z ∈ rest ++ new := by rw [hz]; exact List.mem_cons_self
        rcases List.mem_append.1 hzm with h | h
        · rw [hrest z h]; exact o1 z h
        · rw [(C.nw z h).2]; omega
      have := hle y hy
      omega
    · by_cases hyx : (y : Int) = x
      · refine .inr fun z hz => ?_
        have hyx' : y = x.toNat := by omega
        rw [hyx'] at hz ⊢
        have := hq z hz
        rw [B.len] at this
        exact ⟨C.met z hz, by rw [gx]; exact hle z.toNat (by omega)⟩
      · by_cases h1 : 0 ≤ far.getD y 0
        · rcases B.done y hy h1 with h | h
          · rcases List.mem_cons.1 h with h | h
            · exact absurd h hyx
            · exact .inl (List.mem_append.2 (.inl h))
          · refine .inr fun z hz => ?_
            obtain ⟨a, b⟩ := h z hz
            rw [C.old _ a, C.old _ h1]
            exact ⟨a, b⟩
        · rcases C.chg y (by omega) with h | ⟨_, _, h⟩
          · rw [h] at h0; omega
          · exact .inl (List.mem_append.2 (.inr h))
    · rw [C.old _ (by rw [B.home]; omega)]; exact B.home
    · have hc := C.cnt
      by_cases h1 : 0 ≤ far.getD y 0
      · rw [C.old y h1]; have := B.hi y hy; omega
      · rcases C.chg y (by omega) with h | ⟨h, _, h3⟩
        · rw [h]; have := B.hi y hy; omega
        · have := List.length_pos_of_mem h3
          have := B.hi x.toNat hxl
          rw [h]; omega
    · have := C.cnt
      simp only [List.length_cons, List.length_append] at *
      omega
theorem far_bq {g : List (List Int)} (hg : graphB g = true) {p : Int} (h0 : 0 ≤ p) (h1 : p < (g.length : Int)) : BQ g p (farP g p) [] := by
  obtain ⟨b1, b2⟩ := bok0 (n := g.length) (p := p.toNat) (by omega)
  have gd : ∀ y : Nat, ((List.replicate g.length (-1 : Int)).set p.toNat 0).getD y 0 = if p.toNat = y then 0 else if y < g.length then -1 else 0 := fun y => by
    rw [set_getI (by simp; omega)]
    split
    · rfl
    · rw [List.getD_eq_getElem?_getD, List.getElem?_replicate]; split <;> rfl
  refine bfs_done hg g.length _ [p] ⟨by simp, fun y hy h => ?_, fun y => ?_, fun x hx => ?_, by simp, fun x r hx y hy => ?_, fun x hx h => ?_, ?_, fun y hy => ?_⟩ (by simp only [List.length_cons, List.length_nil]; omega)
  · rw [gd] at h ⊢
    split at h
    · rename_i e
      rw [if_pos e]
      show p = (y : Int)
      omega
    · simp at h
  · rw [gd]; split
    · omega
    · split <;> omega
  · simp only [List.mem_cons, List.not_mem_nil, or_false] at hx
    subst hx
    exact ⟨h0, h1, by rw [gd, if_pos rfl]; omega⟩
  · simp only [List.cons.injEq] at hx
    rw [← hx.1, gd, gd, if_pos rfl]
    split
    · omega
    · (try split) <;> omega
  · rw [gd] at h
    split at h
    · exact .inl (by simp; omega)
    · simp at h
  · rw [gd, if_pos rfl]
  · rw [gd]
    split
    · omega
    · (try split) <;> omega
/-- A way is no shorter than told. -/
theorem far_le {g : List (List Int)} (hg : graphB g = true) {p : Int} (h0 : 0 ≤ p) (h1 : p < (g.length : Int)) : ∀ {k : Nat} {q : Int}, Way g p k q → 0 ≤ (farP g p).getD q.toNat 0 ∧ (farP g p).getD q.toNat 0 ≤ k
  | 0, q, h => by rw [← show p = q from h, (far_bq hg h0 h1).home]; omega
  | k + 1, q, h => by
    obtain ⟨x, hx, hq⟩ := h
    obtain ⟨a, b⟩ := far_le hg h0 h1 hx
    have hr := hx.rng hg h0 h1
    rcases (far_bq hg h0 h1).done x.toNat (by omega) a with c | c
    · simp at c
    · have := c q hq
      omega
theorem far_way {g : List (List Int)} (hg : graphB g = true) {p q : Int} (h0 : 0 ≤ p) (h1 : p < (g.length : Int)) (q0 : 0 ≤ q) (q1 : q < (g.length : Int)) (h : 0 ≤ (farP g p).getD q.toNat 0) : Way g p ((farP g p).getD q.toNat 0).toNat q := by
  have := (far_bq hg h0 h1).way q.toNat (by omega) h
  rwa [show ((q.toNat : Nat) : Int) = q by omega] at this
theorem far_iff {g : List (List Int)} (hg : graphB g = true) {p q : Int} (h0 : 0 ≤ p) (h1 : p < (g.length : Int)) (q0 : 0 ≤ q) (q1 : q < (g.length : Int)) : 0 ≤ (farP g p).getD q.toNat 0 ↔ ∃ k, Way g p k q :=
  ⟨fun h => ⟨_, far_way hg h0 h1 q0 q1 h⟩, fun ⟨k, h⟩ => (far_le hg h0 h1 h).1⟩
theorem far_lo {g : List (List Int)} (hg : graphB g = true) {p : Int} (h0 : 0 ≤ p) (h1 : p < (g.length : Int)) (q : Nat) : -1 ≤ (farP g p).getD q 0 := (far_bq hg h0 h1).lo q
/-- Lengths are told by ways alone. -/
theorem far_eq {g g' : List (List Int)} (hg : graphB g = true) (hg' : graphB g' = true) {p q p' q' : Int} (h0 : 0 ≤ p) (h1 : p < (g.length : Int)) (q0 : 0 ≤ q) (q1 : q < (g.length : Int)) (h0' : 0 ≤ p') (h1' : p' < (g'.length : Int)) (q0' : 0 ≤ q') (q1' : q' < (g'.length : Int)) (hw : ∀ k, Way g p k q ↔ Way g' p' k q') : (farP g p).getD q.toNat 0 = (farP g' p').getD q'.toNat 0 := by
  have a1 := far_lo hg h0 h1 q.toNat
  have a2 := far_lo hg' h0' h1' q'.toNat
  by_cases h : 0 ≤ (farP g p).getD q.toNat 0
  · have w := (hw _).1 (far_way hg h0 h1 q0 q1 h)
    obtain ⟨b1, b2⟩ := far_le hg' h0' h1' w
    have w' := (hw _).2 (far_way hg' h0' h1' q0' q1' b1)
    obtain ⟨c1, c2⟩ := far_le hg h0 h1 w'
    omega
  · have : ¬ 0 ≤ (farP g' p').getD q'.toNat 0 := fun h' => h ((far_iff hg h0 h1 q0 q1).2 ⟨_, (hw _).2 (far_way hg' h0' h1' q0' q1' h')⟩)
    omega
theorem far_zero {g : List (List Int)} (hg : graphB g = true) {p q : Int} (h0 : 0 ≤ p) (h1 : p < (g.length : Int)) (q0 : 0 ≤ q) (q1 : q < (g.length : Int)) : (farP g p).getD q.toNat 0 = 0 ↔ p = q := by
  constructor
  · intro h
    have := far_way hg h0 h1 q0 q1 (by omega)
    rw [h] at this
    exact this
  · rintro rfl; exact (far_bq hg h0 h1).home
theorem far_hi {g : List (List Int)} (hg : graphB g = true) {p : Int} (h0 : 0 ≤ p) (h1 : p < (g.length : Int)) (q : Nat) (hq : q < g.length) : (farP g p).getD q 0 < g.length := by
  have := (far_bq hg h0 h1).hi q hq
  omega

/-! Places that are reached, as lists. -/
def reachL (far : List Int) : Nat → List Int
  | 0 => []
  | i + 1 => reachL far i ++ (if 0 ≤ far.getD i 0 then [(i : Int)] else [])
def reachP (g : List (List Int)) (p : Int) : List Int := reachL (farP g p) g.length
theorem mem_reachL {far : List Int} {x : Int} : ∀ {n : Nat}, x ∈ reachL far n ↔ 0 ≤ x ∧ x < (n : Int) ∧ 0 ≤ far.getD x.toNat 0
  | 0 => by simp [reachL]; omega
  | n + 1 => by
    rw [reachL, List.mem_append, mem_reachL]
    by_cases h : 0 ≤ far.getD n 0
    · rw [if_pos h, List.mem_singleton]
      constructor
      · rintro (⟨a, b, c⟩ | rfl)
        · exact ⟨a, by omega, c⟩
        · exact ⟨by omega, by omega, by simpa using h⟩
      · rintro ⟨a, b, c⟩
        by_cases e : x = n
        · exact .inr e
        · exact .inl ⟨a, by omega, c⟩
    · rw [if_neg h]
      constructor
      · rintro (⟨a, b, c⟩ | h)
        · exact ⟨a, by omega, c⟩
        · simp at h
      · rintro ⟨a, b, c⟩
        refine .inl ⟨a, ?_, c⟩
        by_cases e : x = n
        · rw [show x.toNat = n by omega] at c; omega
        · omega
theorem reachL_len (far : List Int) : ∀ n, (reachL far n).length ≤ n
  | 0 => Nat.le_refl _
  | n + 1 => by have := reachL_len far n; rw [reachL, List.length_append]; split <;> simp <;> omega
theorem reachL_rise (far : List Int) : ∀ n, (reachL far n).Pairwise (· < ·)
  | 0 => .nil
  | n + 1 => by
    rw [reachL, List.pairwise_append]
    refine ⟨reachL_rise far n, ?_, fun a ha b hb => ?_⟩
    · split <;> simp
    · have := mem_reachL.1 ha
      split at hb
      · simp only [List.mem_singleton] at hb; omega
      · simp at hb
theorem reachL_cnt (far : List Int) : ∀ n, n ≤ far.length → (reachL far n).length = (far.take n).countP (fun x => decide (0 ≤ x))
  | 0, _ => by simp [reachL]
  | n + 1, h => by
    rw [reachL, List.length_append, reachL_cnt far n (by omega), List.take_succ_eq_append_getElem (by omega), List.countP_append, List.countP_singleton, getD_getI (by omega)]
    by_cases h : 0 ≤ far[n]
    · simp [h]
    · simp [h]
theorem mem_reach {g : List (List Int)} (hg : graphB g = true) {p : Int} (h0 : 0 ≤ p) (h1 : p < (g.length : Int)) {x : Int} : x ∈ reachP g p ↔ 0 ≤ x ∧ x < (g.length : Int) ∧ ∃ k, Way g p k x := by
  rw [reachP, mem_reachL]
  constructor
  · rintro ⟨a, b, c⟩; exact ⟨a, b, (far_iff hg h0 h1 a b).1 c⟩
  · rintro ⟨a, b, c⟩; exact ⟨a, b, (far_iff hg h0 h1 a b).2 c⟩
def wlP (g : List (List Int)) (p q : Int) : Int × Bool := if (graphB g && (inR 0 ((g.length : Int) - 1) p && inR 0 ((g.length : Int) - 1) q)) && decide (0 ≤ (farP g p).getD q.toNat 0) then ((farP g p).getD q.toNat 0, true) else (0, false)
def roP (g : List (List Int)) (p : Int) : List Int × Bool := if graphB g && inR 0 ((g.length : Int) - 1) p then (reachP g p, true) else ([], false)

theorem k_reachL {S : Nat → Prop} {h : Heap} {g : Sl} {xss : List (List Int)} (G : RdR S h g xss) (hg : graphB xss = true) {p : Int} (h0 : 0 ≤ p) (h1 : p < (xss.length : Int)) (K : Value → Heap → Prop) (HK : ∀ (t : Sl) (h' : Heap), OwI h' (Iv h.size h'.size) t (reachP xss p) → Fr No h h' → K t.v h') : callM Tryd.prog 111 #[.agg #[g.v], VI p] h K := by
  refine v111 g p h K fun b1 h1' hb1 f1 hL1 => ?_
  have f1 := f1.in_nil
  have hgl := graph_len hg
  have l1 : b1 < h1'.size := hL1.head.lt
  have z1 := f1.size
  refine eop_lit rIs (fun k => h1'.size ≤ k) (fun _ h => h) 0 (by omega) [] rfl rfl fun t h2 n2 c2 o2 f2 m2 _ => ⟨t, rfl, hL1.of_no f2, ?_⟩
  have z2 := f2.size
  refine k_lengths ((G.no f1).no f2) hg h0 h1 _ fun w h3 o3 fl f3 => ⟨w, rfl, (hL1.of_no f2).of_no f3, ?_⟩
  have z3 := f3.size
  have R3 : RdI (Iv h2.size h3.size) h3 w _ := Ow.rdI o3
  have o2' : OwI h3 (fun k => (Iv h1'.size h2.size k ∨ h3.size ≤ k)) t [] := (Ow.no o2 f3).mono fun k _ hk => by
    have := (o2.foot (by assumption)).2
    exact .inl ⟨hk, this⟩
  refine ⟨fun n x i h' => 0 ≤ i ∧ i + n = ((farP xss p).length : Int) ∧ OwI h' (fun k => Iv h1'.size h2.size k ∨ h3.size ≤ k) x (reachL (farP xss p) i.toNat) ∧ RdI (Iv h2.size h3.size) h' w (farP xss p) ∧ Fr (fun k => Iv h1'.size h2.size k ∨ h3.size ≤ k) h3 h' ∧ h3.size ≤ h'.size, ⟨(farP xss p).length, by omega, by omega, o2', R3, Fr.refl _ _, Nat.le_refl _⟩, ?_⟩
  rintro n x i h4 ⟨i0, i1, o4, R4, f4, z4⟩ hL4
  refine ⟨fun e => ?_, fun e => ?_⟩
  · have hi := R4.lt e
    have hci : ((i.toNat : Nat) : Int) = i := by omega
    have est : reachL (farP xss p) (i + 1).toNat = reachL (farP xss p) i.toNat ++ (if 0 ≤ (farP xss p)[i.toNat]'(by omega) then [i] else []) := by rw [toNat_succ i0, reachL, hci, getD_getI (by omega)]
    rw [R4.succ i0 hi]
    refine ⟨R4.inb i0 hi, _, R4.get i0 hi, fun c => ?_, fun c => ?_⟩
    · simp only [decide_eq_true_eq] at c
      refine eop_putI o4 (fun k hk => .inr (by omega)) hL4 (fun q hq hk => ?_) (by have := reachL_len (farP xss p) i.toNat; omega) (fun t2 h6 => ∃ m : Nat, m < n ∧ _) fun y h6 o6 f6 V6 => ?_
      · simp only [List.mem_cons, List.not_mem_nil, or_false] at hq
        subst hq
        simp only at hk
        rcases hk with e | e
        · have := e.1; omega
        · omega
      · have z6 := f6.size
        refine ⟨n - 1, by omega, by omega, by omega, by rw [est, if_pos c]; exact o6, R4.fr f6 fun k hk hk2 => ?_, f4.trans f6, by omega⟩
        have h1 := hk.1; have h2 := hk.2
        rcases hk2 with e | e
        · have := e.2; omega
        · omega
    · simp only [decide_eq_false_iff_not] at c
      exact ⟨n - 1, by omega, by omega, by omega, by rw [est, if_neg c, List.append_nil]; exact o4, R4, f4, z4⟩
  · have hi := R4.ge e
    rw [show i.toNat = xss.length by omega] at o4
    refine HK x h4 (o4.mono fun k hl hk => ?_) (((f1.no_trans f2).no_trans f3).fresh f4 fun k hk => ?_)
    · have := (o4.foot hl).2
      rcases hk with e | e
      · have := e.1; exact ⟨by omega, by omega⟩
      · exact ⟨by omega, by omega⟩
    · rcases hk with e | e
      · have := e.1; omega
      · omega

theorem k_grReach {S : Nat → Prop} {h : Heap} {g : Sl} {xss : List (List Int)} (G : RdR S h g xss) (hg : graphB xss = true) {p : Int} (h0 : 0 ≤ p) (h1 : p < (xss.length : Int)) (K : Value → Heap → Prop) (HK : ∀ (t : Sl) (h' : Heap), OwI h' (Iv h.size h'.size) t (reachP xss p) → Fr No h h' → K t.v h') : callM Tryd.prog 107 #[.agg #[g.v], VI p] h K := by
  refine v107 g p h K fun b1 h1' hb1 f1 hL1 => ?_
  have f1 := f1.in_nil
  have hgl := graph_len hg
  have l1 : b1 < h1'.size := hL1.head.lt
  have z1 := f1.size
  refine k_grFar (G.no f1) hg h0 h1 _ fun w h3 o3 fl f3 => ⟨w, rfl, hL1.of_no f3, ?_⟩
  have z3 := f3.size
  have R3 : RdI (Iv h1'.size h3.size) h3 w _ := Ow.rdI o3
  refine ⟨fun n x i h' => 0 ≤ i ∧ i + n = ((farP xss p).length : Int) ∧ OwI h' (fun k => h3.size ≤ k) x (reachL (farP xss p) i.toNat) ∧ RdI (Iv h1'.size h3.size) h' w (farP xss p) ∧ Fr (fun k => h3.size ≤ k) h3 h' ∧ h3.size ≤ h'.size, ⟨(farP xss p).length, by omega, by omega, Ow.nil _ _ _ _, R3, Fr.refl _ _, Nat.le_refl _⟩, ?_⟩
  rintro n x i h4 ⟨i0, i1, o4, R4, f4, z4⟩ hL4
  refine ⟨fun e => ?_, fun e => ?_⟩
  · have hi := R4.lt e
    have hci : ((i.toNat : Nat) : Int) = i := by omega
    have est : reachL (farP xss p) (i + 1).toNat = reachL (farP xss p) i.toNat ++ (if 0 ≤ (farP xss p)[i.toNat]'(by omega) then [i] else []) := by rw [toNat_succ i0, reachL, hci, getD_getI (by omega)]
    rw [R4.succ i0 hi]
    refine ⟨R4.inb i0 hi, _, R4.get i0 hi, fun c => ?_, fun c => ?_⟩
    · simp only [decide_eq_true_eq] at c
      refine eop_putI o4 (fun k hk => by omega) hL4 (fun q hq hk => ?_) (by have := reachL_len (farP xss p) i.toNat; omega) (fun t2 h6 => ∃ m : Nat, m < n ∧ _) fun y h6 o6 f6 V6 => ?_
      · simp only [List.mem_cons, List.not_mem_nil, or_false] at hq
        subst hq
        simp only at hk
        omega
      · have z6 := f6.size
        exact ⟨n - 1, by omega, by omega, by omega, by rw [est, if_pos c]; exact o6, R4.fr f6 fun k hk hk2 => by have := hk.2; omega, f4.trans f6, by omega⟩
    · simp only [decide_eq_false_iff_not] at c
      exact ⟨n - 1, by omega, by omega, by omega, by rw [est, if_neg c, List.append_nil]; exact o4, R4, f4, z4⟩
  · have hi := R4.ge e
    rw [show i.toNat = xss.length by omega] at o4
    exact HK x h4 (o4.mono fun k hl hk => ⟨by omega, (o4.foot hl).2⟩) ((f1.no_trans f3).fresh f4 fun k hk => by omega)

theorem k_grStrong {S : Nat → Prop} {h : Heap} {g : Sl} {xss : List (List Int)} (G : RdR S h g xss) (hg : graphB xss = true) : Ret Tryd.prog 84 #[.agg #[g.v]] h (VB (strongB xss)) := by
  intro K HK
  refine v84 g h K fun b1 h1 hb1 f1 hL1 => ?_
  have f1 := f1.in_nil
  have hgl := graph_len hg
  refine ⟨fun n i h' => 0 ≤ i ∧ i + n = (xss.length : Int) ∧ Fr No h h' ∧ ∀ j : Nat, (j : Int) < i → (farP xss j).countP (fun x => decide (0 ≤ x)) = xss.length, ⟨xss.length, by omega, by omega, f1, fun j hj => by omega⟩, ?_⟩
  rintro n i h2 ⟨i0, i1, f2, hall⟩ hL2
  have G2 := G.no f2
  refine ⟨fun e => ?_, fun e => ?_⟩
  · have hi := G2.lt e
    have hci : ((i.toNat : Nat) : Int) = i := by omega
    refine k_grReach G2 hg i0 hi _ fun t h3 o3 f3 => ⟨t, rfl, hL2.of_no f3, ?_⟩
    have tl : t.n = (reachP xss i).length := RdI.len o3.rdF
    have fl := (far_bq hg i0 hi).len
    have hc : (reachP xss i).length = (farP xss i).countP (fun x => decide (0 ≤ x)) := by rw [reachP, reachL_cnt _ _ (by omega), List.take_of_length_le (by omega)]
    rw [G.len]
    refine ⟨fun e2 => ?_, fun e2 => ?_⟩
    · have e2 := not_t e2
      simp only [decide_eq_false_iff_not] at e2
      have := HK h3 (f2.no_trans f3)
      rw [show strongB xss = false by
        cases hb : strongB xss with
        | false => rfl
        | true =>
          unfold strongB at hb
          rw [range_all] at hb
          have := hb i.toNat (by omega)
          rw [hci, decide_eq_true_eq] at this
          omega] at this
      exact this
    · have e2 := not_f e2
      simp only [decide_eq_true_eq] at e2
      rw [w64_eq _ (by omega) (by omega)]
      refine ⟨n - 1, by omega, by omega, by omega, f2.no_trans f3, fun j hj => ?_⟩
      by_cases h5 : (j : Int) < i
      · exact hall j h5
      · rw [show (j : Int) = i by omega]; omega
  · have hi := G2.ge e
    have := HK h2 f2
    rw [show strongB xss = true by
      unfold strongB
      rw [range_all]
      intro j hj
      rw [decide_eq_true_eq]
      exact hall j (by omega)] at this
    exact this

@[reducible] def tSs : TypeId := 79
theorem rSs : rowC Tryd.prog tSs = some (9, 1, 16, [VS (⟨#[]⟩ : ByteArray)]) := by kernel_rfl
theorem plainVS (xs : List ByteArray) : (xs.map VS).all plainV = true := by simp [List.all_eq_true, plainV]
@[reducible] def OwS (h : Heap) (F : Nat → Prop) (s : Sl) (xs : List ByteArray) : Prop := Ow h F 9 1 s (xs.map VS)
theorem mk_add (g o j : Nat) : (⟨g, o, none⟩ : Addr).add j = ⟨g, o + j, none⟩ := by
  unfold Addr.add
  by_cases h : j = 0 <;> simp [h]
theorem cell_hc (w : World) (a : Addr) : w.cell? a = hcell w.heap a := rfl
theorem ba_app (a b : List UInt8) : ((⟨a.toArray⟩ : ByteArray) ++ (⟨b.toArray⟩ : ByteArray)) = ⟨(a ++ b).toArray⟩ := by
  apply ByteArray.ext
  simp [ByteArray.data_append]
theorem ba_size (a : List UInt8) : (⟨a.toArray⟩ : ByteArray).size = a.length := by simp [ByteArray.size]
theorem dec_len {n : Nat} (h : n < 100) : (Lib.decDigits n).length ≤ 2 := by
  by_cases h1 : n < 10
  · rw [Lib.decDigits_one h1]; simp
  · rw [Lib.decDigits_two h1 h]; simp
theorem join_len : ∀ (xs : List (List UInt8)), (∀ x, x ∈ xs → x.length ≤ 2) → (Lib.join xs [44]).length ≤ 3 * xs.length
  | [], _ => by simp [Lib.join_nil]
  | x :: r, h => by
    rw [Lib.join_length]
    have : ∀ (l : List (List UInt8)), (∀ x, x ∈ l → x.length ≤ 2) → Lib.lens l ≤ 2 * l.length := by
      intro l
      induction l with
      | nil => intro _; simp [Lib.lens]
      | cons a l ih =>
        intro hl
        have h1 := ih fun y hy => hl y (List.mem_cons_of_mem _ hy)
        have h2 := hl a (List.mem_cons_self ..)
        simp only [Lib.lens, List.map_cons, List.sum_cons, List.length_cons] at h1 ⊢
        omega
    have := this _ h
    simp only [List.length_cons, List.length_nil] at this ⊢
    omega
def listL (rs : List Int) : List UInt8 := if rs.length = 0 then [45] else Lib.join (rs.map fun x => Lib.decDigits x.toNat) [44]
theorem listL_len {rs : List Int} (h : ∀ x, x ∈ rs → 0 ≤ x ∧ x < 100) : (listL rs).length ≤ 3 * rs.length + 1 := by
  unfold listL
  split
  · simp
  · have := join_len (rs.map fun x => Lib.decDigits x.toNat) fun y hy => by
      obtain ⟨x, hx, rfl⟩ := List.mem_map.1 hy
      exact dec_len (by have := h x hx; omega)
    rw [List.length_map] at this
    omega
theorem k_Itoa {h : Heap} {n : Int} (h0 : 0 ≤ n) (h1 : n < 100) (K : Value → Heap → Prop) (HK : K (VS ⟨(Lib.decDigits n.toNat).toArray⟩) h) : callM Tryd.prog 96 #[VI n] h K := by
  obtain ⟨i, rfl⟩ : ∃ i : Nat, n = (i : Int) := ⟨n.toNat, by omega⟩
  refine ⟨fun w hw => .inr ⟨96, _, w, Go.Proofs.enters_of Tryd.func96 (by kernel_rfl) rfl _ _, rfl, ?_⟩⟩
  subst hw
  refine (Tryd.strconv_Itoa_small i (by omega) w).mono ?_
  rintro e w' ⟨rfl, rfl⟩
  rw [Int.toNat_natCast] at HK
  exact ⟨_, rfl, Same.refl _, HK⟩
theorem k_Join {S : Nat → Prop} {h : Heap} {s : Sl} {ts : List ByteArray} {sep : ByteArray} (H : RdV S h 1 s (ts.map VS)) (hne : ts ≠ []) (hN : ts.length ≤ 1000000) (hl : (Lib.join (ts.map (·.data.toList)) sep.data.toList).length ≤ 1000000) (K : Value → Heap → Prop) (HK : ∀ h', Fr No h h' → K (VS ⟨(Lib.join (ts.map (·.data.toList)) sep.data.toList).toArray⟩) h') : callM Tryd.prog 59 #[s.v, VS sep] h K := by
  refine ⟨fun w hw => .inr ⟨59, _, w, Go.Proofs.enters_of Tryd.func59 (by kernel_rfl) rfl _ _, rfl, ?_⟩⟩
  subst hw
  have hlen := H.len
  simp only [List.length_map, Nat.mul_one] at hlen
  have hcap := H.cap
  have hpos : 0 < ts.length := List.length_pos_iff.2 hne
  obtain ⟨a, ha, _, hc⟩ := RdV.cell H 0 (by simpa using hpos)
  have hsp : a.spot = none := by
    cases hs : a.spot with
    | none => rfl
    | some sp => exfalso; unfold hcell at hc; simp [Addr.add, hs] at hc; split at hc <;> simp at hc
  obtain ⟨g, o, q⟩ := a
  simp only at hsp
  subst hsp
  have hv : s.v = .slice (some ⟨g, o, none⟩) ts.length s.c := by unfold Sl.v; rw [ha, hlen]
  rw [hv]
  refine (Tryd.strings_Join g o s.c ts sep w (fun j x hj => ?_) ?_ (by omega) (by omega) (by omega)).mono ?_
  · have hj2 : j < ts.length := (List.getElem?_eq_some_iff.1 hj).1
    obtain ⟨a', ha', _, hc'⟩ := RdV.cell H j (by simp; omega)
    rw [ha] at ha'
    cases ha'
    rw [mk_add] at hc'
    rw [cell_hc, hc']
    rw [List.getElem?_eq_getElem hj2] at hj
    simp only [Option.some.injEq] at hj
    simp [hj]
  · have := hcell_lt hc; rw [add_block] at this; exact this
  · rintro e w' ⟨rfl, hb⟩
    exact ⟨_, rfl, ⟨hb.os, hb.tape, hb.output⟩, HK _ ⟨hb.size, fun k hk _ => hb.block k hk⟩⟩
theorem eop_putS {L : List (Nat × List Value)} {F : Nat → Prop} {h : Heap} {o : Sl} {xs : List ByteArray} {x : ByteArray} (O : OwS h F o xs) (hF : ∀ k, h.size ≤ k → F k) (hL : Vars h L) (hoff : ∀ p, p ∈ L → ¬ F p.1) (hb : xs.length ≤ 1000000) (R : Sl → Heap → Prop) (HR : ∀ t h', OwS h' F t (xs ++ [x]) → Fr F h h' → Vars h' L → R t h') : eop Tryd.prog (Instr.buildSlice tSs 1 #[(0, VS x)]) h fun rv h1 => ∃ t : Sl, rv = t.v ∧ Vars h1 L ∧ eop Tryd.prog (appS tSs tSs tSs o.v t.v) h1 fun rv2 h2 => ∃ t2 : Sl, rv2 = t2.v ∧ Vars h2 L ∧ R t2 h2 := by
  refine eop_lit rSs (fun k => h.size ≤ k) (fun _ h => h) 1 (by omega) [VS x] rfl rfl fun t h1 n1 c1 o1 f1 m1 _ => ⟨t, rfl, hL.of_no f1, ?_⟩
  have z1 := f1.size
  have O1 : OwS h1 F o xs := Ow.no O f1
  have on := O1.rd.len
  have tn := o1.rd.len
  simp only [List.length_map, Nat.mul_one, List.length_cons, List.length_nil] at on tn
  refine eop_append rSs O1 (fun k hk => hF k (by omega)) o1.rd (plainVS [x]) (by omega) fun s' h2 n2 o2 f2 d2 => ?_
  have g2 : Fr F h1 h2 := f2.mono fun k _ hk => (O1.foot hk).1
  have V2 : Vars h2 L := (hL.of_no f1).fr g2 hoff
  exact ⟨s', rfl, V2, HR s' h2 (by rw [OwS, List.map_append]; exact o2) (f1.of_no.trans g2) V2⟩
theorem k_listText {S : Nat → Prop} {h : Heap} {s : Sl} {rs : List Int} (H : RdI S h s rs) (B : ∀ x, x ∈ rs → 0 ≤ x ∧ x < 100) (hn : rs.length ≤ 1000) (K : Value → Heap → Prop) (HK : ∀ h', Fr No h h' → K (VS ⟨(listL rs).toArray⟩) h') : callM Tryd.prog 58 #[s.v] h K := by
  have sn := RdI.len H
  refine v58 s h K ⟨fun e => ?_, fun e => ?_⟩
  · simp only [decide_eq_true_eq] at e
    have := HK h (Fr.refl _ _)
    unfold listL at this
    rw [if_pos (by omega)] at this
    exact this
  simp only [decide_eq_false_iff_not] at e
  refine eop_lit rSs (fun k => h.size ≤ k) (fun _ h => h) 0 (by omega) [] rfl rfl fun o h1 n1 c1 o1 f1 m1 _ => ⟨o, rfl, .nil, ?_⟩
  have z1 := f1.size
  have o1' : OwS h1 (fun k => h.size ≤ k) o [] := o1
  have no_ : ∀ {x : Heap}, Fr (fun k => h.size ≤ k) h x → Fr No h x := fun f => f.mono fun k hk hk2 => absurd hk2 (by omega)
  refine ⟨fun m x p h' => 0 ≤ p ∧ p + m = (rs.length : Int) ∧ OwS h' (fun k => h.size ≤ k) x ((rs.take p.toNat).map fun y => (⟨(Lib.decDigits y.toNat).toArray⟩ : ByteArray)) ∧ Fr (fun k => h.size ≤ k) h h', ⟨rs.length, by omega, by omega, by simpa using o1', f1.of_no⟩, ?_⟩
  rintro m x p h2 ⟨p0, p1, o2, f2⟩ hL2
  have z2 := f2.size
  have H2 := H.no (no_ f2)
  refine ⟨fun e2 => ?_, fun e2 => ?_⟩
  · have hp := H2.lt e2
    have bx := B _ (List.getElem_mem (show p.toNat < rs.length by omega))
    refine ⟨H2.inb p0 hp, _, H2.get p0 hp, k_Itoa bx.1 bx.2 _ ⟨_, rfl, .nil, ?_⟩⟩
    refine eop_putS o2 (fun k hk => by omega) .nil (fun q hq => by cases hq) (by simp; omega) _ fun t h5 o5 f5 _ => ?_
    rw [H2.succ p0 hp]
    refine ⟨m - 1, by omega, by omega, by omega, ?_, f2.trans f5⟩
    rw [show (p + 1).toNat = p.toNat + 1 by omega, List.take_add_one, List.getElem?_eq_getElem (show p.toNat < rs.length by omega)]
    rw [List.map_append]
    exact o5
  · have hp := H2.ge e2
    rw [List.take_of_length_le (by omega)] at o2
    have hm : ((rs.map fun y => (⟨(Lib.decDigits y.toNat).toArray⟩ : ByteArray)).map (·.data.toList)) = rs.map fun y => Lib.decDigits y.toNat := by simp
    have hjl := join_len (rs.map fun x => Lib.decDigits x.toNat) fun y hy => by
      obtain ⟨x, hx, rfl⟩ := List.mem_map.1 hy
      exact dec_len (by have := B x hx; omega)
    rw [List.length_map] at hjl
    refine k_Join o2.rdF (fun hh => by have := congrArg List.length hh; simp at this; simp [this] at sn; omega) (by simp; omega) (by rw [hm]; show (Lib.join _ [44]).length ≤ _; omega) _ fun h3 f3 => ⟨_, rfl, .nil, ?_⟩
    have := HK h3 ((no_ f2).trans f3)
    unfold listL at this
    rw [if_neg (by omega)] at this
    rw [hm]
    exact this

/-! A map from texts to whole numbers. -/
def MapAt (h : Heap) (b : Nat) (kvs : List (ByteArray × Int)) : Prop := ∃ (es : Array MapEntry) (clock : Nat), h[b]? = some (.map es clock) ∧ es.toList.map (fun e => (e.key, e.val)) = kvs.map fun q => (VS q.1, VI q.2)
theorem MapAt.lt {h : Heap} {b : Nat} {kvs : List (ByteArray × Int)} (M : MapAt h b kvs) : b < h.size := by
  obtain ⟨es, c, hb, _⟩ := M
  exact (Array.getElem?_eq_some_iff.1 hb).1
theorem MapAt.fr {h h' : Heap} {b : Nat} {kvs : List (ByteArray × Int)} {T : Nat → Prop} (M : MapAt h b kvs) (f : Fr T h h') (hT : ¬ T b) : MapAt h' b kvs := by
  have hl := M.lt
  obtain ⟨es, c, hb, e⟩ := M
  exact ⟨es, c, by rw [f.same b hl hT]; exact hb, e⟩
def findS (kvs : List (ByteArray × Int)) (k : ByteArray) : Option Int := match kvs with
  | [] => none
  | q :: r => if q.1 = k then some q.2 else findS r k
theorem eop_makeMap {t : TypeId} {h : Heap} {K : Value → Heap → Prop} (HK : ∀ h', MapAt h' h.size [] → Fr No h h' → h.size < h'.size → K (.map (some h.size)) h') : eop Tryd.prog (Instr.makeMap t none) h K := by
  refine ⟨fun w hw => ?_⟩
  subst hw
  refine ⟨_, _, run_makeMap_plain w t, ⟨rfl, rfl, rfl⟩, HK _ ⟨#[], 0, ?_, rfl⟩ (Fr.push w.heap _) ?_⟩
  · show (w.heap.push _)[w.heap.size]? = _
    simp
  · show w.heap.size < (w.heap.push _).size
    simp
theorem findNow_map {k : ByteArray} : ∀ (l : List MapEntry) (kvs : List (ByteArray × Int)) (i : Nat), l.map (fun e => (e.key, e.val)) = kvs.map (fun q => (VS q.1, VI q.2)) → ∃ r, Instr.findNow .string (VS k) l i = some r ∧ r.map (·.2) = (findS kvs k).map VI
  | [], [], i, _ => ⟨none, rfl, rfl⟩
  | [], q :: r, i, h => by simp at h
  | e :: l, [], i, h => by simp at h
  | e :: l, q :: r, i, h => by
    simp only [List.map_cons, List.cons.injEq, Prod.mk.injEq] at h
    obtain ⟨⟨h1, h2⟩, h3⟩ := h
    obtain ⟨x, hx, hy⟩ := findNow_map l r (i + 1) h3
    unfold Instr.findNow findS
    rw [h1]
    by_cases hq : q.1 = k
    · have : Instr.sameNow .string (VS k) (VS q.1) = some true := by
        show some (k == q.1) = some true
        rw [hq, (MapKept.bytes_beq k k).2 rfl]
      rw [this, if_pos hq]
      exact ⟨some (i, e.val), rfl, by simp [h2]⟩
    · have : Instr.sameNow .string (VS k) (VS q.1) = some false := by
        show some (k == q.1) = some false
        have : (k == q.1) = false := by
          cases hb : (k == q.1) with
          | false => rfl
          | true => exact absurd ((MapKept.bytes_beq k q.1).1 hb).symm hq
        rw [this]
      rw [this, if_neg hq]
      exact ⟨x, hx, hy⟩
theorem rop_lookup {t kt et : TypeId} {h : Heap} {b : Nat} {kvs : List (ByteArray × Int)} {k : ByteArray} (hm : Tryd.prog.underlying t = some (.map kt et)) (hk : Tryd.prog.underlying kt = some .string) (hz : zeroC Tryd.prog et = some (VI 0)) (M : MapAt h b kvs) {K : Value → Prop} (HK : K (.tuple #[VI ((findS kvs k).getD 0), VB (findS kvs k).isSome])) : rop Tryd.prog (Instr.lookup t (.map (some b)) (VS k) true) h K := by
  obtain ⟨es, c, hb, e⟩ := M
  obtain ⟨r, hr, hv⟩ := findNow_map (k := k) es.toList kvs 0 e
  refine ⟨_, fun w hw => ?_, HK⟩
  subst hw
  have hc : (Instr.checkKey es.isEmpty 10000 kt (VS k)).run Tryd.prog w = .ok () w := MapKept.run_checkKey (k := .string k) hk (by simp [MapKept.IsKey]) es.isEmpty 9999
  have hf := MapKept.run_findKey (w := w) hk hr
  have hzr : (zeroValue et).run Tryd.prog w = .ok (VI 0) w := by
    unfold zeroC at hz
    cases hi : Tryd.prog.info? et with
    | none => rw [hi] at hz; simp at hz
    | some i =>
      rw [hi] at hz
      simp only [Option.bind_some] at hz
      unfold zeroValue
      rw [run_bind_ok (run_typeInfo' hi w)]
      simp [hz, pure, Sem.run]
  unfold Instr.lookup
  simp only [Sem.run_bind, run_underlying hm, Result.andThen, MapKept.run_getObj_map hb, hc, hf]
  cases r with
  | none =>
    cases hs : findS kvs k with
    | none => simp [hc, hf, Sem.run, pure, hzr, Result.andThen]
    | some x => rw [hs] at hv; simp at hv
  | some p =>
    cases hs : findS kvs k with
    | none => rw [hs] at hv; simp at hv
    | some x =>
      rw [hs] at hv
      simp only [Option.map_some, Option.some.injEq] at hv
      simp [hc, hf, Sem.run, pure, Result.andThen, hv]
theorem uop_mapUpdate {t kt et : TypeId} {h : Heap} {b : Nat} {kvs : List (ByteArray × Int)} {k : ByteArray} {x : Int} (hm : Tryd.prog.underlying t = some (.map kt et)) (hk : Tryd.prog.underlying kt = some .string) (M : MapAt h b kvs) (hn : findS kvs k = none) {K : Value → Heap → Prop} (HK : ∀ v h', MapAt h' b (kvs ++ [(k, x)]) → Fr (In [b]) h h' → K v h') : uop Tryd.prog (Instr.mapUpdate t (.map (some b)) (VS k) (VI x)) h K := by
  have hl := M.lt
  obtain ⟨es, c, hb, e⟩ := M
  obtain ⟨r, hr, hv⟩ := findNow_map (k := k) es.toList kvs 0 e
  rw [hn] at hv
  have hr0 : r = none := by cases r with
    | none => rfl
    | some p => simp at hv
  subst hr0
  refine ⟨fun w hw => ?_⟩
  subst hw
  have hc : (Instr.checkKey false 10000 kt (VS k)).run Tryd.prog w = .ok () w := MapKept.run_checkKey (k := .string k) hk (by simp [MapKept.IsKey]) false 9999
  have hf := MapKept.run_findKey (w := w) hk hr
  refine ⟨{ w with heap := w.heap.setIfInBounds b (.map (es.push { key := VS k, val := VI x, born := c }) (c + 1)) }, ?_, ⟨rfl, rfl, rfl⟩, HK _ _ ⟨es.push { key := VS k, val := VI x, born := c }, c + 1, ?_, ?_⟩ ⟨by simp, fun j hj hne => ?_⟩⟩
  · unfold Instr.mapUpdate
    simp only [Sem.run_bind, run_underlying hm, Result.andThen, MapKept.run_getObj_map hb, hc, hf, MapKept.run_setObj_map _ hb]
  · simp only
    rw [Array.getElem?_setIfInBounds, if_pos rfl, if_pos hl]
  · rw [Array.toList_push, List.map_append, List.map_append, e]
    rfl
  · simp only
    rw [Array.getElem?_setIfInBounds, if_neg (fun hh => hne (by simp [In, hh]))]

def walkL (s : St) : List UInt8 := Lib.decDigits s.2.toNat ++ [58] ++ listL s.1
def keyS (s : St) : ByteArray := ⟨(walkL s).toArray⟩
theorem dec_inj {a b : Int} (a0 : 0 ≤ a) (a1 : a < 10) (b0 : 0 ≤ b) (b1 : b < 10) {x y : List UInt8} (h : Lib.decDigits a.toNat ++ x = Lib.decDigits b.toNat ++ y) : a = b ∧ x = y := by
  rw [Lib.decDigits_one (show a.toNat < 10 by omega), Lib.decDigits_one (show b.toNat < 10 by omega)] at h
  simp only [List.cons_append, List.nil_append, List.cons.injEq] at h
  obtain ⟨h1, h2⟩ := h
  have h3 := congrArg UInt8.toNat h1
  simp only [UInt8.toNat_ofNat'] at h3
  exact ⟨by omega, h2⟩
theorem tail_inj : ∀ (us vs : List Int), us.length = vs.length → (∀ x, x ∈ us → 0 ≤ x ∧ x < 10) → (∀ x, x ∈ vs → 0 ≤ x ∧ x < 10) → Lib.joinTail [44] (us.map fun x => Lib.decDigits x.toNat) = Lib.joinTail [44] (vs.map fun x => Lib.decDigits x.toNat) → us = vs
  | [], [], _, _, _, _ => rfl
  | [], _ :: _, h, _, _, _ => by simp at h
  | _ :: _, [], h, _, _, _ => by simp at h
  | a :: us, b :: vs, hl, ha, hb, h => by
    simp only [Lib.joinTail, List.map_cons, List.flatten_cons, List.append_assoc, List.cons_append, List.nil_append, List.cons.injEq, true_and] at h
    have A := ha a (List.mem_cons_self ..)
    have B := hb b (List.mem_cons_self ..)
    obtain ⟨e1, e2⟩ := dec_inj A.1 A.2 B.1 B.2 h
    rw [e1, tail_inj us vs (by simpa using hl) (fun x hx => ha x (List.mem_cons_of_mem _ hx)) (fun x hx => hb x (List.mem_cons_of_mem _ hx)) e2]
theorem list_inj {us vs : List Int} (hl : us.length = vs.length) (ha : ∀ x, x ∈ us → 0 ≤ x ∧ x < 10) (hb : ∀ x, x ∈ vs → 0 ≤ x ∧ x < 10) (h : listL us = listL vs) : us = vs := by
  match us, vs, hl, ha, hb, h with
  | [], [], _, _, _, _ => rfl
  | [], _ :: _, hl, _, _, _ => simp at hl
  | _ :: _, [], hl, _, _, _ => simp at hl
  | a :: us, b :: vs, hl, ha, hb, h =>
    unfold listL at h
    rw [if_neg (by simp), if_neg (by simp)] at h
    simp only [List.map_cons] at h
    rw [Lib.join_cons, Lib.join_cons] at h
    have A := ha a (List.mem_cons_self ..)
    have B := hb b (List.mem_cons_self ..)
    obtain ⟨e1, e2⟩ := dec_inj A.1 A.2 B.1 B.2 h
    rw [e1, tail_inj us vs (by simpa using hl) (fun x hx => ha x (List.mem_cons_of_mem _ hx)) (fun x hx => hb x (List.mem_cons_of_mem _ hx)) e2]
theorem wok_small {g : List (List Int)} {s : St} (W : WOK g s) : (∀ x, x ∈ s.1 → 0 ≤ x ∧ x < 10) ∧ 0 ≤ s.2 ∧ s.2 < 10 ∧ s.1.length ≤ 8 := by
  have hg := graph_len W.graph
  have hl := W.len
  have h0 := W.lo
  have h1 := W.hi
  refine ⟨fun x hx => ?_, h0, by omega, by omega⟩
  obtain ⟨i, hi, rfl⟩ := List.getElem_of_mem hx
  have := W.rot i hi (by omega)
  have hm := (graph_mem W.graph (List.getElem_mem (show i < g.length by omega))).1
  omega
theorem key_inj {g : List (List Int)} {s t : St} (W : WOK g s) (W' : WOK g t) (h : keyS s = keyS t) : s = t := by
  obtain ⟨a1, a2, a3, _⟩ := wok_small W
  obtain ⟨b1, b2, b3, _⟩ := wok_small W'
  have h : walkL s = walkL t := by
    have := congrArg (fun x => x.data.toList) h
    simpa [keyS] using this
  unfold walkL at h
  rw [List.append_assoc, List.append_assoc] at h
  obtain ⟨e1, e2⟩ := dec_inj a2 a3 b2 b3 h
  simp only [List.cons_append, List.nil_append, List.cons.injEq, true_and] at e2
  exact Prod.ext (list_inj (by rw [W.len, W'.len]) a1 b1 e2) e1
def kvL (hs : List St) : List (ByteArray × Int) := hs.zipIdx.map fun q => (keyS q.1, (q.2 : Int))
theorem kvL_snoc (hs : List St) (s : St) : kvL (hs ++ [s]) = kvL hs ++ [(keyS s, (hs.length : Int))] := by
  unfold kvL
  rw [List.zipIdx_append, List.map_append]
  simp
theorem kv_find {g : List (List Int)} {s : St} (W : WOK g s) : ∀ (hs : List St) (k : Nat), (∀ t, t ∈ hs → WOK g t) → findS ((hs.zipIdx k).map fun q => (keyS q.1, (q.2 : Int))) (keyS s) = (idxL hs s).map fun m => ((m + k : Nat) : Int)
  | [], k, _ => rfl
  | t :: hs, k, h => by
    rw [List.zipIdx_cons, List.map_cons, findS, idxL]
    by_cases e : t = s
    · rw [if_pos (by rw [e]), if_pos e]; simp
    · rw [if_neg fun hh => e (key_inj (h t (List.mem_cons_self ..)) W hh), if_neg e, kv_find W hs (k + 1) fun t ht => h t (List.mem_cons_of_mem _ ht)]
      cases idxL hs s with
      | none => rfl
      | some m => simp only [Option.map_some, Option.some.injEq]; omega
theorem kvL_find {g : List (List Int)} {s : St} (W : WOK g s) (hs : List St) (h : ∀ t, t ∈ hs → WOK g t) : findS (kvL hs) (keyS s) = (idxL hs s).map fun m => ((m : Nat) : Int) := kv_find W hs 0 h

theorem k_walkText {S : Nat → Prop} {h : Heap} {w : Sl} {rs : List Int} {p : Int} (H : RdI S h w rs) (B : ∀ x, x ∈ rs → 0 ≤ x ∧ x < 100) (hn : rs.length ≤ 1000) (p0 : 0 ≤ p) (p1 : p < 100) (K : Value → Heap → Prop) (HK : ∀ h', Fr No h h' → K (VS (keyS (rs, p))) h') : callM Tryd.prog 82 #[.agg #[w.v, VI p]] h K := by
  refine v82 w p h K fun b1 h1 hb1 f1 hL1 => ?_
  have f1 := f1.in_nil
  have d1 := dec_len (show p.toNat < 100 by omega)
  have l1 := listL_len B
  refine k_Itoa p0 p1 _ ⟨_, rfl, hL1, ?_, ?_⟩
  · rw [ba_size]; show _ + 1 ≤ _; omega
  refine k_listText (H.no f1) B hn _ fun h3 f3 => ⟨_, rfl, hL1.of_no f3, ?_, ?_⟩
  · rw [show (⟨#[58]⟩ : ByteArray) = ⟨[58].toArray⟩ from rfl, ba_app, ba_size, ba_size, List.length_append]
    show _ + 1 + _ ≤ _
    omega
  · rw [show (⟨#[58]⟩ : ByteArray) = ⟨[58].toArray⟩ from rfl, ba_app, ba_app]
    exact HK h3 (f1.trans f3)

theorem k_period {S S' : Nat → Prop} {h : Heap} {g w : Sl} {xss : List (List Int)} {rs : List Int} {p : Int} (G : RdR S h g xss) (H : RdI S' h w rs) (W : WOK xss (rs, p)) (K : Value → Heap → Prop) (HK : ∀ h', Fr No h h' → K (.tuple #[VI (perP xss (rs, p)).1, VI (perP xss (rs, p)).2.1, VB (perP xss (rs, p)).2.2]) h') : callM Tryd.prog 66 #[.agg #[g.v], .agg #[w.v, VI p]] h K := by
  have hm : Tryd.prog.underlying 118 = some (.map 9 3) := by kernel_rfl
  have hk : Tryd.prog.underlying 9 = some .string := by kernel_rfl
  have hz : zeroC Tryd.prog 3 = some (VI 0) := by kernel_rfl
  have wl := W.len
  have ws := wok_small W
  have ws4 : rs.length ≤ 8 := ws.2.2.2
  refine v66 g w p h K fun b1 b2 h2 hb1 hb2 f2 hL2 => ?_
  have f2 := f2.in_nil
  have z2 := f2.size
  have l2 : b2 < h2.size := hL2.head.lt
  have l1 : b1 < h2.size := hL2.tail.head.lt
  refine eop_makeMap fun h3 M3 f3 s3 => ⟨_, rfl, hL2.of_no f3, ?_⟩
  have f03 := f2.trans f3
  refine k_copiedW (H.no f03) p (by omega) _ fun u h4 o4 f4 => ⟨u, p, rfl, (hL2.of_no f3).of_no f4, fun b3 h6 hb3 f6 hL6 => ?_⟩
  have f6 := f6.in_nil
  have z4 := f4.size
  have z6 := f6.size
  have l3 : b3 < h6.size := hL6.head.lt
  have f36 := f4.trans f6
  generalize hF : (fun k => Iv h3.size h4.size k ∨ k = b3) = F
  have F1 : ∀ k, F k → h2.size < k := fun k hk => by rw [← hF] at hk; rcases hk with hk | hk; exact Nat.lt_of_lt_of_le s3 hk.1; omega
  have F2 : ∀ k, Iv h3.size h4.size k → F k := fun k hk => by rw [← hF]; exact .inl hk
  have F3 : F b3 := by rw [← hF]; exact .inr rfl
  have o6 : OwI h6 F u rs := (Ow.no o4 f6).mono fun k _ hk => F2 k hk
  have hub : ¬ u.own b3 := fun hk => by have := (o4.foot hk).2; omega
  have no_ : ∀ {x : Heap}, Fr (fun k => h2.size ≤ k) h x → Fr No h x := fun f => f.mono fun k hk hk2 => absurd hk2 (by omega)
  have G0 : RdR (fun k => S k ∧ k < h.size) h g xss := G.lowS
  refine ⟨fun x q h' => perP xss (rs, p) = (0, 0, false) ∧ Fr (fun k => h2.size ≤ k) h h', ⟨fun n i x q h' => ∃ (hs : List St) (s : St), i = (hs.length : Int) ∧ n + hs.length = 2001 ∧ q = s.2 ∧ OwI h' F x s.1 ∧ ¬ x.own b3 ∧ MapAt h' h2.size (kvL hs) ∧ (∀ t, t ∈ hs → WOK xss t) ∧ WOK xss s ∧ perP xss (rs, p) = perL xss n hs.length s hs ∧ Fr (fun k => h2.size ≤ k) h h', ⟨2001, [], (rs, p), rfl, rfl, rfl, o6, hub, M3.fr f36 (fun h => h), fun t ht => (by cases ht), W, rfl, (f03.trans f36).of_no⟩, ?_⟩, ?_⟩
  · rintro n i x q h7 ⟨hs, s, rfl, en, rfl, o7, hx, M7, Wh, Ws, eP, f7⟩ hL7
    have ss := wok_small Ws
    refine ⟨fun e => ?_, fun e => ?_⟩
    · simp only [decide_eq_true_eq] at e
      obtain ⟨n, rfl⟩ : ∃ n', n = n' + 1 := ⟨n - 1, by omega⟩
      rw [perL] at eP
      refine k_walkText (show RdI _ h7 x s.1 from o7.rdF) (fun y hy => by have := ss.1 y hy; omega) (by omega) ss.2.1 (by omega) _ fun h8 f8 => ⟨_, rfl, hL7.of_no f8, ?_⟩
      have M8 := M7.fr f8 (fun h => h)
      refine rop_lookup hm hk hz M8 ⟨_, _, rfl, fun e2 => ?_, fun e2 => ?_⟩
      · rw [kvL_find Ws hs Wh] at e2 ⊢
        cases hi : idxL hs s with
        | none => rw [hi] at e2; cases e2
        | some m =>
          rw [hi] at eP
          simp only at eP
          have hml := (List.getElem?_eq_some_iff.1 (idxL_some hi)).1
          simp only [Option.map_some, Option.getD_some]
          rw [w64_eq _ (by omega) (by omega)]
          have := HK h8 ((no_ f7).trans f8)
          rw [eP] at this
          exact this
      · rw [kvL_find Ws hs Wh] at e2
        cases hi : idxL hs s with
        | some m => rw [hi] at e2; cases e2
        | none =>
          rw [hi] at eP
          simp only at eP
          refine uop_mapUpdate hm hk M8 (by rw [kvL_find Ws hs Wh, hi]; rfl) fun v h9 M9 f9 => ⟨?_, ?_⟩
          · exact (hL7.of_no f8).fr f9 fun q hq hk => by
              simp only [List.mem_cons, List.not_mem_nil, or_false] at hq
              simp only [In, List.mem_cons, List.not_mem_nil, or_false] at hk
              rcases hq with rfl | rfl | rfl <;> simp only at hk <;> omega
          have hL9 : Vars h9 [(b3, [x.v, VI s.2]), (b2, [w.v, VI p]), (b1, [g.v])] := (hL7.of_no f8).fr f9 fun q hq hk => by
              simp only [List.mem_cons, List.not_mem_nil, or_false] at hq
              simp only [In, List.mem_cons, List.not_mem_nil, or_false] at hk
              rcases hq with rfl | rfl | rfl <;> simp only at hk <;> omega
          have f79 : Fr (fun k => h2.size ≤ k) h7 h9 := f8.of_no.trans (f9.mono fun k _ hk => by simp [In] at hk; omega)
          have o9 : OwI h9 F x s.1 := Ow.fr (Ow.no o7 f8) f9 fun k hk hk2 => by have := F1 _ (o7.foot hk).1; simp [In] at hk2; omega
          have f09 := f7.trans f79
          have M9' : MapAt h9 h2.size (kvL (hs ++ [s])) := by rw [kvL_snoc]; exact M9
          have G9 : RdR (fun k => S k ∧ k < h.size) h9 g xss := G0.fr f09 fun k hk hk2 => by omega
          refine k_stepF (s := s) G9 hL9.head o9 (fun k hk hk2 => by have := F1 _ hk2; omega) F3 hx Ws _ (fun hn h10 f10 => ⟨x, s.2, false, rfl, hL9.of_no f10, fun _ => ?_, fun e => by cases e⟩) (fun s' hs' h10 o10 V10 f10 => ⟨x, s'.2, true, rfl, ?_, fun e => (by cases e), fun _ => ?_⟩)
          · rw [hn] at eP
            exact ⟨eP, f09.trans f10.of_no⟩
          · exact .cons V10 (hL9.ne) (hL9.tail.fr f10 fun q hq hk => by
              simp only [List.mem_cons, List.not_mem_nil, or_false] at hq
              have := F1 _ hk
              rcases hq with rfl | rfl <;> simp only at this <;> omega)
          · rw [hs'] at eP
            simp only at eP
            refine ⟨n, by omega, hs ++ [s], s', ?_, by simp; omega, rfl, o10, hx, M9'.fr f10 fun hk => by have := F1 _ hk; omega, fun t ht => ?_, Ws.step hs', by rw [eP]; simp, f09.trans (f10.mono fun k _ hk => by have := F1 _ hk; omega)⟩
            · rw [w64_eq _ (by omega) (by omega)]; simp
            · rcases List.mem_append.1 ht with ht | ht
              · exact Wh t ht
              · simp only [List.mem_cons, List.not_mem_nil, or_false] at ht
                rw [ht]; exact Ws
    · simp only [decide_eq_false_iff_not] at e
      have : n = 0 := by omega
      subst this
      exact ⟨eP, f7⟩
  · rintro x q h11 ⟨eP, f11⟩ hL11
    have := HK h11 (no_ f11)
    rw [eP] at this
    exact this

def w63_1 (P : Program) (h_17 : Heap) (b_3 : Nat) (t42_1 : Sl) (t42_2 : Int) (b_10 : Nat) (t36_1 : Sl) (t36_2 : Int) (b_5 : Nat) (x_5 : Sl) (x_6 : Int) (b_4 : Nat) (x_7 : Sl) (x_8 : Int) (w1_1 : Sl) (w1_2 : Int) (b_2 : Nat) (b_1 : Nat) (g0_1 : Sl) (K : Value → Heap → Prop) : Prop :=
  ∀ (b_11 : Nat) (h_28 : Heap), h_17.size ≤ b_11 → Fr (In [b_3]) h_17 h_28 → Vars h_28 [(b_11, [(Sl.v t42_1), (VI t42_2)]), (b_10, [(Sl.v t36_1), (VI t36_2)]), (b_5, [(Sl.v x_5), (VI x_6)]), (b_4, [(Sl.v x_7), (VI x_8)]), (b_3, [(Sl.v w1_1), (VI w1_2)]), (b_2, [(Sl.v w1_1), (VI w1_2)]), (b_1, [(Sl.v g0_1)])] →
  K (Value.tuple #[(VI 0), (Value.agg #[(Sl.v w1_1), (VI w1_2)]), (VI 0)]) h_28
def w63_3 (P : Program) (start21_1 : Int) (t71_1 : Int) (b_3 : Nat) (h_44 : Heap) (b_14 : Nat) (x_15 : Sl) (x_16 : Int) (b_13 : Nat) (x_17 : Sl) (x_18 : Int) (b_5 : Nat) (x_5 : Sl) (x_6 : Int) (b_4 : Nat) (x_7 : Sl) (x_8 : Int) (w1_1 : Sl) (w1_2 : Int) (b_2 : Nat) (b_1 : Nat) (g0_1 : Sl) (K : Value → Heap → Prop) : Prop :=
  ((decide (2000 < (w64 (start21_1 + t71_1)))) = true →
  ∀ (h_49 : Heap), Fr (In [b_3]) h_44 h_49 → Vars h_49 [(b_14, [(Sl.v x_15), (VI x_16)]), (b_13, [(Sl.v x_17), (VI x_18)]), (b_5, [(Sl.v x_5), (VI x_6)]), (b_4, [(Sl.v x_7), (VI x_8)]), (b_3, [(Sl.v w1_1), (VI w1_2)]), (b_2, [(Sl.v w1_1), (VI w1_2)]), (b_1, [(Sl.v g0_1)])] →
  K (Value.tuple #[(VI 0), (Value.agg #[(Sl.v w1_1), (VI w1_2)]), (VI 0)]) h_49) ∧
  ((decide (2000 < (w64 (start21_1 + t71_1)))) = false →
  ∀ (h_50 : Heap), Fr (In [b_3]) h_44 h_50 → Vars h_50 [(b_14, [(Sl.v x_15), (VI x_16)]), (b_13, [(Sl.v x_17), (VI x_18)]), (b_5, [(Sl.v x_5), (VI x_6)]), (b_4, [(Sl.v x_7), (VI x_8)]), (b_3, [(Sl.v x_17), (VI x_18)]), (b_2, [(Sl.v w1_1), (VI w1_2)]), (b_1, [(Sl.v g0_1)])] →
  K (Value.tuple #[(VI start21_1), (Value.agg #[(Sl.v x_17), (VI x_18)]), (VI t71_1)]) h_50)
def w63_2 (P : Program) (met9_1 : Bool) (g0_1 : Sl) (x_7 : Sl) (x_8 : Int) (h_13 : Heap) (b_5 : Nat) (x_5 : Sl) (x_6 : Int) (b_4 : Nat) (b_3 : Nat) (b_2 : Nat) (w1_1 : Sl) (w1_2 : Int) (b_1 : Nat) (K : Value → Heap → Prop) : Prop :=
  ((!met9_1) = false →
  callM P 102 #[(Value.agg #[(Sl.v g0_1)]), (Value.agg #[(Sl.v x_7), (VI x_8)]), (VI 2000)] h_13 fun rv_5 h_29 => ∃ t71_1 : Int, rv_5 = (VI t71_1) ∧ Vars h_29 [(b_5, [(Sl.v x_5), (VI x_6)]), (b_4, [(Sl.v x_7), (VI x_8)]), (b_3, [(Sl.v nilSl), (VI 0)]), (b_2, [(Sl.v w1_1), (VI w1_2)]), (b_1, [(Sl.v g0_1)])] ∧
  ((decide (t71_1 = 0)) = true →
  ∀ (h_30 : Heap), Fr (In [b_3]) h_29 h_30 → Vars h_30 [(b_5, [(Sl.v x_5), (VI x_6)]), (b_4, [(Sl.v x_7), (VI x_8)]), (b_3, [(Sl.v w1_1), (VI w1_2)]), (b_2, [(Sl.v w1_1), (VI w1_2)]), (b_1, [(Sl.v g0_1)])] →
  K (Value.tuple #[(VI 0), (Value.agg #[(Sl.v w1_1), (VI w1_2)]), (VI 0)]) h_30) ∧
  ((decide (t71_1 = 0)) = false →
  ∃ J_3 : Nat → Sl → Int → Nat → Sl → Int → Heap → Prop, ((∀ (b_15 : Nat) (h_31 : Heap), h_29.size ≤ b_15 → Fr (In []) h_29 h_31 → Vars h_31 [(b_15, [(Sl.v nilSl), (VI 0)]), (b_5, [(Sl.v x_5), (VI x_6)]), (b_4, [(Sl.v x_7), (VI x_8)]), (b_3, [(Sl.v nilSl), (VI 0)]), (b_2, [(Sl.v w1_1), (VI w1_2)]), (b_1, [(Sl.v g0_1)])] →
  ∀ (b_16 : Nat) (h_32 : Heap), h_31.size ≤ b_16 → Fr (In []) h_31 h_32 → Vars h_32 [(b_16, [(Sl.v nilSl), (VI 0)]), (b_15, [(Sl.v nilSl), (VI 0)]), (b_5, [(Sl.v x_5), (VI x_6)]), (b_4, [(Sl.v x_7), (VI x_8)]), (b_3, [(Sl.v nilSl), (VI 0)]), (b_2, [(Sl.v w1_1), (VI w1_2)]), (b_1, [(Sl.v g0_1)])] →
  ∀ (h_33 : Heap), Fr (In [b_15]) h_32 h_33 → Vars h_33 [(b_16, [(Sl.v nilSl), (VI 0)]), (b_15, [(Sl.v w1_1), (VI w1_2)]), (b_5, [(Sl.v x_5), (VI x_6)]), (b_4, [(Sl.v x_7), (VI x_8)]), (b_3, [(Sl.v nilSl), (VI 0)]), (b_2, [(Sl.v w1_1), (VI w1_2)]), (b_1, [(Sl.v g0_1)])] →
  ∀ (h_34 : Heap), Fr (In [b_16]) h_33 h_34 → Vars h_34 [(b_16, [(Sl.v w1_1), (VI w1_2)]), (b_15, [(Sl.v w1_1), (VI w1_2)]), (b_5, [(Sl.v x_5), (VI x_6)]), (b_4, [(Sl.v x_7), (VI x_8)]), (b_3, [(Sl.v nilSl), (VI 0)]), (b_2, [(Sl.v w1_1), (VI w1_2)]), (b_1, [(Sl.v g0_1)])] →
  J_3 b_15 w1_1 w1_2 b_16 w1_1 w1_2 h_34) ∧
  (∀ (b_17 : Nat) (h_35 : Heap), h_29.size ≤ b_17 → Fr (In []) h_29 h_35 → Vars h_35 [(b_17, [(Sl.v nilSl), (VI 0)]), (b_5, [(Sl.v x_5), (VI x_6)]), (b_4, [(Sl.v x_7), (VI x_8)]), (b_3, [(Sl.v nilSl), (VI 0)]), (b_2, [(Sl.v w1_1), (VI w1_2)]), (b_1, [(Sl.v g0_1)])] →
  ∀ (b_18 : Nat) (h_36 : Heap), h_35.size ≤ b_18 → Fr (In []) h_35 h_36 → Vars h_36 [(b_18, [(Sl.v nilSl), (VI 0)]), (b_17, [(Sl.v nilSl), (VI 0)]), (b_5, [(Sl.v x_5), (VI x_6)]), (b_4, [(Sl.v x_7), (VI x_8)]), (b_3, [(Sl.v nilSl), (VI 0)]), (b_2, [(Sl.v w1_1), (VI w1_2)]), (b_1, [(Sl.v g0_1)])] →
  ∀ (h_37 : Heap), Fr (In [b_18]) h_36 h_37 → Vars h_37 [(b_18, [(Sl.v w1_1), (VI w1_2)]), (b_17, [(Sl.v nilSl), (VI 0)]), (b_5, [(Sl.v x_5), (VI x_6)]), (b_4, [(Sl.v x_7), (VI x_8)]), (b_3, [(Sl.v nilSl), (VI 0)]), (b_2, [(Sl.v w1_1), (VI w1_2)]), (b_1, [(Sl.v g0_1)])] →
  ∀ (h_38 : Heap), Fr (In [b_17]) h_37 h_38 → Vars h_38 [(b_18, [(Sl.v w1_1), (VI w1_2)]), (b_17, [(Sl.v w1_1), (VI w1_2)]), (b_5, [(Sl.v x_5), (VI x_6)]), (b_4, [(Sl.v x_7), (VI x_8)]), (b_3, [(Sl.v nilSl), (VI 0)]), (b_2, [(Sl.v w1_1), (VI w1_2)]), (b_1, [(Sl.v g0_1)])] →
  J_3 b_18 w1_1 w1_2 b_17 w1_1 w1_2 h_38)) ∧
  ∀ (b_13 : Nat) (x_9 : Sl) (x_10 : Int) (b_14 : Nat) (x_11 : Sl) (x_12 : Int) (h_39 : Heap), J_3 b_13 x_9 x_10 b_14 x_11 x_12 h_39 → Vars h_39 [(b_14, [(Sl.v x_11), (VI x_12)]), (b_13, [(Sl.v x_9), (VI x_10)]), (b_5, [(Sl.v x_5), (VI x_6)]), (b_4, [(Sl.v x_7), (VI x_8)]), (b_3, [(Sl.v nilSl), (VI 0)]), (b_2, [(Sl.v w1_1), (VI w1_2)]), (b_1, [(Sl.v g0_1)])] →
  ∃ J_4 : Nat → Int → Sl → Int → Heap → Prop, (∃ n0 : Nat, J_4 n0 0 x_11 x_12 h_39) ∧
  ∀ (n_2 : Nat) (n20_1 : Int) (x_13 : Sl) (x_14 : Int) (h_40 : Heap), J_4 n_2 n20_1 x_13 x_14 h_40 → Vars h_40 [(b_14, [(Sl.v x_13), (VI x_14)]), (b_13, [(Sl.v x_9), (VI x_10)]), (b_5, [(Sl.v x_5), (VI x_6)]), (b_4, [(Sl.v x_7), (VI x_8)]), (b_3, [(Sl.v nilSl), (VI 0)]), (b_2, [(Sl.v w1_1), (VI w1_2)]), (b_1, [(Sl.v g0_1)])] →
  ((decide (n20_1 < t71_1)) = true →
  callM P 80 #[(Value.agg #[(Sl.v g0_1)]), (Value.agg #[(Sl.v x_13), (VI x_14)])] h_40 fun rv_6 h_41 => ∃ t85_1 : Sl, ∃ t85_2 : Int, ∃ t85_3 : Bool, rv_6 = (Value.tuple #[(Value.agg #[(Sl.v t85_1), (VI t85_2)]), (VB t85_3)]) ∧ Vars h_41 [(b_14, [(Sl.v x_13), (VI x_14)]), (b_13, [(Sl.v x_9), (VI x_10)]), (b_5, [(Sl.v x_5), (VI x_6)]), (b_4, [(Sl.v x_7), (VI x_8)]), (b_3, [(Sl.v nilSl), (VI 0)]), (b_2, [(Sl.v w1_1), (VI w1_2)]), (b_1, [(Sl.v g0_1)])] ∧
  ∀ (h_42 : Heap), Fr (In [b_14]) h_41 h_42 → Vars h_42 [(b_14, [(Sl.v t85_1), (VI t85_2)]), (b_13, [(Sl.v x_9), (VI x_10)]), (b_5, [(Sl.v x_5), (VI x_6)]), (b_4, [(Sl.v x_7), (VI x_8)]), (b_3, [(Sl.v nilSl), (VI 0)]), (b_2, [(Sl.v w1_1), (VI w1_2)]), (b_1, [(Sl.v g0_1)])] →
  ∃ m : Nat, m < n_2 ∧ J_4 m (w64 (n20_1 + 1)) t85_1 t85_2 h_42) ∧
  ((decide (n20_1 < t71_1)) = false →
  ∃ J_5 : Nat → Int → Sl → Int → Sl → Int → Heap → Prop, (∃ n0 : Nat, J_5 n0 0 x_13 x_14 x_9 x_10 h_40) ∧
  ∀ (n_3 : Nat) (start21_1 : Int) (x_15 : Sl) (x_16 : Int) (x_17 : Sl) (x_18 : Int) (h_43 : Heap), J_5 n_3 start21_1 x_15 x_16 x_17 x_18 h_43 → Vars h_43 [(b_14, [(Sl.v x_15), (VI x_16)]), (b_13, [(Sl.v x_17), (VI x_18)]), (b_5, [(Sl.v x_5), (VI x_6)]), (b_4, [(Sl.v x_7), (VI x_8)]), (b_3, [(Sl.v nilSl), (VI 0)]), (b_2, [(Sl.v w1_1), (VI w1_2)]), (b_1, [(Sl.v g0_1)])] →
  callM P 101 #[(Value.agg #[(Sl.v x_17), (VI x_18)]), (Value.agg #[(Sl.v x_15), (VI x_16)])] h_43 fun rv_7 h_44 => ∃ t90_1 : Bool, rv_7 = (VB t90_1) ∧ Vars h_44 [(b_14, [(Sl.v x_15), (VI x_16)]), (b_13, [(Sl.v x_17), (VI x_18)]), (b_5, [(Sl.v x_5), (VI x_6)]), (b_4, [(Sl.v x_7), (VI x_8)]), (b_3, [(Sl.v nilSl), (VI 0)]), (b_2, [(Sl.v w1_1), (VI w1_2)]), (b_1, [(Sl.v g0_1)])] ∧
  ((!t90_1) = true →
  ((decide (start21_1 ≤ 2000)) = true →
  callM P 80 #[(Value.agg #[(Sl.v g0_1)]), (Value.agg #[(Sl.v x_17), (VI x_18)])] h_44 fun rv_8 h_45 => ∃ t99_1 : Sl, ∃ t99_2 : Int, ∃ t99_3 : Bool, rv_8 = (Value.tuple #[(Value.agg #[(Sl.v t99_1), (VI t99_2)]), (VB t99_3)]) ∧ Vars h_45 [(b_14, [(Sl.v x_15), (VI x_16)]), (b_13, [(Sl.v x_17), (VI x_18)]), (b_5, [(Sl.v x_5), (VI x_6)]), (b_4, [(Sl.v x_7), (VI x_8)]), (b_3, [(Sl.v nilSl), (VI 0)]), (b_2, [(Sl.v w1_1), (VI w1_2)]), (b_1, [(Sl.v g0_1)])] ∧
  ∀ (h_46 : Heap), Fr (In [b_13]) h_45 h_46 → Vars h_46 [(b_14, [(Sl.v x_15), (VI x_16)]), (b_13, [(Sl.v t99_1), (VI t99_2)]), (b_5, [(Sl.v x_5), (VI x_6)]), (b_4, [(Sl.v x_7), (VI x_8)]), (b_3, [(Sl.v nilSl), (VI 0)]), (b_2, [(Sl.v w1_1), (VI w1_2)]), (b_1, [(Sl.v g0_1)])] →
  callM P 80 #[(Value.agg #[(Sl.v g0_1)]), (Value.agg #[(Sl.v x_15), (VI x_16)])] h_46 fun rv_9 h_47 => ∃ t105_1 : Sl, ∃ t105_2 : Int, ∃ t105_3 : Bool, rv_9 = (Value.tuple #[(Value.agg #[(Sl.v t105_1), (VI t105_2)]), (VB t105_3)]) ∧ Vars h_47 [(b_14, [(Sl.v x_15), (VI x_16)]), (b_13, [(Sl.v t99_1), (VI t99_2)]), (b_5, [(Sl.v x_5), (VI x_6)]), (b_4, [(Sl.v x_7), (VI x_8)]), (b_3, [(Sl.v nilSl), (VI 0)]), (b_2, [(Sl.v w1_1), (VI w1_2)]), (b_1, [(Sl.v g0_1)])] ∧
  ∀ (h_48 : Heap), Fr (In [b_14]) h_47 h_48 → Vars h_48 [(b_14, [(Sl.v t105_1), (VI t105_2)]), (b_13, [(Sl.v t99_1), (VI t99_2)]), (b_5, [(Sl.v x_5), (VI x_6)]), (b_4, [(Sl.v x_7), (VI x_8)]), (b_3, [(Sl.v nilSl), (VI 0)]), (b_2, [(Sl.v w1_1), (VI w1_2)]), (b_1, [(Sl.v g0_1)])] →
  ∃ m : Nat, m < n_3 ∧ J_5 m (w64 (start21_1 + 1)) t105_1 t105_2 t99_1 t99_2 h_48) ∧
  ((decide (start21_1 ≤ 2000)) = false →
  w63_3 P start21_1 t71_1 b_3 h_44 b_14 x_15 x_16 b_13 x_17 x_18 b_5 x_5 x_6 b_4 x_7 x_8 w1_1 w1_2 b_2 b_1 g0_1 K)) ∧
  ((!t90_1) = false →
  w63_3 P start21_1 t71_1 b_3 h_44 b_14 x_15 x_16 b_13 x_17 x_18 b_5 x_5 x_6 b_4 x_7 x_8 w1_1 w1_2 b_2 b_1 g0_1 K))))
def w63 (P : Program) (g0_1 : Sl) (w1_1 : Sl) (w1_2 : Int) (h : Heap) (K : Value → Heap → Prop) : Prop :=
  ∀ (b_1 : Nat) (b_2 : Nat) (b_3 : Nat) (h_3 : Heap), h.size ≤ b_1 → h.size ≤ b_2 → h.size ≤ b_3 → Fr (In []) h h_3 → Vars h_3 [(b_3, [(Sl.v nilSl), (VI 0)]), (b_2, [(Sl.v w1_1), (VI w1_2)]), (b_1, [(Sl.v g0_1)])] →
  ∃ J_1 : Nat → Sl → Int → Nat → Sl → Int → Heap → Prop, ((∀ (b_6 : Nat) (h_4 : Heap), h_3.size ≤ b_6 → Fr (In []) h_3 h_4 → Vars h_4 [(b_6, [(Sl.v nilSl), (VI 0)]), (b_3, [(Sl.v nilSl), (VI 0)]), (b_2, [(Sl.v w1_1), (VI w1_2)]), (b_1, [(Sl.v g0_1)])] →
  ∀ (b_7 : Nat) (h_5 : Heap), h_4.size ≤ b_7 → Fr (In []) h_4 h_5 → Vars h_5 [(b_7, [(Sl.v nilSl), (VI 0)]), (b_6, [(Sl.v nilSl), (VI 0)]), (b_3, [(Sl.v nilSl), (VI 0)]), (b_2, [(Sl.v w1_1), (VI w1_2)]), (b_1, [(Sl.v g0_1)])] →
  ∀ (h_6 : Heap), Fr (In [b_6]) h_5 h_6 → Vars h_6 [(b_7, [(Sl.v nilSl), (VI 0)]), (b_6, [(Sl.v w1_1), (VI w1_2)]), (b_3, [(Sl.v nilSl), (VI 0)]), (b_2, [(Sl.v w1_1), (VI w1_2)]), (b_1, [(Sl.v g0_1)])] →
  ∀ (h_7 : Heap), Fr (In [b_7]) h_6 h_7 → Vars h_7 [(b_7, [(Sl.v w1_1), (VI w1_2)]), (b_6, [(Sl.v w1_1), (VI w1_2)]), (b_3, [(Sl.v nilSl), (VI 0)]), (b_2, [(Sl.v w1_1), (VI w1_2)]), (b_1, [(Sl.v g0_1)])] →
  J_1 b_6 w1_1 w1_2 b_7 w1_1 w1_2 h_7) ∧
  (∀ (b_8 : Nat) (h_8 : Heap), h_3.size ≤ b_8 → Fr (In []) h_3 h_8 → Vars h_8 [(b_8, [(Sl.v nilSl), (VI 0)]), (b_3, [(Sl.v nilSl), (VI 0)]), (b_2, [(Sl.v w1_1), (VI w1_2)]), (b_1, [(Sl.v g0_1)])] →
  ∀ (b_9 : Nat) (h_9 : Heap), h_8.size ≤ b_9 → Fr (In []) h_8 h_9 → Vars h_9 [(b_9, [(Sl.v nilSl), (VI 0)]), (b_8, [(Sl.v nilSl), (VI 0)]), (b_3, [(Sl.v nilSl), (VI 0)]), (b_2, [(Sl.v w1_1), (VI w1_2)]), (b_1, [(Sl.v g0_1)])] →
  ∀ (h_10 : Heap), Fr (In [b_9]) h_9 h_10 → Vars h_10 [(b_9, [(Sl.v w1_1), (VI w1_2)]), (b_8, [(Sl.v nilSl), (VI 0)]), (b_3, [(Sl.v nilSl), (VI 0)]), (b_2, [(Sl.v w1_1), (VI w1_2)]), (b_1, [(Sl.v g0_1)])] →
  ∀ (h_11 : Heap), Fr (In [b_8]) h_10 h_11 → Vars h_11 [(b_9, [(Sl.v w1_1), (VI w1_2)]), (b_8, [(Sl.v w1_1), (VI w1_2)]), (b_3, [(Sl.v nilSl), (VI 0)]), (b_2, [(Sl.v w1_1), (VI w1_2)]), (b_1, [(Sl.v g0_1)])] →
  J_1 b_9 w1_1 w1_2 b_8 w1_1 w1_2 h_11)) ∧
  ∀ (b_4 : Nat) (x_1 : Sl) (x_2 : Int) (b_5 : Nat) (x_3 : Sl) (x_4 : Int) (h_12 : Heap), J_1 b_4 x_1 x_2 b_5 x_3 x_4 h_12 → Vars h_12 [(b_5, [(Sl.v x_3), (VI x_4)]), (b_4, [(Sl.v x_1), (VI x_2)]), (b_3, [(Sl.v nilSl), (VI 0)]), (b_2, [(Sl.v w1_1), (VI w1_2)]), (b_1, [(Sl.v g0_1)])] →
  ∃ J_2 : Nat → Bool → Int → Sl → Int → Sl → Int → Heap → Prop, (∃ n0 : Nat, J_2 n0 false 1 x_3 x_4 x_1 x_2 h_12) ∧
  ∀ (n_1 : Nat) (met9_1 : Bool) (n10_1 : Int) (x_5 : Sl) (x_6 : Int) (x_7 : Sl) (x_8 : Int) (h_13 : Heap), J_2 n_1 met9_1 n10_1 x_5 x_6 x_7 x_8 h_13 → Vars h_13 [(b_5, [(Sl.v x_5), (VI x_6)]), (b_4, [(Sl.v x_7), (VI x_8)]), (b_3, [(Sl.v nilSl), (VI 0)]), (b_2, [(Sl.v w1_1), (VI w1_2)]), (b_1, [(Sl.v g0_1)])] →
  ((decide ((w64 (2 * n10_1)) ≤ 4000)) = true →
  ((!met9_1) = true →
  callM P 80 #[(Value.agg #[(Sl.v g0_1)]), (Value.agg #[(Sl.v x_7), (VI x_8)])] h_13 fun rv_1 h_14 => ∃ t36_1 : Sl, ∃ t36_2 : Int, ∃ t36_3 : Bool, rv_1 = (Value.tuple #[(Value.agg #[(Sl.v t36_1), (VI t36_2)]), (VB t36_3)]) ∧ Vars h_14 [(b_5, [(Sl.v x_5), (VI x_6)]), (b_4, [(Sl.v x_7), (VI x_8)]), (b_3, [(Sl.v nilSl), (VI 0)]), (b_2, [(Sl.v w1_1), (VI w1_2)]), (b_1, [(Sl.v g0_1)])] ∧
  ∀ (b_10 : Nat) (h_16 : Heap), h_14.size ≤ b_10 → Fr (In []) h_14 h_16 → Vars h_16 [(b_10, [(Sl.v t36_1), (VI t36_2)]), (b_5, [(Sl.v x_5), (VI x_6)]), (b_4, [(Sl.v x_7), (VI x_8)]), (b_3, [(Sl.v nilSl), (VI 0)]), (b_2, [(Sl.v w1_1), (VI w1_2)]), (b_1, [(Sl.v g0_1)])] →
  callM P 80 #[(Value.agg #[(Sl.v g0_1)]), (Value.agg #[(Sl.v x_5), (VI x_6)])] h_16 fun rv_2 h_17 => ∃ t42_1 : Sl, ∃ t42_2 : Int, ∃ t42_3 : Bool, rv_2 = (Value.tuple #[(Value.agg #[(Sl.v t42_1), (VI t42_2)]), (VB t42_3)]) ∧ Vars h_17 [(b_10, [(Sl.v t36_1), (VI t36_2)]), (b_5, [(Sl.v x_5), (VI x_6)]), (b_4, [(Sl.v x_7), (VI x_8)]), (b_3, [(Sl.v nilSl), (VI 0)]), (b_2, [(Sl.v w1_1), (VI w1_2)]), (b_1, [(Sl.v g0_1)])] ∧
  ((!t36_3) = true →
  w63_1 P h_17 b_3 t42_1 t42_2 b_10 t36_1 t36_2 b_5 x_5 x_6 b_4 x_7 x_8 w1_1 w1_2 b_2 b_1 g0_1 K) ∧
  ((!t36_3) = false →
  ((!t42_3) = true →
  w63_1 P h_17 b_3 t42_1 t42_2 b_10 t36_1 t36_2 b_5 x_5 x_6 b_4 x_7 x_8 w1_1 w1_2 b_2 b_1 g0_1 K) ∧
  ((!t42_3) = false →
  ∀ (b_11 : Nat) (h_19 : Heap), h_17.size ≤ b_11 → Fr (In []) h_17 h_19 → Vars h_19 [(b_11, [(Sl.v t42_1), (VI t42_2)]), (b_10, [(Sl.v t36_1), (VI t36_2)]), (b_5, [(Sl.v x_5), (VI x_6)]), (b_4, [(Sl.v x_7), (VI x_8)]), (b_3, [(Sl.v nilSl), (VI 0)]), (b_2, [(Sl.v w1_1), (VI w1_2)]), (b_1, [(Sl.v g0_1)])] →
  callM P 80 #[(Value.agg #[(Sl.v g0_1)]), (Value.agg #[(Sl.v t42_1), (VI t42_2)])] h_19 fun rv_3 h_21 => ∃ t55_1 : Sl, ∃ t55_2 : Int, ∃ t55_3 : Bool, rv_3 = (Value.tuple #[(Value.agg #[(Sl.v t55_1), (VI t55_2)]), (VB t55_3)]) ∧ Vars h_21 [(b_11, [(Sl.v t42_1), (VI t42_2)]), (b_10, [(Sl.v t36_1), (VI t36_2)]), (b_5, [(Sl.v x_5), (VI x_6)]), (b_4, [(Sl.v x_7), (VI x_8)]), (b_3, [(Sl.v nilSl), (VI 0)]), (b_2, [(Sl.v w1_1), (VI w1_2)]), (b_1, [(Sl.v g0_1)])] ∧
  ((!t55_3) = true →
  ∀ (b_12 : Nat) (h_24 : Heap), h_21.size ≤ b_12 → Fr (In [b_3]) h_21 h_24 → Vars h_24 [(b_12, [(Sl.v t55_1), (VI t55_2)]), (b_11, [(Sl.v t42_1), (VI t42_2)]), (b_10, [(Sl.v t36_1), (VI t36_2)]), (b_5, [(Sl.v x_5), (VI x_6)]), (b_4, [(Sl.v x_7), (VI x_8)]), (b_3, [(Sl.v w1_1), (VI w1_2)]), (b_2, [(Sl.v w1_1), (VI w1_2)]), (b_1, [(Sl.v g0_1)])] →
  K (Value.tuple #[(VI 0), (Value.agg #[(Sl.v w1_1), (VI w1_2)]), (VI 0)]) h_24) ∧
  ((!t55_3) = false →
  ∀ (b_12 : Nat) (h_26 : Heap), h_21.size ≤ b_12 → Fr (In [b_5, b_4]) h_21 h_26 → Vars h_26 [(b_12, [(Sl.v t55_1), (VI t55_2)]), (b_11, [(Sl.v t42_1), (VI t42_2)]), (b_10, [(Sl.v t36_1), (VI t36_2)]), (b_5, [(Sl.v t55_1), (VI t55_2)]), (b_4, [(Sl.v t36_1), (VI t36_2)]), (b_3, [(Sl.v nilSl), (VI 0)]), (b_2, [(Sl.v w1_1), (VI w1_2)]), (b_1, [(Sl.v g0_1)])] →
  callM P 101 #[(Value.agg #[(Sl.v t36_1), (VI t36_2)]), (Value.agg #[(Sl.v t55_1), (VI t55_2)])] h_26 fun rv_4 h_27 => ∃ t65_1 : Bool, rv_4 = (VB t65_1) ∧ Vars h_27 [(b_12, [(Sl.v t55_1), (VI t55_2)]), (b_11, [(Sl.v t42_1), (VI t42_2)]), (b_10, [(Sl.v t36_1), (VI t36_2)]), (b_5, [(Sl.v t55_1), (VI t55_2)]), (b_4, [(Sl.v t36_1), (VI t36_2)]), (b_3, [(Sl.v nilSl), (VI 0)]), (b_2, [(Sl.v w1_1), (VI w1_2)]), (b_1, [(Sl.v g0_1)])] ∧
  ∃ m : Nat, m < n_1 ∧ J_2 m t65_1 (w64 (n10_1 + 1)) t55_1 t55_2 t36_1 t36_2 h_27)))) ∧
  w63_2 P met9_1 g0_1 x_7 x_8 h_13 b_5 x_5 x_6 b_4 b_3 b_2 w1_1 w1_2 b_1 K) ∧
  ((decide ((w64 (2 * n10_1)) ≤ 4000)) = false →
  ((!met9_1) = true →
  ∀ (h_53 : Heap), Fr (In [b_3]) h_13 h_53 → Vars h_53 [(b_5, [(Sl.v x_5), (VI x_6)]), (b_4, [(Sl.v x_7), (VI x_8)]), (b_3, [(Sl.v w1_1), (VI w1_2)]), (b_2, [(Sl.v w1_1), (VI w1_2)]), (b_1, [(Sl.v g0_1)])] →
  K (Value.tuple #[(VI 0), (Value.agg #[(Sl.v w1_1), (VI w1_2)]), (VI 0)]) h_53) ∧
  w63_2 P met9_1 g0_1 x_7 x_8 h_13 b_5 x_5 x_6 b_4 b_3 b_2 w1_1 w1_2 b_1 K)
theorem x63 (g0_1 : Sl) (w1_1 : Sl) (w1_2 : Int) (h : Heap) (K : Value → Heap → Prop) (H : w63 Tryd.prog g0_1 w1_1 w1_2 h K) : callM Tryd.prog 63 #[(Value.agg #[(Sl.v g0_1)]), (Value.agg #[(Sl.v w1_1), (VI w1_2)])] h K := v63 g0_1 w1_1 w1_2 h K H

theorem k_waStep2 {S S' : Nat → Prop} {h : Heap} {g w : Sl} {xss : List (List Int)} {s : St} (G : RdR S h g xss) (H : RdI S' h w s.1) (W : WOK xss s) {p : Int} (hp : p = s.2) (K : Value → Heap → Prop) (HK : ∀ (t : Sl) h', RdI (fun k => S' k ∨ h.size ≤ k) h' t ((stepP xss s).getD s).1 → Fr No h h' → K (.tuple #[.agg #[t.v, VI ((stepP xss s).getD s).2], VB (stepP xss s).isSome]) h') : callM Tryd.prog 80 #[.agg #[g.v], .agg #[w.v, VI p]] h K := by
  subst hp
  refine k_waStep G H W _ (fun hn h' f => ?_) (fun s' hs t h' o f => ?_)
  · have := HK w h' (by rw [hn]; exact (H.no f).mono fun k hk => .inl hk) f
    rw [hn] at this
    exact this
  · have := HK t h' (by rw [hs]; exact RdV.mono o.rdF fun k hk => .inr hk.1) f
    rw [hs] at this
    exact this
theorem sq_wok_ {g : List (List Int)} {s : St} (W : WOK g s) : ∀ {n : Nat} {t : St}, sq g s n = some t → WOK g t
  | 0, t, h => by rw [sq] at h; cases h; exact W
  | n + 1, t, h => by
    rw [sq] at h
    cases hn : sq g s n with
    | none => rw [hn] at h; cases h
    | some u => rw [hn] at h; exact (sq_wok_ W hn).step h
theorem wok_step2 {g : List (List Int)} {s : St} (W : WOK g s) : WOK g ((stepP g s).getD s) := by
  cases h : stepP g s with
  | none => exact W
  | some t => exact W.step h
/-- What 'waAgain' returns: the least number of steps behind which a walk comes again, or 0. -/
theorem again_sq {g : List (List Int)} {s0 : St} : ∀ (f n : Nat) (s : St), f + n = 2001 → sq g s0 n = some s → (∀ j, 1 ≤ j → j < n → sq g s0 j ≠ some s0) → ((firstGo g (sameT s0.1 s0.2) 1 f (n : Int) () s).1 = 0 ∧ ∀ j, 1 ≤ j → j ≤ 2000 → sq g s0 j ≠ some s0) ∨ ∃ a : Nat, (firstGo g (sameT s0.1 s0.2) 1 f (n : Int) () s).1 = (a : Int) ∧ 1 ≤ a ∧ a ≤ 2000 ∧ sq g s0 a = some s0 ∧ ∀ j, 1 ≤ j → j < a → sq g s0 j ≠ some s0
  | 0, n, s, hn, hs, hj => .inl ⟨rfl, fun j h1 h2 => hj j h1 (by omega)⟩
  | f + 1, n, s, hn, hs, hj => by
    rw [firstGo]
    have stop : stepP g s = none → (1 ≤ n → s ≠ s0) → ∀ j, 1 ≤ j → j ≤ 2000 → sq g s0 j ≠ some s0 := fun he hne j h1 h2 hc => by
      by_cases h3 : j < n
      · exact hj j h1 h3 hc
      · by_cases h4 : j = n
        · rw [h4, hs] at hc
          exact hne (by omega) (Option.some.inj hc)
        · have : sq g s0 (n + 1) = none := by rw [sq, hs]; exact he
          have := sq_none this (j - (n + 1))
          rw [show n + 1 + (j - (n + 1)) = j by omega] at this
          rw [this] at hc; cases hc
    have next : ∀ s', stepP g s = some s' → (1 ≤ n → s ≠ s0) → (∀ j, 1 ≤ j → j < n + 1 → sq g s0 j ≠ some s0) := fun s' he hne j h1 h2 => by
      by_cases h3 : j < n
      · exact hj j h1 h3
      · have : j = n := by omega
        subst this
        rw [hs]
        exact fun hc => hne (by omega) (Option.some.inj hc)
    by_cases h1 : (1 : Int) ≤ (n : Int)
    · rw [if_pos h1]
      by_cases h2 : (sameT s0.1 s0.2 () s).1 = true
      · rw [if_pos h2]
        have e : s = s0 := by
          simp only [sameT, decide_eq_true_eq] at h2
          exact Prod.ext h2.2.symm h2.1.symm
        exact .inr ⟨n, rfl, by omega, by omega, by rw [hs, e], hj⟩
      · rw [if_neg h2]
        have hne : s ≠ s0 := fun e => h2 (by simp [sameT, e])
        cases he : stepP g s with
        | none => exact .inl ⟨rfl, stop he fun _ => hne⟩
        | some s' =>
          have := again_sq f (n + 1) s' (by omega) (by rw [sq, hs]; exact he) (next s' he fun _ => hne)
          simpa using this
    · rw [if_neg h1]
      cases he : stepP g s with
      | none => exact .inl ⟨rfl, stop he fun h => absurd h (by omega)⟩
      | some s' =>
        have := again_sq f (n + 1) s' (by omega) (by rw [sq, hs]; exact he) (next s' he fun h => absurd h (by omega))
        simpa using this
/-- It is the period, on a walk of the part that comes again. -/
theorem again_rho {g : List (List Int)} {s0 s : St} {m n a : Nat} (R : Rho g s0 m n) (ha : m ≤ a) (hs : sq g s0 a = some s) : ((firstGo g (sameT s.1 s.2) 1 2001 0 () s).1 = 0 ∧ 2000 < n - m) ∨ ((firstGo g (sameT s.1 s.2) 1 2001 0 () s).1 = ((n - m : Nat) : Int) ∧ n - m ≤ 2000) := by
  have hlt := R.lt
  have key : ∀ j, sq g s j = sq g s0 (a + j) := fun j => by rw [sq_add, hs]; rfl
  have iff_ : ∀ j, 1 ≤ j → (sq g s j = some s ↔ j % (n - m) = 0) := fun j hj => by
    rw [key, ← hs]
    have := R.iff (a := a) (b := a + j) (by omega)
    rw [show a + j - a = j by omega] at this
    constructor
    · intro h; exact (this.1 h.symm).2
    · intro h; exact (this.2 ⟨ha, h⟩).symm
  rcases again_sq (g := g) (s0 := s) 2001 0 s rfl rfl (fun j h1 h2 => by omega) with ⟨h1, h2⟩ | ⟨b, h1, h2, h3, h4, h5⟩
  · refine .inl ⟨h1, ?_⟩
    by_cases hc : n - m ≤ 2000
    · exact absurd ((iff_ (n - m) (by omega)).2 (Nat.mod_self _)) (h2 (n - m) (by omega) hc)
    · omega
  · have hb := (iff_ b h2).1 h4
    have hle : n - m ≤ b := by
      by_cases hc : n - m ≤ b
      · exact hc
      · rw [Nat.mod_eq_of_lt (by omega)] at hb; omega
    have heq : n - m = b := by
      by_cases hc : n - m < b
      · exact absurd ((iff_ (n - m) (by omega)).2 (Nat.mod_self _)) (h5 (n - m) (by omega) hc)
      · omega
    exact .inr ⟨h1.trans (by rw [heq]), by omega⟩
theorem wp_tail3 {S' : Nat → Prop} {h : Heap} {g w : Sl} {xss : List (List Int)} {rs : List Int} {p : Int} {m n : Nat} (R : Rho xss (rs, p) m n) {K : Value → Heap → Prop} (HN : (∀ m k, Rho xss (rs, p) m k → 2000 < k) → ∀ h', Fr No h h' → K (.tuple #[VI 0, .agg #[w.v, VI p], VI 0]) h') (HS : ∀ m k s, Rho xss (rs, p) m k → k ≤ 2000 → sq xss (rs, p) m = some s → ∀ t h', RdI (fun k => S' k ∨ h.size ≤ k) h' t s.1 → Fr No h h' → K (.tuple #[VI m, .agg #[t.v, VI s.2], VI ((k : Int) - m)]) h') {b1 b2 b3 b4 b5 b13 b14 : Nat} (hb3 : h.size ≤ b3) {X : Heap} (fX : Fr (fun k => h.size ≤ k) h X) {x5 x7 x15 x17 : Sl} {x6 x8 x16 : Int} {i : Nat} {s : St} (hs : sq xss (rs, p) i = some s) (hi : i = m ∨ i = 2001 ∧ 2000 < n) (Q : RdI (fun k => (S' k ∧ k < h.size) ∨ (h.size ≤ k ∧ k ≠ b3)) X x17 s.1) (hi2 : i ≤ 2001) (hper : n - m ≤ 2000) : w63_3 Tryd.prog (i : Int) ((n - m : Nat) : Int) b3 X b14 x15 x16 b13 x17 s.2 b5 x5 x6 b4 x7 x8 w p b2 b1 g K := by
  have hlt := R.lt
  unfold w63_3
  rw [w64_eq _ (by omega) (by omega)]
  have no_ : ∀ {Y : Heap}, Fr (In [b3]) X Y → Fr No h Y := fun f => (fX.trans (f.mono fun k _ hk => by simp [In] at hk; omega)).mono fun k hk hk2 => absurd hk2 (by omega)
  refine ⟨fun e Y fY hL => ?_, fun e Y fY hL => ?_⟩
  · simp only [decide_eq_true_eq] at e
    refine HN (fun m' k' R' => ?_) Y (no_ fY)
    obtain ⟨rfl, rfl⟩ := R.uniq R'
    rcases hi with rfl | ⟨_, h2⟩
    · omega
    · exact h2
  · simp only [decide_eq_false_iff_not] at e
    rcases hi with rfl | ⟨rfl, h2⟩
    · have := HS i n s R (by omega) hs x17 Y ((Q.fr fY fun k hk hk2 => by simp [In] at hk2; rcases hk with hk | hk <;> omega).mono fun k hk => by rcases hk with hk | hk; exact .inl hk.1; exact .inr hk.1) (no_ fY)
      rw [show ((n - i : Nat) : Int) = (n : Int) - i by omega]
      exact this
    · omega
set_option maxHeartbeats 4000000 in
theorem wp_tail2 {S S' : Nat → Prop} {h : Heap} {g w : Sl} {xss : List (List Int)} {rs : List Int} {p : Int} (G : RdR S h g xss) (H : RdI S' h w rs) (W : WOK xss (rs, p)) {K : Value → Heap → Prop} (HN : (∀ m k, Rho xss (rs, p) m k → 2000 < k) → ∀ h', Fr No h h' → K (.tuple #[VI 0, .agg #[w.v, VI p], VI 0]) h') (HS : ∀ m k s, Rho xss (rs, p) m k → k ≤ 2000 → sq xss (rs, p) m = some s → ∀ t h', RdI (fun k => S' k ∨ h.size ≤ k) h' t s.1 → Fr No h h' → K (.tuple #[VI m, .agg #[t.v, VI s.2], VI ((k : Int) - m)]) h') {b1 b2 b3 b4 b5 : Nat} (hb : h.size ≤ b1 ∧ h.size ≤ b2 ∧ h.size ≤ b3 ∧ h.size ≤ b4 ∧ h.size ≤ b5) {X : Heap} (fX : Fr (fun k => h.size ≤ k) h X) {T : Nat → Prop} {x5 x7 : Sl} {x6 : Int} {a : Nat} {s : St} (met : Bool) (hs : sq xss (rs, p) a = some s) (Q : RdI T X x7 s.1) (hmet : met = true → 1 ≤ a ∧ sq xss (rs, p) a = sq xss (rs, p) (2 * a)) (hL : Vars X [(b5, [x5.v, VI x6]), (b4, [x7.v, VI s.2]), (b3, [nilSl.v, VI 0]), (b2, [w.v, VI p]), (b1, [g.v])]) : w63_2 Tryd.prog met g x7 s.2 X b5 x5 x6 b4 b3 b2 w p b1 K := by
  unfold w63_2
  obtain ⟨hb1, hb2, hb3, hb4, hb5⟩ := hb
  have zX := fX.size
  have wl := W.len
  have G0 : RdR (fun k => S k ∧ k < h.size) h g xss := G.lowS
  have H0 : RdI (fun k => S' k ∧ k < h.size) h w rs := RdV.lt H
  intro e
  have hm := hmet (by simpa using e)
  obtain ⟨m, n, hn, R⟩ := rho_of (g := xss) (s := (rs, p)) (2 * a) (a := a) (by omega) hm.2 (by rw [hs]; exact fun h => by cases h)
  have hlt := R.lt
  have hma : m ≤ a := ((R.iff (a := a) (b := 2 * a) (by omega)).1 hm.2).1
  have Ws : WOK xss s := sq_wok_ W hs
  have GX : RdR (fun k => S k ∧ k < h.size) X g xss := G0.fr fX fun k hk hk2 => by omega
  have nofin : ∀ {Y : Heap}, Fr (fun k => h.size ≤ k) h Y → Fr No h Y := fun f => f.mono fun k hk hk2 => absurd hk2 (by omega)
  have up : ∀ {Y Z : Heap} {l : List Nat}, (∀ k, k ∈ l → h.size ≤ k) → Fr (In l) Y Z → Fr (fun k => h.size ≤ k) Y Z := fun hl f => f.mono fun k _ hk => hl k hk
  have all := R.all
  refine k_waAgain GX (show RdI T X x7 (s.1, s.2).1 from Q) s.2 Ws _ fun h29 f29 => ⟨_, rfl, hL.of_no f29, fun e1 h30 f30 hL30 => ?_, fun e1 => ?_⟩
  · have f029 := fX.trans f29.of_no
    refine HN (fun m' k' R' => ?_) h30 (nofin (f029.trans (f30.mono fun k _ hk => by simp [In] at hk; omega)))
    obtain ⟨rfl, rfl⟩ := R.uniq R'
    simp only [decide_eq_true_eq] at e1
    rcases again_rho R hma hs with ⟨_, h2⟩ | ⟨h1, h2⟩
    · omega
    · rw [show ((s.1, s.2) : St) = s from rfl] at e1; rw [h1] at e1; omega
  simp only [decide_eq_false_iff_not] at e1
  have hper : (firstGo xss (sameT s.1 s.2) 1 2001 0 () (s.1, s.2)).1 = ((n - m : Nat) : Int) ∧ n - m ≤ 2000 := by
    rcases again_rho R hma hs with ⟨h1, h2⟩ | h
    · exact absurd h1 e1
    · exact h
  rw [hper.1]
  have hper := hper.2
  have f029 := fX.trans f29.of_no
  have z29 := f029.size
  have hL29 := hL.of_no f29
  refine ⟨fun b13 x9 x10 b14 x11 x12 h' => x9 = w ∧ x10 = p ∧ x11 = w ∧ x12 = p ∧ h29.size ≤ b13 ∧ h29.size ≤ b14 ∧ Fr (fun k => h.size ≤ k) h h', ⟨fun b15 h31 hb15 f31 hL31 b16 h32 hb16 f32 hL32 h33 f33 hL33 h34 f34 hL34 => ?_, fun b17 h35 hb17 f35 hL35 b18 h36 hb18 f36 hL36 h37 f37 hL37 h38 f38 hL38 => ?_⟩, ?_⟩
  · have := f31.size
    exact ⟨rfl, rfl, rfl, rfl, hb15, by omega, (((f029.trans f31.in_nil.of_no).trans f32.in_nil.of_no).trans (f33.mono fun k _ hk => by simp [In] at hk; omega)).trans (f34.mono fun k _ hk => by simp [In] at hk; omega)⟩
  · have := f35.size
    exact ⟨rfl, rfl, rfl, rfl, by omega, hb17, (((f029.trans f35.in_nil.of_no).trans f36.in_nil.of_no).trans (f37.mono fun k _ hk => by simp [In] at hk; omega)).trans (f38.mono fun k _ hk => by simp [In] at hk; omega)⟩
  rintro b13 x9 x10 b14 x11 x12 h39 ⟨rfl, rfl, rfl, rfl, hb13, hb14, f39⟩ hL39
  have z39 := f39.size
  have l14 : b14 < h39.size := hL39.head.lt
  have l13 : b13 < h39.size := hL39.tail.head.lt
  have l3 : b3 < h39.size := hL39.tail.tail.tail.tail.head.lt
  have inc : ∀ {k : Nat}, ((S' k ∧ k < h.size) ∨ h39.size ≤ k) → (S' k ∧ k < h.size) ∨ (h.size ≤ k ∧ k ≠ b3) := fun hk => by
    rcases hk with hk | hk
    · exact .inl hk
    · exact .inr (by omega)
  have H39 : RdI (fun k => (S' k ∧ k < h.size) ∨ h39.size ≤ k) h39 x11 rs := (H0.fr f39 fun k hk hk2 => by omega).mono fun k hk => .inl hk
  refine ⟨fun n2 i x q h' => ∃ (j : Nat) (t : St), i = (j : Int) ∧ n2 + j = n - m ∧ sq xss (rs, x12) j = some t ∧ q = t.2 ∧ RdI (fun k => (S' k ∧ k < h.size) ∨ h39.size ≤ k) h' x t.1 ∧ Fr (fun k => h.size ≤ k) h h' ∧ h39.size ≤ h'.size, ⟨n - m, 0, (rs, x12), rfl, rfl, rfl, rfl, H39, f39, Nat.le_refl _⟩, ?_⟩
  rintro n2 i x q h40 ⟨j, t, rfl, ej, hj, rfl, Q40, f40, z40⟩ hL40
  have Wt : WOK xss t := sq_wok_ W hj
  have G40 : RdR (fun k => S k ∧ k < h.size) h40 g xss := G0.fr f40 fun k hk hk2 => by omega
  refine ⟨fun e2 => ?_, fun e2 => ?_⟩
  · simp only [decide_eq_true_eq] at e2
    refine k_waStep2 G40 Q40 Wt rfl _ fun y h41 Y41 f41 => ⟨y, _, _, rfl, hL40.of_no f41, fun h42 f42 hL42 => ?_⟩
    have z41 := f41.size
    rw [w64_eq _ (by omega) (by omega)]
    have hst : stepP xss t ≠ none := fun hh => all (j + 1) (by rw [sq, hj]; exact hh)
    obtain ⟨t', ht'⟩ := Option.ne_none_iff_exists'.1 hst
    rw [ht'] at Y41 ⊢
    simp only [Option.getD_some] at Y41 ⊢
    refine ⟨n2 - 1, by omega, j + 1, t', by omega, by omega, by rw [sq, hj]; exact ht', rfl, (Y41.fr f42 fun k hk hk2 => by simp [In] at hk2; rcases hk with (hk | hk) | hk <;> omega).mono fun k hk => by rcases hk with hk | hk; exact hk; exact .inr (by omega), (f40.trans f41.of_no).trans (f42.mono fun k _ hk => by simp [In] at hk; omega), by have := f42.size; omega⟩
  simp only [decide_eq_false_iff_not] at e2
  have ej2 : j = n - m := by omega
  subst ej2
  have H40 : RdI (fun k => (S' k ∧ k < h.size) ∨ h39.size ≤ k) h40 x11 rs := (H0.fr f40 fun k hk hk2 => by omega).mono fun k hk => .inl hk
  refine ⟨fun n3 st y q2 z q3 h' => ∃ (i : Nat) (u v : St), st = (i : Int) ∧ n3 + i = 2001 ∧ sq xss (rs, x12) i = some u ∧ sq xss (rs, x12) (i + (n - m)) = some v ∧ q3 = u.2 ∧ q2 = v.2 ∧ RdI (fun k => (S' k ∧ k < h.size) ∨ h39.size ≤ k) h' z u.1 ∧ RdI (fun k => (S' k ∧ k < h.size) ∨ h39.size ≤ k) h' y v.1 ∧ (∀ j, j < i → j < m) ∧ Fr (fun k => h.size ≤ k) h h' ∧ h39.size ≤ h'.size, ⟨2001, 0, (rs, x12), t, rfl, rfl, rfl, by rw [Nat.zero_add]; exact hj, rfl, rfl, H40, Q40, fun j hj => by omega, f40, z40⟩, ?_⟩
  rintro n3 st y q2 z q3 h43 ⟨i, u, v, rfl, en3, hu, hv, rfl, rfl, Z43, Y43, hmin, f43, z43⟩ hL43
  have Wu : WOK xss u := sq_wok_ W hu
  have Wv : WOK xss v := sq_wok_ W hv
  have same_iff : (u.2 = v.2 ∧ u.1 = v.1) ↔ m ≤ i := by
    have h1 := R.iff (a := i) (b := i + (n - m)) (by omega)
    rw [hu, hv, show i + (n - m) - i = n - m by omega, Nat.mod_self] at h1
    constructor
    · intro hh; exact (h1.1 (congrArg some (Prod.ext hh.2 hh.1))).1
    · intro hh
      have := Option.some.inj (h1.2 ⟨hh, rfl⟩)
      rw [this]; exact ⟨rfl, rfl⟩
  refine k_waSame Z43 Y43 u.2 v.2 _ fun h44 f44 => ⟨_, rfl, hL43.of_no f44, fun e3 => ⟨fun e4 => ?_, fun e4 => ?_⟩, fun e3 => ?_⟩
  · have hL44 := hL43.of_no f44
    have z44 := f44.size
    simp only [Bool.not_eq_true', decide_eq_false_iff_not, same_iff] at e3
    simp only [decide_eq_true_eq] at e4
    have f044 := f43.trans f44.of_no
    have G44 : RdR (fun k => S k ∧ k < h.size) h44 g xss := G0.fr f044 fun k hk hk2 => by omega
    refine k_waStep2 G44 (Z43.no f44) Wu rfl _ fun z' h45 Z45 f45 => ⟨z', _, _, rfl, hL44.of_no f45, fun h46 f46 hL46 => ?_⟩
    have z45 := f45.size
    have f046 := (f044.trans f45.of_no).trans (f46.mono fun k _ hk => by simp [In] at hk; omega)
    have z46 := f46.size
    have G46 : RdR (fun k => S k ∧ k < h.size) h46 g xss := G0.fr f046 fun k hk hk2 => by omega
    have Y46 := ((Y43.no f44).no f45).fr f46 fun k hk hk2 => by simp [In] at hk2; rcases hk with hk | hk <;> omega
    refine k_waStep2 G46 Y46 Wv rfl _ fun y' h47 Y47 f47 => ⟨y', _, _, rfl, hL46.of_no f47, fun h48 f48 hL48 => ?_⟩
    have z47 := f47.size
    have z48 := f48.size
    have hsu : stepP xss u ≠ none := fun hh => all (i + 1) (by rw [sq, hu]; exact hh)
    have hsv : stepP xss v ≠ none := fun hh => all (i + (n - m) + 1) (by rw [sq, hv]; exact hh)
    obtain ⟨u', hu'⟩ := Option.ne_none_iff_exists'.1 hsu
    obtain ⟨v', hv'⟩ := Option.ne_none_iff_exists'.1 hsv
    rw [hu'] at Z45 ⊢
    rw [hv'] at Y47 ⊢
    simp only [Option.getD_some] at Z45 Y47 ⊢
    rw [w64_eq _ (by omega) (by omega)]
    refine ⟨n3 - 1, by omega, i + 1, u', v', by omega, by omega, by rw [sq, hu]; exact hu', by rw [show i + 1 + (n - m) = i + (n - m) + 1 by omega, sq, hv]; exact hv', rfl, rfl, ?_, ?_, fun j hj => by omega, ?_, by omega⟩
    · have a1 := (Z45.fr f46 fun k hk hk2 => by simp [In] at hk2; rcases hk with (hk | hk) | hk <;> omega).no f47
      exact (a1.fr f48 fun k hk hk2 => by simp [In] at hk2; rcases hk with (hk | hk) | hk <;> omega).mono fun k hk => by rcases hk with hk | hk; exact hk; exact .inr (by omega)
    · exact (Y47.fr f48 fun k hk hk2 => by simp [In] at hk2; rcases hk with (hk | hk) | hk <;> omega).mono fun k hk => by rcases hk with hk | hk; exact hk; exact .inr (by omega)
    · exact (f046.trans f47.of_no).trans (f48.mono fun k _ hk => by simp [In] at hk; omega)
  · simp only [Bool.not_eq_true', decide_eq_false_iff_not, same_iff] at e3
    simp only [decide_eq_false_iff_not] at e4
    exact wp_tail3 R HN HS hb3 (f43.trans f44.of_no) hu (.inr ⟨by omega, by omega⟩) ((Z43.no f44).mono fun k hk => inc hk) (by omega) hper
  · simp only [Bool.not_eq_false', decide_eq_true_eq, same_iff] at e3
    have him : i = m := by
      by_cases hc : m < i
      · have := hmin m hc; omega
      · omega
    exact wp_tail3 R HN HS hb3 (f43.trans f44.of_no) hu (.inl him) ((Z43.no f44).mono fun k hk => inc hk) (by omega) hper
set_option maxHeartbeats 4000000 in
theorem k_waPeriod {S S' : Nat → Prop} {h : Heap} {g w : Sl} {xss : List (List Int)} {rs : List Int} {p : Int} (G : RdR S h g xss) (H : RdI S' h w rs) (W : WOK xss (rs, p)) (K : Value → Heap → Prop) (HN : (∀ m k, Rho xss (rs, p) m k → 2000 < k) → ∀ h', Fr No h h' → K (.tuple #[VI 0, .agg #[w.v, VI p], VI 0]) h') (HS : ∀ m k s, Rho xss (rs, p) m k → k ≤ 2000 → sq xss (rs, p) m = some s → ∀ t h', RdI (fun k => S' k ∨ h.size ≤ k) h' t s.1 → Fr No h h' → K (.tuple #[VI m, .agg #[t.v, VI s.2], VI ((k : Int) - m)]) h') : callM Tryd.prog 63 #[.agg #[g.v], .agg #[w.v, VI p]] h K := by
  refine x63 g w p h K ?_
  unfold w63
  intro b1 b2 b3 h3 hb1 hb2 hb3 f3 hL3
  have f3 := f3.in_nil
  have z3 := f3.size
  have G0 : RdR (fun k => S k ∧ k < h.size) h g xss := G.lowS
  have H0 : RdI (fun k => S' k ∧ k < h.size) h w rs := RdV.lt H
  have nofin : ∀ {Y : Heap}, Fr (fun k => h.size ≤ k) h Y → Fr No h Y := fun f => f.mono fun k hk hk2 => absurd hk2 (by omega)
  refine ⟨fun b4 x1 x2 b5 x3 x4 h' => x1 = w ∧ x2 = p ∧ x3 = w ∧ x4 = p ∧ h3.size ≤ b4 ∧ h3.size ≤ b5 ∧ Fr (fun k => h.size ≤ k) h h', ⟨fun b15 h31 hb15 f31 hL31 b16 h32 hb16 f32 hL32 h33 f33 hL33 h34 f34 hL34 => ?_, fun b17 h35 hb17 f35 hL35 b18 h36 hb18 f36 hL36 h37 f37 hL37 h38 f38 hL38 => ?_⟩, ?_⟩
  · have := f31.size
    exact ⟨rfl, rfl, rfl, rfl, hb15, by omega, (((f3.of_no.trans f31.in_nil.of_no).trans f32.in_nil.of_no).trans (f33.mono fun k _ hk => by simp [In] at hk; omega)).trans (f34.mono fun k _ hk => by simp [In] at hk; omega)⟩
  · have := f35.size
    exact ⟨rfl, rfl, rfl, rfl, by omega, hb17, (((f3.of_no.trans f35.in_nil.of_no).trans f36.in_nil.of_no).trans (f37.mono fun k _ hk => by simp [In] at hk; omega)).trans (f38.mono fun k _ hk => by simp [In] at hk; omega)⟩
  rintro b4 x1 x2 b5 x3 x4 h12 ⟨rfl, rfl, rfl, rfl, hb4, hb5, f12⟩ hL12
  have z12 := f12.size
  have l5 : b5 < h12.size := hL12.head.lt
  have l4 : b4 < h12.size := hL12.tail.head.lt
  have l3 : b3 < h12.size := hL12.tail.tail.head.lt
  have H12 : RdI (fun k => (S' k ∧ k < h.size) ∨ h12.size ≤ k) h12 x3 rs := (H0.fr f12 fun k hk hk2 => by omega).mono fun k hk => .inl hk
  refine ⟨fun n met n10 x5 x6 x7 x8 h' => ∃ (a : Nat) (s t : St), n10 = (a : Int) + 1 ∧ n + a = 2000 ∧ sq xss (rs, x4) a = some s ∧ sq xss (rs, x4) (2 * a) = some t ∧ x8 = s.2 ∧ x6 = t.2 ∧ RdI (fun k => (S' k ∧ k < h.size) ∨ h12.size ≤ k) h' x7 s.1 ∧ RdI (fun k => (S' k ∧ k < h.size) ∨ h12.size ≤ k) h' x5 t.1 ∧ (met = true → 1 ≤ a ∧ s = t) ∧ (met = false → ∀ j, 1 ≤ j → j ≤ a → sq xss (rs, x4) j ≠ sq xss (rs, x4) (2 * j)) ∧ Fr (fun k => h.size ≤ k) h h' ∧ h12.size ≤ h'.size, ⟨2000, 0, (rs, x4), (rs, x4), rfl, rfl, rfl, rfl, rfl, rfl, H12, H12, fun e => (by cases e), fun _ j h1 h2 => by omega, f12, Nat.le_refl _⟩, ?_⟩
  rintro n met n10 x5 x6 x7 x8 h13 ⟨a, s, t, rfl, en, hs, ht, rfl, rfl, Q13, P13, hm1, hm0, f13, z13⟩ hL13
  have Ws : WOK xss s := sq_wok_ W hs
  have Wt : WOK xss t := sq_wok_ W ht
  have bad : ∀ {X Y : Heap}, (∀ m k, Rho xss (rs, x4) m k → 2000 < k) → Fr (fun k => h.size ≤ k) h X → Fr (In [b3]) X Y → K (.tuple #[VI 0, .agg #[x3.v, VI x4], VI 0]) Y := fun hN f1 f2 => HN hN _ (nofin (f1.trans (f2.mono fun k _ hk => by simp [In] at hk; omega)))
  have tail2 : w63_2 Tryd.prog met g x7 s.2 h13 b5 x5 t.2 b4 b3 b2 x3 x4 b1 K := wp_tail2 G H W HN HS ⟨hb1, hb2, hb3, by omega, by omega⟩ f13 met hs Q13 (fun e => by obtain ⟨h1, h2⟩ := hm1 e; exact ⟨h1, by rw [hs, ht, h2]⟩) hL13
  rw [w64_eq (2 * ((a : Int) + 1)) (by omega) (by omega)]
  refine ⟨fun e => ⟨fun e2 => ?_, tail2⟩, fun e => ⟨fun e2 h53 f53 hL53 => ?_, tail2⟩⟩
  · simp only [decide_eq_true_eq] at e
    have hmf : met = false := by simpa using e2
    have G13 : RdR (fun k => S k ∧ k < h.size) h13 g xss := G0.fr f13 fun k hk hk2 => by omega
    refine k_waStep2 G13 Q13 Ws rfl _ fun y h14 Y14 f14 => ⟨y, _, _, rfl, hL13.of_no f14, fun b10 h16 hb10 f16 hL16 => ?_⟩
    have f16 := f16.in_nil
    have z14 := f14.size
    have z16 := f16.size
    have f016 := (f13.trans f14.of_no).trans f16.of_no
    have G16 : RdR (fun k => S k ∧ k < h.size) h16 g xss := G0.fr f016 fun k hk hk2 => by omega
    refine k_waStep2 G16 ((P13.no f14).no f16) Wt rfl _ fun z h17 Z17 f17 => ⟨z, _, _, rfl, hL16.of_no f17, fun e3 => ?_, fun e3 => ⟨fun e4 => ?_, fun e4 b11 h19 hb11 f19 hL19 => ?_⟩⟩
    · have hz : sq xss (rs, x4) (a + 1) = none := by
        rw [sq, hs]
        cases h5 : stepP xss s with
        | none => exact h5
        | some s' => rw [h5] at e3; cases e3
      unfold w63_1
      exact fun b11 h28 hb11 f28 hL28 => bad (fun m k R => absurd hz (R.all _)) (f016.trans f17.of_no) f28
    · have hz : sq xss (rs, x4) (2 * a + 1) = none := by
        rw [sq, ht]
        cases h5 : stepP xss t with
        | none => exact h5
        | some s' => rw [h5] at e4; cases e4
      unfold w63_1
      exact fun b11 h28 hb11 f28 hL28 => bad (fun m k R => absurd hz (R.all _)) (f016.trans f17.of_no) f28
    have f19 := f19.in_nil
    have z17 := f17.size
    have z19 := f19.size
    have f019 := (f016.trans f17.of_no).trans f19.of_no
    obtain ⟨s', hs'⟩ : ∃ s', stepP xss s = some s' := by
      cases h5 : stepP xss s with
      | none => rw [h5] at e3; cases e3
      | some s' => exact ⟨s', rfl⟩
    obtain ⟨t', ht'⟩ : ∃ t', stepP xss t = some t' := by
      cases h5 : stepP xss t with
      | none => rw [h5] at e4; cases e4
      | some s' => exact ⟨s', rfl⟩
    have W' := Wt.step ht'
    rw [hs'] at Y14 hL19 ⊢
    rw [ht'] at Z17 hL19 ⊢
    simp only [Option.getD_some] at Y14 Z17 hL19 ⊢
    have G19 : RdR (fun k => S k ∧ k < h.size) h19 g xss := G0.fr f019 fun k hk hk2 => by omega
    refine k_waStep2 G19 (Z17.no f19) W' rfl _ fun z2 h21 Z21 f21 => ⟨z2, _, _, rfl, hL19.of_no f21, fun e5 b12 h24 hb12 f24 hL24 => ?_, fun e5 b12 h26 hb12 f26 hL26 => ?_⟩
    · have hz : sq xss (rs, x4) (2 * a + 2) = none := by
        rw [sq, sq, ht]
        show (stepP xss t).bind _ = none
        rw [ht']
        cases h5 : stepP xss t' with
        | none => exact h5
        | some s' => rw [h5] at e5; cases e5
      exact bad (fun m k R => absurd hz (R.all _)) (f019.trans f21.of_no) f24
    obtain ⟨t2, ht2⟩ : ∃ t2, stepP xss t' = some t2 := by
      cases h5 : stepP xss t' with
      | none => rw [h5] at e5; cases e5
      | some s' => exact ⟨s', rfl⟩
    rw [ht2] at Z21 hL26 ⊢
    simp only [Option.getD_some] at Z21 hL26 ⊢
    have z21 := f21.size
    have z26 := f26.size
    have off : ∀ k, ((S' k ∧ k < h.size) ∨ h12.size ≤ k) → ¬ In [b5, b4] k := fun k hk hk2 => by
      simp only [In, List.mem_cons, List.not_mem_nil, or_false] at hk2
      rcases hk with hk | hk <;> rcases hk2 with rfl | rfl <;> omega
    have Y26 : RdI (fun k => (S' k ∧ k < h.size) ∨ h12.size ≤ k) h26 y s'.1 := (((((Y14.no f16).no f17).no f19).no f21).mono fun k hk => by rcases hk with hk | hk; exact hk; exact .inr (by omega)).fr f26 off
    have Z26 : RdI (fun k => (S' k ∧ k < h.size) ∨ h12.size ≤ k) h26 z2 t2.1 := (Z21.mono fun k hk => by rcases hk with (hk | hk) | hk; exact hk; exact .inr (by omega); exact .inr (by omega)).fr f26 off
    have f026 := (f019.trans f21.of_no).trans (f26.mono fun k _ hk => by simp only [In, List.mem_cons, List.not_mem_nil, or_false] at hk; omega)
    refine k_waSame Y26 Z26 s'.2 t2.2 _ fun h27 f27 => ⟨_, rfl, hL26.of_no f27, ?_⟩
    have z27 := f27.size
    have hs1 : sq xss (rs, x4) (a + 1) = some s' := by rw [sq, hs]; exact hs'
    have ht1 : sq xss (rs, x4) (2 * (a + 1)) = some t2 := by
      rw [show 2 * (a + 1) = 2 * a + 1 + 1 by omega, sq, sq, ht]
      show ((stepP xss t).bind _) = _
      rw [ht']; exact ht2
    rw [w64_eq _ (by omega) (by omega)]
    refine ⟨n - 1, by omega, a + 1, s', t2, by omega, by omega, hs1, ht1, rfl, rfl, Y26.no f27, Z26.no f27, fun e6 => ?_, fun e6 j h1 h2 => ?_, f026.trans f27.of_no, by omega⟩
    · simp only [decide_eq_true_eq] at e6
      exact ⟨by omega, Prod.ext e6.2 e6.1⟩
    · simp only [decide_eq_false_iff_not] at e6
      by_cases hj : j ≤ a
      · exact hm0 hmf j h1 hj
      · have : j = a + 1 := by omega
        subst this
        rw [hs1, ht1]
        exact fun hh => by
          have := Option.some.inj hh
          rw [this] at e6
          exact e6 ⟨rfl, rfl⟩
  · simp only [decide_eq_false_iff_not] at e
    have hmf : met = false := by simpa using e2
    have ha : a = 2000 := by omega
    refine bad (fun m k R => ?_) f13 f53
    obtain ⟨j, j1, j2, _, j4⟩ := R.meets
    by_cases hc : k ≤ 2000
    · exact absurd j4 (hm0 hmf j j1 (by omega))
    · omega

theorem count_take_succ {x : Int} {xs : List Int} {i : Nat} (hi : i < xs.length) : (xs.take (i + 1)).count x = (xs.take i).count x + (if xs[i] = x then 1 else 0) := by
  rw [List.take_add_one, List.getElem?_eq_getElem hi, Option.toList_some, List.count_append, List.count_cons, List.count_nil]
  by_cases h : xs[i] = x <;> simp [h]
theorem k_grEntries {S : Nat → Prop} {h : Heap} {g : Sl} {xss : List (List Int)} (G : RdR S h g xss) (hn : xss.length + totR xss ≤ 1000000000) (p : Int) : Ret Tryd.prog 108 #[.agg #[g.v], VI p] h (VI (xss.flatten.count p : Nat)) := by
  intro K HK
  have gn := G.len
  refine v108 g p h K fun b1 h1 hb1 f1 hL1 => ?_
  have f1 := f1.in_nil
  refine ⟨fun m c i h' => 0 ≤ i ∧ i + m = (xss.length : Int) ∧ c = ((((xss.take i.toNat).flatten.count p : Nat)) : Int) ∧ Fr No h h', ⟨xss.length, by omega, by omega, by simp, f1⟩, ?_⟩
  rintro m c i h2 ⟨i0, i1, rfl, f2⟩ hL2
  have G2 := G.no f2
  refine ⟨fun e => ?_, fun e => ?_⟩
  · have hi := G2.lt e
    have hi2 : i.toNat < xss.length := by omega
    obtain ⟨si, c1, r1⟩ := G2.get i0 hi
    have sn := r1.len
    have tot : ∀ j, j ≤ xss.length → (xss.take j).flatten.length ≤ totR xss := fun j _ => by
      have h1 : xss.flatten.length = totR xss := totR_flat xss
      rw [← List.take_append_drop j xss, List.flatten_append, List.length_append] at h1
      rw [List.take_append_drop] at h1
      omega
    have t1 := tot (i.toNat + 1) (by omega)
    rw [List.take_add_one, List.getElem?_eq_getElem hi2, Option.toList_some, List.flatten_append, List.length_append] at t1
    simp only [List.flatten_cons, List.flatten_nil, List.append_nil] at t1
    have cl : (xss.take i.toNat).flatten.count p ≤ (xss.take i.toNat).flatten.length := List.count_le_length
    refine ⟨G2.inb i0 hi, si, c1, fun m2 d j h' => 0 ≤ j ∧ j + m2 = (xss[i.toNat].length : Int) ∧ d = ((((xss.take i.toNat).flatten.count p + (xss[i.toNat].take j.toNat).count p : Nat)) : Int) ∧ Fr No h2 h', ⟨xss[i.toNat].length, by omega, by omega, by simp, Fr.refl _ _⟩, ?_⟩
    rintro m2 d j h3 ⟨j0, j1, rfl, f3⟩ hL3
    have r3 := r1.no f3
    refine ⟨fun e2 => ?_, fun e2 => ?_⟩
    · have hj := r3.lt e2
      have hj2 : j.toNat < xss[i.toNat].length := by omega
      have cl2 : (xss[i.toNat].take j.toNat).count p ≤ (xss[i.toNat].take j.toNat).length := List.count_le_length
      rw [List.length_take] at cl2
      have cs := count_take_succ (x := p) hj2
      refine ⟨r3.inb j0 hj, _, r3.get j0 hj, fun e3 => ?_, fun e3 => ?_⟩
      · simp only [decide_eq_true_eq] at e3
        rw [if_pos e3] at cs
        rw [r3.succ j0 hj, w64_eq _ (by omega) (by omega)]
        exact ⟨m2 - 1, by omega, by omega, by omega, by rw [show (j + 1).toNat = j.toNat + 1 by omega, cs]; omega, f3⟩
      · simp only [decide_eq_false_iff_not] at e3
        rw [if_neg e3] at cs
        rw [r3.succ j0 hj]
        exact ⟨m2 - 1, by omega, by omega, by omega, by rw [show (j + 1).toNat = j.toNat + 1 by omega, cs]; omega, f3⟩
    · have hj := r3.ge e2
      rw [List.take_of_length_le (show xss[i.toNat].length ≤ j.toNat by omega), G2.succ i0 hi]
      refine ⟨m - 1, by omega, by omega, by omega, ?_, f2.no_trans f3⟩
      rw [show (i + 1).toNat = i.toNat + 1 by omega, List.take_add_one, List.getElem?_eq_getElem hi2, Option.toList_some, List.flatten_append, List.count_append]
      simp
  · have hi := G2.ge e
    rw [List.take_of_length_le (by omega)]
    exact HK h2 f2

theorem k_grBalanced {S : Nat → Prop} {h : Heap} {g : Sl} {xss : List (List Int)} (G : RdR S h g xss) (hg : graphB xss = true) : Ret Tryd.prog 85 #[.agg #[g.v]] h (VB (balB xss)) := by
  intro K HK
  have hgl := graph_len hg
  have hgt := graph_tot hg
  refine v85 g h K fun b1 h1 hb1 f1 hL1 => ?_
  have f1 := f1.in_nil
  refine ⟨fun n i h' => 0 ≤ i ∧ i + n = (xss.length : Int) ∧ (∀ p : Nat, (p : Int) < i → (xss.getD p []).length = xss.flatten.count (p : Int)) ∧ Fr No h h', ⟨xss.length, by omega, by omega, fun p hp => by omega, f1⟩, ?_⟩
  rintro n i h2 ⟨i0, i1, hp, f2⟩ hL2
  have G2 := G.no f2
  have gn := G2.len
  refine ⟨fun e => ?_, fun e => ?_⟩
  · have hi := G2.lt e
    obtain ⟨si, c1, r1⟩ := G2.get i0 hi
    have sn := r1.len
    have eg : xss.getD i.toNat [] = xss[i.toNat]'(by omega) := getD_get (by omega)
    refine ⟨G2.inb i0 hi, si, c1, k_grEntries G2 (by omega) i _ fun h3 f3 => ⟨_, rfl, hL2.of_no f3, fun c => ?_, fun c => ?_⟩⟩
    · have c := not_t c
      simp only [decide_eq_false_iff_not] at c
      have : balB xss = false := by
        refine Bool.eq_false_iff.2 fun hs => ?_
        have := List.all_eq_true.1 hs i.toNat (by simpa using by omega)
        simp only [decide_eq_true_eq] at this
        rw [show ((i.toNat : Nat) : Int) = i by omega, eg] at this
        omega
      rw [this] at HK
      exact HK h3 (f2.no_trans f3)
    · have c := not_f c
      simp only [decide_eq_true_eq] at c
      rw [G2.succ i0 hi]
      refine ⟨n - 1, by omega, by omega, by omega, fun p hp' => ?_, f2.no_trans f3⟩
      by_cases hpi : (p : Int) < i
      · exact hp p hpi
      · have : p = i.toNat := by omega
        rw [this, eg, show ((i.toNat : Nat) : Int) = i by omega]; omega
  · have hi := G2.ge e
    have : balB xss = true := List.all_eq_true.2 fun p hpr => by
      simp only [decide_eq_true_eq]
      exact hp p (by have := List.mem_range.1 hpr; omega)
    rw [this] at HK
    exact HK h2 f2

theorem k_spec_grCount {S : Nat → Prop} {h : Heap} {g : Sl} {xss : List (List Int)} (G : RdR S h g xss) (hn : xss.length + totR xss ≤ 1000000000) : Ret Tryd.prog 86 #[.agg #[g.v]] h (VI (totR xss : Nat)) := by
  intro K HK
  have gn := G.len
  refine v86 g h K fun b1 h1 hb1 f1 hL1 => ?_
  have f1 := f1.in_nil
  refine ⟨fun m c i h' => 0 ≤ i ∧ i + m = (xss.length : Int) ∧ c = ((totR (xss.take i.toNat) : Nat) : Int) ∧ Fr No h h', ⟨xss.length, by omega, by omega, rfl, f1⟩, ?_⟩
  rintro m c i h2 ⟨i0, i1, rfl, f2⟩ hL2
  have G2 := G.no f2
  refine ⟨fun e => ?_, fun e => ?_⟩
  · have hi := G2.lt e
    have hi2 : i.toNat < xss.length := by omega
    obtain ⟨si, c1, r1⟩ := G2.get i0 hi
    have sn := r1.len
    have tot : ∀ j, totR (xss.take j) ≤ totR xss := fun j => by
      have h1 : totR (xss.take j ++ xss.drop j) = totR (xss.take j) + totR (xss.drop j) := by unfold totR; rw [List.map_append, List.sum_append]
      rw [List.take_append_drop] at h1
      omega
    have t1 := tot (i.toNat + 1)
    have t2 : totR (xss.take (i.toNat + 1)) = totR (xss.take i.toNat) + xss[i.toNat].length := by
      rw [List.take_add_one, List.getElem?_eq_getElem hi2, Option.toList_some]
      unfold totR
      rw [List.map_append, List.sum_append]
      rfl
    refine ⟨G2.inb i0 hi, si, c1, m - 1, by omega, ?_⟩
    rw [G2.succ i0 hi, w64_eq _ (by omega) (by omega)]
    exact ⟨by omega, by omega, by rw [show (i + 1).toNat = i.toNat + 1 by omega, t2]; omega, f2⟩
  · have hi := G2.ge e
    rw [List.take_of_length_le (by omega)]
    exact HK h2 f2

/-! Tours through all exits. -/
theorem sumN_map (f : List Int → Nat) (g : List (List Int)) : ∀ n, n ≤ g.length → sumN (fun i => f (g.getD i [])) n = ((g.take n).map f).sum
  | 0, _ => by simp [sumN]
  | n + 1, h => by
    rw [sumN, sumN_map f g n (by omega), List.take_add_one, List.getElem?_eq_getElem (show n < g.length by omega), Option.toList_some, List.map_append, List.sum_append, getD_get (show n < g.length by omega)]
    simp
theorem sumN_deg (g : List (List Int)) : sumN (degN g) g.length = totR g := by
  have := sumN_map List.length g g.length (Nat.le_refl _)
  rw [List.take_of_length_le (Nat.le_refl _)] at this
  exact this
theorem strong_all2 {g : List (List Int)} (hg : graphB g = true) : strongB g = true ↔ ∀ p q : Int, 0 ≤ p → p < (g.length : Int) → 0 ≤ q → q < (g.length : Int) → ∃ k, Way g p k q := by
  unfold strongB
  rw [range_all]
  have key : ∀ i : Nat, i < g.length → ((farP g i).countP (fun x => decide (0 ≤ x)) = g.length ↔ ∀ q : Int, 0 ≤ q → q < (g.length : Int) → ∃ k, Way g i k q) := fun i hi => by
    have fl := (far_bq hg (p := i) (by omega) (by omega)).len
    rw [← fl, List.countP_eq_length]
    constructor
    · intro h q q0 q1
      refine (far_iff hg (by omega) (by omega) q0 (by omega)).1 ?_
      have := h _ (List.getElem_mem (show q.toNat < (farP g i).length by omega))
      rw [getD_getI (by omega)]
      simpa using this
    · intro h x hx
      obtain ⟨j, hj, e⟩ := List.getElem_of_mem hx
      have := (far_iff hg (p := i) (q := j) (by omega) (by omega) (by omega) (by omega)).2 (h j (by omega) (by omega))
      rw [show ((j : Int)).toNat = j by omega, getD_getI hj, e] at this
      simpa using this
  constructor
  · intro h p q p0 p1 q0 q1
    have := h p.toNat (by omega)
    rw [decide_eq_true_eq, key _ (by omega), show ((p.toNat : Nat) : Int) = p by omega] at this
    exact this q q0 q1
  · intro h i hi
    rw [decide_eq_true_eq, key i hi]
    exact fun q q0 q1 => h i q (by omega) (by omega) q0 q1
theorem balP_of {g : List (List Int)} (h : balB g = true) : BalP g := fun p hp => by
  have h1 := List.all_eq_true.1 h p (List.mem_range.2 hp)
  simp only [decide_eq_true_eq] at h1
  rw [h1, sumN_map (fun l => l.count (p : Int)) g g.length (Nat.le_refl _), List.take_of_length_le (Nat.le_refl _), List.count_flatten]
theorem strongP_of {g : List (List Int)} (hg : graphB g = true) (h : strongB g = true) : StrongP g := fun V hV p q hp hq hVp => by
  obtain ⟨k, hk⟩ := (strong_all2 hg).1 h (p : Int) (q : Int) (by omega) (by omega) (by omega) (by omega)
  have : ∀ (k : Nat) (x : Int), Way g (p : Int) k x → V x.toNat ∧ x.toNat < g.length := by
    intro k
    induction k with
    | zero => intro x hx; rw [← show (p : Int) = x from hx]; exact ⟨by simpa using hVp, by omega⟩
    | succ k ih =>
      intro x hx
      have rg := Way.rng hg (p := (p : Int)) (by omega) (by omega) hx
      obtain ⟨y, hy, hm⟩ := hx
      obtain ⟨v1, v2⟩ := ih y hy
      exact ⟨hV _ v2 v1 x hm, by omega⟩
  simpa using (this k q hk).1
theorem deg_of {g : List (List Int)} (hs : StrongP g) (ht : totR g ≠ 0) : ∀ p, p < g.length → degN g p ≠ 0 := fun p hp h0 => by
  have hall := hs (fun q => q = p) (fun q hq hqp t htm => by
    subst hqp
    rw [List.length_eq_zero_iff.1 h0] at htm
    cases htm) p
  apply ht
  rw [← sumN_deg]
  have : ∀ n, n ≤ g.length → sumN (degN g) n = 0 := by
    intro n
    induction n with
    | zero => intro _; rfl
    | succ n ih =>
      intro hn
      have e := hall n hp (by omega) rfl
      rw [sumN, ih (by omega), e]
      simpa using h0
  exact this _ (Nat.le_refl _)
theorem cnt_pos {g : List (List Int)} {s : St} {p : Nat} : ∀ {n : Nat}, cntA g s n p ≠ 0 → ∃ i, i < n ∧ posA g s i = (p : Int)
  | 0, h => absurd rfl h
  | n + 1, h => by
    rw [cntA] at h
    by_cases e : posA g s n = (p : Int)
    · exact ⟨n, by omega, e⟩
    · rw [if_neg e] at h
      obtain ⟨i, h1, h2⟩ := cnt_pos (n := n) (by omega)
      exact ⟨i, by omega, h2⟩
theorem eu_facts {g : List (List Int)} {s0 s : St} (hg : graphB g = true) (hs : strongB g = true) (hb : balB g = true) (ht : totR g ≠ 0) (W : WOK g s0) {m k : Nat} (R : Rho g s0 m k) (hm : sq g s0 m = some s) : k - m = totR g ∧ ∀ p : Nat, p < g.length → ∃ j, j < k - m ∧ ∃ t, sq g s j = some t ∧ t.2 = (p : Int) := by
  have hlt := R.lt
  have hS := strongP_of hg hs
  have hd := deg_of hS ht
  have Ws : WOK g s := sq_wok W hm
  have key : ∀ j, sq g s j = sq g s0 (m + j) := fun j => by rw [sq_add, hm]; rfl
  have hk : sq g s (k - m) = some s := by rw [key, show m + (k - m) = k by omega, ← R.eq, hm]
  obtain ⟨e1, e2, e3⟩ := euler Ws hS (balP_of hb) hd (n := k - m) (by omega) hk
  rw [sumN_deg] at e1 e2 e3
  have he : k - m = totR g := by
    have h1 := R.iff (a := m) (b := m + totR g) (by omega)
    have h2 := (h1.1 (by rw [hm, ← key, e1])).2
    rw [show m + totR g - m = totR g by omega] at h2
    have := Nat.le_of_dvd (by omega) (Nat.dvd_of_mod_eq_zero h2)
    omega
  refine ⟨he, fun p hp => ?_⟩
  have hc := e3 p hp
  obtain ⟨j, hj, hpos⟩ := cnt_pos (n := totR g) (p := p) (by rw [hc]; exact hd p hp)
  refine ⟨j, by omega, ?_⟩
  unfold posA at hpos
  cases hq : sq g s j with
  | none => rw [hq] at hpos; simp only at hpos; omega
  | some t => rw [hq] at hpos; exact ⟨t, rfl, hpos⟩
def tillL (g : List (List Int)) (p : Int) : Nat → St → St
  | 0, s => s
  | f + 1, s => if s.2 = p then s else match stepP g s with
    | none => s
    | some s' => tillL g p f s'
theorem till_eq {g : List (List Int)} {p : Int} : ∀ (j f : Nat) (s t : St), j ≤ f → sq g s j = some t → t.2 = p → (∀ i, i < j → ∀ u, sq g s i = some u → u.2 ≠ p) → tillL g p f s = t
  | 0, f, s, t, hf, h, hp, _ => by
    rw [sq] at h
    cases h
    cases f with
    | zero => rfl
    | succ f => rw [tillL, if_pos hp]
  | j + 1, 0, s, t, hf, h, hp, hn => by omega
  | j + 1, f + 1, s, t, hf, h, hp, hn => by
    rw [tillL, if_neg (hn 0 (by omega) s rfl)]
    cases he : stepP g s with
    | none =>
      have : sq g s 1 = none := by rw [sq, sq]; exact he
      have := sq_none this j
      rw [show 1 + j = j + 1 by omega, h] at this
      cases this
    | some s' =>
      have sh := sq_succ' g he
      exact till_eq j f s' t (by omega) (by rw [← sh]; exact h) hp fun i hi u hu => hn (i + 1) (by omega) u (by rw [sh]; exact hu)
theorem runT_sq (g : List (List Int)) : ∀ (n : Nat) (s : St), runT g (fun (_ : Unit) _ _ => ()) n () s = (sq g s n).map fun t => ((), t)
  | 0, s => rfl
  | n + 1, s => by
    rw [runT]
    cases he : stepP g s with
    | none =>
      have : sq g s 1 = none := by rw [sq, sq]; exact he
      have := sq_none this n
      rw [show 1 + n = n + 1 by omega] at this
      rw [this]; rfl
    | some s' => rw [sq_succ' g he, ← runT_sq g n s']
theorem pass_some {g : List (List Int)} : ∀ (n : Nat) (t : List Int) (s : St), sq g s n ≠ none → ∃ L s', runT g passU n t s = some (L, s')
  | 0, t, s, _ => ⟨t, s, rfl⟩
  | n + 1, t, s, h => by
    rw [runT]
    cases he : stepP g s with
    | none =>
      exfalso
      have : sq g s 1 = none := by rw [sq, sq]; exact he
      have := sq_none this n
      rw [show 1 + n = n + 1 by omega] at this
      exact h this
    | some s' => exact pass_some n _ s' (by rw [← sq_succ' g he]; exact h)
def eulC (g : List (List Int)) (p : Int) : Bool := (graphB g && inR 0 ((g.length : Int) - 1) p) && (strongB g && (balB g && decide (totR g ≠ 0)))
def eulS (g : List (List Int)) (p : Int) : St := (List.replicate g.length 0, p)
def eulP (g : List (List Int)) (p : Int) : List Int × Bool :=
  if eulC g p then (if (perP g (eulS g p)).2.2 then (match runT g passU (totR g) [p] (tillL g p 2001 ((sq g (eulS g p) (perP g (eulS g p)).1.toNat).getD (eulS g p))) with
    | none => ([], false)
    | some (t, _) => (t, true)) else ([], false)) else ([], false)
theorem eul_wok {g : List (List Int)} {p : Int} (hg : graphB g = true) (h0 : 0 ≤ p) (h1 : p < (g.length : Int)) : WOK g (eulS g p) := ⟨hg, by simp [eulS], h0, h1, fun i h h' => by simp only [eulS, List.getElem_replicate]; omega⟩
theorem eul_no {g : List (List Int)} {p : Int} (hN : ∀ m k, Rho g (eulS g p) m k → 2000 < k) : eulP g p = ([], false) := by
  unfold eulP
  split
  · rw [perP_no hN]; rfl
  · rfl
/-- Where the tour comes to. -/
theorem eul_yes {g : List (List Int)} {p : Int} (hc : eulC g p = true) {m k : Nat} (R : Rho g (eulS g p) m k) (hk : k ≤ 2000) {s : St} (hm : sq g (eulS g p) m = some s) : WOK g s ∧ k - m = totR g ∧ ∃ J t, J < totR g ∧ sq g s J = some t ∧ t.2 = p ∧ (∀ i, i < J → ∀ u, sq g s i = some u → u.2 ≠ p) ∧ ∃ L t', runT g passU (totR g) [p] t = some (L, t') ∧ eulP g p = (L, true) := by
  have hc' := hc
  unfold eulC at hc'
  simp only [Bool.and_eq_true, decide_eq_true_eq, inR_iff] at hc'
  obtain ⟨⟨hg, p0, p1⟩, hs, hb, ht⟩ := hc'
  have W := eul_wok hg p0 (show p < (g.length : Int) by omega)
  obtain ⟨e1, e2⟩ := eu_facts hg hs hb ht W R hm
  have hex : ∃ j, ∃ t, sq g s j = some t ∧ t.2 = p := by
    obtain ⟨j, _, t, h1, h2⟩ := e2 p.toNat (by omega)
    exact ⟨j, t, h1, by omega⟩
  have hle := e2 p.toNat (by omega)
  obtain ⟨j0, hj0, t0, h1, h2⟩ := hle
  have : ∃ J, J ≤ j0 ∧ (∃ t, sq g s J = some t ∧ t.2 = p) ∧ ∀ i, i < J → ∀ u, sq g s i = some u → u.2 ≠ p := by
    clear hex
    induction j0 using Nat.strongRecOn generalizing t0 with
    | ind j ih =>
      by_cases hx : ∃ i, i < j ∧ ∃ u, sq g s i = some u ∧ u.2 = p
      · obtain ⟨i, hi, u, hu, hup⟩ := hx
        obtain ⟨J, a1, a2, a3⟩ := ih i hi (by omega) u hu (by omega)
        exact ⟨J, by omega, a2, a3⟩
      · exact ⟨j, Nat.le_refl _, ⟨t0, h1, by omega⟩, fun i hi u hu hup => hx ⟨i, hi, u, hu, hup⟩⟩
  obtain ⟨J, hJ, ⟨t, ht1, ht2⟩, hmin⟩ := this
  have key : ∀ j, sq g s j = sq g (eulS g p) (m + j) := fun j => by rw [sq_add, hm]; rfl
  obtain ⟨L, t', hL⟩ := pass_some (g := g) (totR g) [p] t (by
    have := R.all (m + (J + totR g))
    rw [← key, sq_add, ht1] at this
    exact this)
  refine ⟨sq_wok W hm, e1, J, t, by omega, ht1, ht2, hmin, L, t', hL, ?_⟩
  unfold eulP
  rw [if_pos hc, perP_yes R hk, if_pos rfl]
  simp only [Int.toNat_natCast]
  rw [hm, Option.getD_some, till_eq J 2001 s t (by omega) ht1 ht2 hmin, hL]

set_option maxHeartbeats 4000000 in
theorem k_spec_EulerTour0 {S : Nat → Prop} {h : Heap} {g : Sl} {xss : List (List Int)} (G : RdR S h g xss) (p : Int) (K : Value → Heap → Prop) (HK : ∀ t h', RdI (fun k => h.size ≤ k) h' t (eulP xss p).1 → Fr No h h' → K (.tuple #[t.v, VB (eulP xss p).2]) h') : callM Tryd.prog 44 #[.agg #[g.v], VI p] h K := by
  have no : eulP xss p = ([], false) → ∀ h', Fr No h h' → K (.tuple #[nilSl.v, VB false]) h' := fun e h' f => by
    have := HK nilSl h' (by rw [e]; exact (RdV.nil _ _ _)) f
    rw [e] at this
    exact this
  have nc : eulC xss p = false → eulP xss p = ([], false) := fun e => by unfold eulP; rw [e]; rfl
  have gn := G.len
  refine v44 g p h K fun b1 h1 hb1 f1 hL1 => ?_
  have f1 := f1.in_nil
  have l1 : b1 < h1.size := hL1.head.lt
  refine k_spec_grPlace (G.no f1) p _ fun h2 f2 => ⟨_, rfl, hL1.of_no f2, fun e => ?_, fun e => ?_⟩
  · exact no (nc (by unfold eulC; rw [not_t e]; rfl)) h2 (f1.trans f2)
  have e := not_f e
  have e' := e
  simp only [Bool.and_eq_true, inR_iff] at e'
  obtain ⟨hg, p0, p1⟩ := e'
  have hgl := graph_len hg
  have hgt := graph_tot hg
  have f02 := f1.trans f2
  refine k_grStrong (G.no f02) hg _ fun h3 f3 => ⟨_, rfl, (hL1.of_no f2).of_no f3, fun e2 => ?_, fun e2 => ?_⟩
  · exact no (nc (by unfold eulC; rw [e, not_t e2]; rfl)) h3 (f02.trans f3)
  have e2 := not_f e2
  have f03 := f02.trans f3
  refine k_grBalanced (G.no f03) hg _ fun h4 f4 => ⟨_, rfl, ((hL1.of_no f2).of_no f3).of_no f4, fun e3 => ?_, fun e3 => ?_⟩
  · exact no (nc (by unfold eulC; rw [e, e2, not_t e3]; rfl)) h4 (f03.trans f4)
  have e3 := not_f e3
  have f04 := f03.trans f4
  refine k_spec_grCount (G.no f04) (by omega) _ fun h5 f5 => ⟨_, rfl, (((hL1.of_no f2).of_no f3).of_no f4).of_no f5, fun e4 => ?_, fun e4 => ?_⟩
  · simp only [decide_eq_true_eq] at e4
    exact no (nc (by unfold eulC; rw [decide_eq_false (show ¬ totR xss ≠ 0 by omega)]; simp)) h5 (f04.trans f5)
  simp only [decide_eq_false_iff_not] at e4
  have hc : eulC xss p = true := by unfold eulC; rw [e, e2, e3, decide_eq_true (show totR xss ≠ 0 by omega)]; rfl
  have f05 := f04.trans f5
  have z5 := f05.size
  have hL5 := (((hL1.of_no f2).of_no f3).of_no f4).of_no f5
  have W := eul_wok hg p0 (show p < (xss.length : Int) by omega)
  have zer : ∀ {X : Heap} {K : Value → Heap → Prop}, (∀ (w : Sl) h', RdI (Iv X.size h'.size) h' w (eulS xss p).1 → Fr No X h' → K w.v h') → eop Tryd.prog (Instr.makeSlice tIs (VI (g.n : Int)) (VI (g.n : Int))) X K := fun {X} {K} HK => by
    rw [gn]
    refine eop_make rIs (fun k => X.size ≤ k) (fun _ h => h) .i64 .i64 xss.length xss.length (Nat.le_refl _) (by omega) fun w h6 n6 c6 o6 f6 m6 _ => HK w h6 ?_ f6
    have ez : (List.replicate xss.length [VI 0]).flatten = (List.replicate xss.length (0 : Int)).map VI := by simp [List.flatten_replicate_singleton]
    rw [ez] at o6
    have o6' : OwI h6 (Iv X.size h6.size) w (List.replicate xss.length 0) := Ow.toIv o6
    exact o6'.rdF
  refine ⟨fun bb x1 x2 x3 h' => ((x3 = 0 ∧ ∀ m k, Rho xss (eulS xss p) m k → 2000 < k) ∨ ∃ m k s, Rho xss (eulS xss p) m k ∧ k ≤ 2000 ∧ sq xss (eulS xss p) m = some s ∧ x3 = (k : Int) - m ∧ x2 = s.2 ∧ RdI (fun k => k ≠ bb) h' x1 s.1) ∧ Fr (fun k => h5.size ≤ k) h5 h' ∧ h5.size ≤ bb, ⟨?_, fun b5 h13 hb5 f13 hL13 => ?_⟩, ?_⟩
  · refine zer fun w h6 R6 f6 => ⟨w, rfl, hL5.of_no f6, ?_, fun b4 h10 hb4 f10 hL10 => ?_⟩
    · have z6 := f6.size
      refine k_waPeriod (G.no (f05.trans f6)) R6 W _ (fun hN h7 f7 => ⟨_, w, p, _, rfl, (hL5.of_no f6).of_no f7, fun b3 h8 hb3 f8 hL8 h9 f9 hL9 => ⟨.inl ⟨rfl, hN⟩, ?_, ?_⟩⟩) (fun m k s R hk hs t h7 T7 f7 => ⟨_, t, s.2, _, rfl, (hL5.of_no f6).of_no f7, fun b3 h8 hb3 f8 hL8 h9 f9 hL9 => ⟨.inr ⟨m, k, s, R, hk, hs, rfl, rfl, ?_⟩, ?_, ?_⟩⟩)
      · have z7 := f7.size
        exact ((f6.of_no.trans f7.of_no).trans f8.in_nil.of_no).trans (f9.mono fun k _ hk => by simp [In] at hk; omega)
      · have z7 := f7.size; omega
      · have z7 := f7.size
        exact (((RdV.lt T7).no f8.in_nil).fr f9 fun k hk hk2 => by simp [In] at hk2; have := hk.2; omega).mono fun k hk => by have := hk.2; omega
      · have z7 := f7.size
        exact ((f6.of_no.trans f7.of_no).trans f8.in_nil.of_no).trans (f9.mono fun k _ hk => by simp [In] at hk; omega)
      · have z7 := f7.size; omega
    · have z6 := f6.size
      have f10 := f10.in_nil
      have z10 := f10.size
      have l4 : b4 < h10.size := hL10.head.lt
      refine k_waPeriod (G.no ((f05.trans f6).trans f10)) (R6.no f10) W _ (fun hN h11 f11 => ⟨_, w, p, _, rfl, hL10.of_no f11, fun h12 f12 hL12 => ⟨.inl ⟨rfl, hN⟩, ?_, ?_⟩⟩) (fun m k s R hk hs t h11 T11 f11 => ⟨_, t, s.2, _, rfl, hL10.of_no f11, fun h12 f12 hL12 => ⟨.inr ⟨m, k, s, R, hk, hs, rfl, rfl, ?_⟩, ?_, ?_⟩⟩)
      · exact ((f6.of_no.trans f10.of_no).trans f11.of_no).trans (f12.mono fun k _ hk => by simp [In] at hk; omega)
      · omega
      · exact (T11.fr f12 fun k hk hk2 => by simp [In] at hk2; rcases hk with hk | hk; have := hk.2; omega; omega).mono fun k hk => by rcases hk with hk | hk; have := hk.2; omega; omega
      · exact ((f6.of_no.trans f10.of_no).trans f11.of_no).trans (f12.mono fun k _ hk => by simp [In] at hk; omega)
      · omega
  · have f13 := f13.in_nil
    have z13 := f13.size
    have l5 : b5 < h13.size := hL13.head.lt
    refine zer fun w h14 R14 f14 => ⟨w, rfl, hL13.of_no f14, ?_⟩
    have z14 := f14.size
    refine k_waPeriod (G.no ((f05.trans f13).trans f14)) R14 W _ (fun hN h15 f15 => ⟨_, w, p, _, rfl, (hL13.of_no f14).of_no f15, fun h16 f16 hL16 => ⟨.inl ⟨rfl, hN⟩, ?_, hb5⟩⟩) (fun m k s R hk hs t h15 T15 f15 => ⟨_, t, s.2, _, rfl, (hL13.of_no f14).of_no f15, fun h16 f16 hL16 => ⟨.inr ⟨m, k, s, R, hk, hs, rfl, rfl, ?_⟩, ?_, hb5⟩⟩)
    · exact ((f13.of_no.trans f14.of_no).trans f15.of_no).trans (f16.mono fun k _ hk => by simp [In] at hk; omega)
    · exact (T15.fr f16 fun k hk hk2 => by simp [In] at hk2; rcases hk with hk | hk; have := hk.1; omega; omega).mono fun k hk => by rcases hk with hk | hk; have := hk.1; omega; omega
    · exact ((f13.of_no.trans f14.of_no).trans f15.of_no).trans (f16.mono fun k _ hk => by simp [In] at hk; omega)
  rintro bb x1 x2 x3 h17 ⟨hx, f17, hbb⟩ hL17
  have lbb : bb < h17.size := hL17.head.lt
  have z17 := f17.size
  have G5 : RdR (fun k => S k ∧ k < h.size) h5 g xss := (G.lowS).no f05
  have nofin : ∀ {Y : Heap}, Fr (fun k => h5.size ≤ k) h5 Y → Fr No h Y := fun f => f05.trans (f.mono fun k hk hk2 => absurd hk2 (by omega))
  refine ⟨fun e5 => ?_, fun e5 => ?_⟩
  · simp only [decide_eq_true_eq] at e5
    rcases hx with ⟨_, hN⟩ | ⟨m, k, s, R, _, _, hx3, _⟩
    · exact no (eul_no hN) h17 (nofin f17)
    · have := R.lt; omega
  simp only [decide_eq_false_iff_not] at e5
  rcases hx with ⟨h0, _⟩ | ⟨m, k, s, R, hk, hm, rfl, rfl, X17⟩
  · exact absurd h0 e5
  have hlt := R.lt
  obtain ⟨Ws, etot, J, tt, hJ, hsJ, htp, hmin, L, t', hrun, heul⟩ := eul_yes hc R hk hm
  have key : ∀ j, sq xss s j ≠ none := fun j => by
    have := R.all (m + j)
    rw [sq_add, hm] at this
    exact this
  refine ⟨fun n i x q h' => ∃ (j : Nat) (u : St), i = (j : Int) ∧ n + j = k - m ∧ j ≤ J ∧ sq xss s j = some u ∧ q = u.2 ∧ RdI (fun k => k ≠ bb) h' x u.1 ∧ Fr (fun k => h5.size ≤ k) h5 h' ∧ h17.size ≤ h'.size, ⟨k - m, 0, s, rfl, rfl, by omega, rfl, rfl, X17, f17, Nat.le_refl _⟩, ?_⟩
  rintro n i x q h18 ⟨j, u, rfl, en, hjJ, hu, rfl, X18, f18, z18⟩ hL18
  have Wu : WOK xss u := sq_wok Ws hu
  have G18 : RdR (fun k => S k ∧ k < h.size) h18 g xss := G5.fr f18 fun k hk hk2 => by omega
  refine ⟨fun e6 => ⟨fun e7 => ?_, fun e7 => ?_⟩, fun e6 => ?_⟩
  · simp only [Bool.not_eq_true', decide_eq_false_iff_not] at e7
    simp only [decide_eq_true_eq] at e6
    have hne : j ≠ J := fun hh => by subst hh; rw [hu] at hsJ; cases hsJ; exact e7 htp
    obtain ⟨u', hu'⟩ := Option.ne_none_iff_exists'.1 (show stepP xss u ≠ none from fun hh => key (j + 1) (by rw [sq, hu]; exact hh))
    refine k_waStep2 G18 X18 Wu rfl _ fun y h19 Y19 f19 => ⟨y, _, _, rfl, hL18.of_no f19, fun h20 f20 hL20 => ?_⟩
    have z19 := f19.size
    rw [hu'] at Y19 ⊢
    simp only [Option.getD_some] at Y19 ⊢
    rw [w64_eq _ (by omega) (by omega)]
    exact ⟨n - 1, by omega, j + 1, u', by omega, by omega, by omega, by rw [sq, hu]; exact hu', rfl, (Y19.fr f20 fun k hk hk2 => by simp [In] at hk2; rcases hk with hk | hk <;> omega).mono fun k hk => by rcases hk with hk | hk <;> omega, (f18.trans f19.of_no).trans (f20.mono fun k _ hk => by simp [In] at hk; omega), by have := f20.size; omega⟩
  · simp only [Bool.not_eq_false', decide_eq_true_eq] at e7
    have hjj : j = J := by
      by_cases hh : j < J
      · exact absurd e7 (hmin j hh u hu)
      · omega
    subst hjj
    obtain rfl : u = tt := Option.some.inj (hu.symm.trans hsJ)
    have hrun2 : (goP xss (totR xss) (go0 xss u)).map (fun r => (r.ps, r.s)) = some (L, t') := by
      have := go_run xss (fun r => r.ps) passU (fun r s' => rfl) (totR xss) (go0 xss u)
      rw [← this]
      show runT xss passU (totR xss) [u.2] u = _
      rw [htp]; exact hrun
    have en2 : (((k : Int) - m)).toNat = totR xss := by omega
    refine k_waGo (rs := u.1) G18 X18 u.2 ((k : Int) - m) Wu (by omega) (by omega) _ (fun hn h21 f21 => ?_) (fun r hr ok ee ps vs us h21 E P V U f21 => ⟨ee, r.s.2, ps, vs, us, true, rfl, hL18.of_no f21, fun e => (by cases e), fun _ b6 h23 hb6 f23 hL23 => ?_⟩)
    · exfalso
      rw [en2] at hn
      rw [show ((u.1, u.2) : St) = u from rfl] at hn
      rw [hn] at hrun2
      cases hrun2
    · rw [en2] at hr
      rw [show ((u.1, u.2) : St) = u from rfl] at hr
      rw [hr] at hrun2
      simp only [Option.map_some, Option.some.injEq, Prod.mk.injEq] at hrun2
      have := HK ps h23 (by rw [heul]; simp only; rw [← hrun2.1]; exact (P.no f23.in_nil).mono fun k hk => by omega) (nofin ((f18.trans f21.of_no).trans f23.in_nil.of_no))
      rw [heul] at this
      exact this
  · simp only [decide_eq_false_iff_not] at e6
    omega
theorem k_spec_EulerTour {S : Nat → Prop} {h : Heap} {g : Sl} {xss : List (List Int)} (G : RdR S h g xss) (p : Int) (K : Value → Heap → Prop) (HK : ∀ t h', RdI (Iv h.size h'.size) h' t (eulP xss p).1 → Fr No h h' → K (.tuple #[t.v, VB (eulP xss p).2]) h') : callM Tryd.prog 44 #[.agg #[g.v], VI p] h K :=
  k_spec_EulerTour0 G p K fun t h' R f => HK t h' (RdV.mono (RdV.lt R) fun k hk => ⟨hk.1, hk.2⟩) f

theorem pass_len {g : List (List Int)} : ∀ (m : Nat) (t : List Int) (s : St) (t' : List Int) (s' : St), runT g passU m t s = some (t', s') → t'.length = t.length + m
  | 0, t, s, t', s', h => by
    simp only [runT, Option.some.injEq, Prod.mk.injEq] at h
    rw [h.1]
    rfl
  | m + 1, t, s, t', s', h => by
    rw [runT] at h
    split at h
    · cases h
    · have := pass_len m _ _ _ _ h
      simp [passU] at this
      omega

theorem k_eul2 {F : Nat → Prop} {b b' : Nat} {h : Heap} {o w : Sl} {ps : List Int} {q : Int} (V : IsVar h b [o.v]) (V' : IsVar h b' [w.v, VI q]) (hbb : b' ≠ b) (O : OwI h F o ps) (hFF : ∀ k, h.size ≤ k → F k) (hb : ¬ o.own b) (hb' : ¬ o.own b') (hn : ps.length ≤ 1000000) (x : Int) (K : Value → Heap → Prop)
    (HK : ∀ h' o' v, IsVar h' b [o'.v] → OwI h' F o' (ps ++ [q]) → (∀ k, o'.own k → o.own k ∨ h.size ≤ k) → Fr (fun k => k = b ∨ o.own k) h h' → K v h') : callV Tryd.prog (.func (.func 93) #[] #[VP b 0, VP b' 0]) [VI x] h K := by
  refine v93 x b o b' w q h K (.cons V (by simpa using hbb) (.cons V' (by simp) .nil)) ?_
  refine eop_lit rIs (fun k => h.size ≤ k) (fun _ h => h) 1 (by omega) [VI q] rfl rfl fun v h1 n1 c1 o1 f1 m1 _ => ⟨v, rfl, .cons (V.fr f1 fun h => h) (by simpa using hbb) (.cons (V'.fr f1 fun h => h) (by simp) .nil), ?_⟩
  have z1 := f1.size
  have o1 : RdI v.own h1 v [q] := o1.rd
  have O1 := Ow.no O f1
  refine eop_append rIs O1 (fun k hk => hFF k (by omega)) o1 (plainVI _) (by have h1 := RdI.len O1.rdF; have h2 := o1.len; simp at h2; omega) fun y h2 n2 o2 f2 d2 => ⟨y, rfl, .cons ((V.fr f1 fun h => h).fr f2 hb) (by simpa using hbb) (.cons ((V'.fr f1 fun h => h).fr f2 hb') (by simp) .nil), fun h3 f3 hL3 => ?_⟩
  rw [← List.map_append] at o2
  have hbl := V.lt
  have hin : ∀ k, In [b] k → k = b := fun k hk => by simpa [In] using hk
  have hyb : ¬ y.own b := fun hk => by
    rcases d2 b hk with h1 | h1
    · exact hb h1
    · omega
  refine HK h3 y _ hL3.head (Ow.fr o2 f3 fun k hk hk2 => hyb (by have := hin k hk2; subst this; exact hk)) (fun k hk => (d2 k hk).imp id fun h => by omega) ?_
  exact (f1.of_no.trans (f2.mono fun k _ hk => .inr hk)).trans (f3.mono fun k _ hk => .inl (hin k hk))

theorem per_some {g : List (List Int)} {s : St} (h : (perP g s).2.2 = true) : ∃ m k, Rho g s m k ∧ k ≤ 2000 ∧ perP g s = ((m : Int), (k : Int) - m, true) := by
  by_cases hx : ∃ m k, Rho g s m k ∧ k ≤ 2000
  · obtain ⟨m, k, R, hk⟩ := hx
    exact ⟨m, k, R, hk, perP_yes R hk⟩
  · rw [perP_no fun m k R => by
      by_cases hk : k ≤ 2000
      · exact absurd ⟨m, k, R, hk⟩ hx
      · omega] at h
    cases h
set_option maxHeartbeats 4000000 in
theorem k_EulerTour {S : Nat → Prop} {h : Heap} {g : Sl} {xss : List (List Int)} (G : RdR S h g xss) (p : Int) (K : Value → Heap → Prop) (HK : ∀ t h', OwI h' (Iv h.size h'.size) t (eulP xss p).1 → Fr No h h' → K (.tuple #[t.v, VB (eulP xss p).2]) h') : callM Tryd.prog 45 #[.agg #[g.v], VI p] h K := by
  have no : eulP xss p = ([], false) → ∀ h', Fr No h h' → K (.tuple #[nilSl.v, VB false]) h' := fun e h' f => by
    have := HK nilSl h' (by rw [e]; exact Ow.nil _ _ _ _) f
    rw [e] at this
    exact this
  have nc : eulC xss p = false → eulP xss p = ([], false) := fun e => by unfold eulP; rw [e]; rfl
  have gn := G.len
  refine v45 g p h K fun b1 h1 hb1 f1 hL1 => ?_
  have f1 := f1.in_nil
  have l1 : b1 < h1.size := hL1.head.lt
  refine eop_lit rIs (fun k => h1.size ≤ k) (fun _ h => h) 1 (by omega) [VI p] rfl rfl fun v h2 n2 c2 o2 f2 m2 _ => ⟨v, rfl, hL1.of_no f2, ?_⟩
  have r2 : RdI (fun k => h1.size ≤ k) h2 v [p] := o2.rdF
  have f02 := f1.trans f2
  refine k_has (G.no f02) r2 _ fun h3 f3 => ⟨_, rfl, (hL1.of_no f2).of_no f3, fun e => ?_, fun e => ?_⟩
  · simp only [List.all_cons, List.all_nil, Bool.and_true] at e
    exact no (nc (by unfold eulC; rw [not_t e]; rfl)) h3 (f02.trans f3)
  simp only [List.all_cons, List.all_nil, Bool.and_true] at e
  have e := not_f e
  have e' := e
  simp only [Bool.and_eq_true, inR_iff] at e'
  obtain ⟨hg, p0, p1⟩ := e'
  have hgl := graph_len hg
  have hgt := graph_tot hg
  have f03 := f02.trans f3
  refine k_isStrong (G.no f03) hg _ fun h4 f4 => ⟨_, rfl, ((hL1.of_no f2).of_no f3).of_no f4, fun e2 => ?_, fun e2 => ?_⟩
  · exact no (nc (by unfold eulC; rw [e, not_t e2]; rfl)) h4 (f03.trans f4)
  have e2 := not_f e2
  have f04 := f03.trans f4
  refine k_isBalanced (G.no f04) hg _ fun h5 f5 => ⟨_, rfl, (((hL1.of_no f2).of_no f3).of_no f4).of_no f5, fun e3 => ?_, fun e3 => ?_⟩
  · exact no (nc (by unfold eulC; rw [e, e2, not_t e3]; rfl)) h5 (f04.trans f5)
  have e3 := not_f e3
  have f05 := f04.trans f5
  have z5 := f05.size
  have z1 := f1.size
  have z15 := ((f2.trans f3).trans (f4.trans f5)).size
  have hL5 := (((hL1.of_no f2).of_no f3).of_no f4).of_no f5
  refine k_Concat (G.no f05) (by omega) _ fun c h6 o6 f6 => ⟨c, rfl, hL5.of_no f6, ?_⟩
  have cn : c.n = totR xss := by rw [RdI.len o6.rdF, totR_flat]
  have z6 := f6.size
  rw [gn]
  refine eop_make rIs (fun k => h6.size ≤ k) (fun _ h => h) .i64 .i64 xss.length xss.length (Nat.le_refl _) (by omega) fun w h7 n7 c7 o7 f7 m7 _ => ⟨w, rfl, (hL5.of_no f6).of_no f7, fun b2 h9 hb2 f9 hL9 => ?_⟩
  have f9 := f9.in_nil
  have z7 := f7.size
  have z9 := f9.size
  have l2 : b2 < h9.size := hL9.head.lt
  have ez : (List.replicate xss.length [VI 0]).flatten = (List.replicate xss.length (0 : Int)).map VI := by simp [List.flatten_replicate_singleton]
  rw [ez] at o7
  have o7' : OwI h7 (Iv h6.size h7.size) w (List.replicate xss.length 0) := Ow.toIv o7
  have f59 := (f6.trans f7).trans f9
  have f09 := f05.trans f59
  have W := eul_wok hg p0 (show p < (xss.length : Int) by omega)
  refine k_period (G.no f09) (show RdI (Iv h6.size h7.size) h9 w (eulS xss p).1 from RdI.no o7'.rdF f9) W _ fun h10 f10 => ⟨_, _, _, rfl, hL9.of_no f10, fun e4 => ?_, fun e4 => ⟨fun e5 => ?_, fun e5 => ?_⟩⟩
  · simp only [decide_eq_true_eq] at e4
    exact no (nc (by unfold eulC; rw [decide_eq_false (show ¬ totR xss ≠ 0 by omega)]; simp)) h10 (f09.trans f10)
  · exact no (by unfold eulP; rw [show ((eulS xss p).1, p) = eulS xss p from rfl] at e5; rw [not_t e5]; split <;> rfl) h10 (f09.trans f10)
  simp only [decide_eq_false_iff_not] at e4
  rw [show ((eulS xss p).1, p) = eulS xss p from rfl] at e5 ⊢
  have hc : eulC xss p = true := by unfold eulC; rw [e, e2, e3, decide_eq_true (show totR xss ≠ 0 by omega)]; rfl
  obtain ⟨m, k, R, hk, hper⟩ := per_some (not_f e5)
  have hlt := R.lt
  obtain ⟨s, hm⟩ := Option.ne_none_iff_exists'.1 R.some
  obtain ⟨Ws, etot, J, tt, hJ, hsJ, htp, hmin, L, t', hrun, heul⟩ := eul_yes hc R hk hm
  have key : ∀ j, sq xss s j ≠ none := fun j => by
    have := R.all (m + j)
    rw [sq_add, hm] at this
    exact this
  rw [hper]
  have z10 := f10.size
  have hL10 := hL9.of_no f10
  have f010 := f09.trans f10
  generalize hF : (fun q => q = b2 ∨ w.own q) = F
  have F1 : ∀ q, F q → h6.size ≤ q ∧ q < h10.size ∧ b1 ≠ q := fun q hq => by
    rw [← hF] at hq
    rcases hq with hq | hq
    · omega
    · have a1 := (o7'.foot hq).1; have a2 := a1.1; have a3 := a1.2; omega
  have F2 : F b2 := by rw [← hF]; exact .inl rfl
  have F3 : ∀ q, w.own q → F q := fun q hq => by rw [← hF]; exact .inr hq
  have o10 : OwI h10 F w (eulS xss p).1 := (Ow.no (Ow.no o7' f9) f10).mono fun q hq _ => F3 q hq
  have hwb : ¬ w.own b2 := fun hq => by have := (o7'.foot hq).1; have := this.2; omega
  have G0 : RdR (fun k => S k ∧ k < h.size) h g xss := G.lowS
  have G10 : RdR (fun k => S k ∧ k < h.size) h10 g xss := G0.no f010
  have toF : ∀ {x y : Heap}, Fr (fun q => F q ∨ False) x y → Fr F x y := fun f => f.mono fun q _ hq => by rcases hq with hq | hq; exact hq; exact hq.elim
  have fin : ∀ {y : Heap}, Fr (fun q => h6.size ≤ q) h10 y → Fr No h y := fun f => (f010.of_no.trans f).mono fun q hq hq2 => absurd hq2 (by omega)
  refine k_run (s0 := eulS xss p) (F := F) (fun (_ : Unit) _ _ => ()) (fun _ _ _ => True) (fun _ => False) G10 hL10.head o10 (fun q hq => ⟨fun hq2 => by have := (F1 q hq2).1; omega, fun h => h⟩) F2 hwb W (m : Int) (by omega) (by omega) _ () (fun q hq => (F1 q hq).2.1) (fun q hq => hq.elim) (fun _ _ => trivial) (fun _ _ _ _ _ _ _ _ => trivial) (fun N t s s' h1 K hN hN2 _ V O W hs _ HK => ?_) _ (fun hr N t h11 q hN _ v11 f11 => ?_) fun u1 s1 hr N h11 hN _ o11 W11 v11 f11 => ?_
  · refine v91 s.2 h1 K ?_
    exact HK h1 _ trivial (Fr.refl _ _)
  · rw [runT_sq, Int.toNat_natCast, hm] at hr
    cases hr
  rw [runT_sq, Int.toNat_natCast, hm] at hr
  simp only [Option.map_some, Option.some.injEq, Prod.mk.injEq] at hr
  obtain ⟨_, rfl⟩ := hr
  have f11 := toF f11
  have z11 := f11.size
  have up : ∀ {x y : Heap}, Fr F x y → Fr (fun q => h6.size ≤ q) x y := fun f => f.mono fun q _ hq => (F1 q hq).1
  have tl : ∀ {y : Heap}, Fr (fun q => h6.size ≤ q) h10 y → IsVar y b1 [g.v] := fun f => hL10.tail.head.fr f fun hh => by omega
  have mk : ∀ {y : Heap} {q : Int}, IsVar y b2 [w.v, VI q] → Fr (fun q => h6.size ≤ q) h10 y → Vars y [(b2, [w.v, VI q]), (b1, [g.v])] := fun v f => .cons v (fun q hq => by simp only [List.mem_cons, List.not_mem_nil, or_false] at hq; subst hq; simp only; omega) (.cons (tl f) (by simp) .nil)
  refine ⟨w, s.2, true, rfl, mk v11 (up f11), fun n x q h' => ∃ (j : Nat) (u : St), n + j = J ∧ sq xss s j = some u ∧ x = w ∧ q = u.2 ∧ OwI h' F w u.1 ∧ Fr (fun q => h6.size ≤ q) h10 h', ⟨J, 0, s, rfl, rfl, rfl, rfl, o11, up f11⟩, ?_⟩
  rintro n x q h12 ⟨j, u, en, hu, rfl, rfl, o12, f12⟩ hL12
  have Wu : WOK xss u := sq_wok Ws hu
  have z12 := f12.size
  refine ⟨fun e6 => ?_, fun e6 => ?_⟩
  · simp only [Bool.not_eq_true', decide_eq_false_iff_not] at e6
    have hne : j ≠ J := fun hh => by subst hh; rw [hu] at hsJ; cases hsJ; exact e6 htp
    obtain ⟨u', hu'⟩ := Option.ne_none_iff_exists'.1 (show stepP xss u ≠ none from fun hh => key (j + 1) (by rw [sq, hu]; exact hh))
    have G12 : RdR (fun k => S k ∧ k < h.size) h12 g xss := G10.fr f12 fun k hk hk2 => by omega
    refine k_stepF (s := u) G12 hL12.head o12 (fun q hq hq2 => by have := (F1 q hq2).1; omega) F2 hwb Wu _ (fun hn h13 f13 => by rw [hn] at hu'; cases hu') (fun v' hv' h13 o13 V13 f13 => ⟨x, v'.2, true, rfl, mk V13 (f12.trans (up f13)), n - 1, by omega, j + 1, v', by omega, by rw [sq, hu]; exact hv', rfl, rfl, o13, f12.trans (up f13)⟩)
  · simp only [Bool.not_eq_false', decide_eq_true_eq] at e6
    have hjj : j = J := by
      by_cases hh : j < J
      · exact absurd e6 (hmin j hh u hu)
      · omega
    subst hjj
    obtain rfl : u = tt := Option.some.inj (hu.symm.trans hsJ)
    refine eop_lit rIs (fun k => h12.size ≤ k) (fun _ h => h) 1 (by omega) [VI p] rfl rfl fun y h14 n14 c14 o14 f14 m14 d14 => ⟨y, rfl, hL12.of_no f14, fun b3 h16 hb3 f16 hL16 => ?_⟩
    have f16 := f16.in_nil
    have z14 := f14.size
    have z16 := f16.size
    have l3 : b3 < h16.size := hL16.head.lt
    have o14' : OwI h14 (fun k => h12.size ≤ k) y [p] := o14
    have o16 := Ow.no o14' f16
    have yg : ∀ k, y.own k → h12.size ≤ k ∧ k < h14.size := fun k hk => o14'.foot hk
    have yb3 : ¬ y.own b3 := fun hk => by have := (yg _ hk).2; omega
    have yb2 : ¬ y.own b2 := fun hk => by have := (yg _ hk).1; omega
    have f1216 := f14.trans f16
    have ow16 : OwI h16 F x u.1 := Ow.no o12 f1216
    have G16 : RdR (fun k => S k ∧ k < h.size) h16 g xss := (G10.fr f12 fun k hk hk2 => by omega).no f1216
    have fF : ∀ {y' : Heap}, Fr (fun k => F k ∨ (k = b3 ∨ y.own k)) h16 y' → Fr (fun q => h6.size ≤ q) h10 y' := fun f => (f12.trans f1216.of_no).trans (f.mono fun k _ hk => by
      rcases hk with hk | hk | hk
      · exact (F1 k hk).1
      · omega
      · have := (yg k hk).1; omega)
    rw [cn]
    refine k_run (s0 := u) (F := F) (S := fun k => S k ∧ k < h.size) passU
      (fun N t h' => ∃ o : Sl, IsVar h' b3 [o.v] ∧ OwI h' (fun k => h12.size ≤ k) o t ∧ ∀ k, o.own k → y.own k ∨ N ≤ k) (fun k => k = b3 ∨ y.own k)
      G16 hL16.tail.head ow16 (fun k hk => ⟨fun hq => by have := (F1 k hq).1; omega, fun hq => by rcases hq with rfl | hq; omega; have := (yg _ hq).1; omega⟩) F2 hwb Wu (totR xss : Int) (by omega) (by omega) _ [p]
      (fun k hk => by have := (F1 k hk).2.1; omega)
      (fun k hk => ⟨fun hq => by have h1 := (F1 k hq).2.1; rcases hk with rfl | hk; omega; have := (yg _ hk).1; omega, by rcases hk with rfl | hk; exact l3; have := (yg _ hk).2; omega⟩)
      (fun N hN => ⟨y, hL16.head, o16, fun k hk => .inl hk⟩)
      (fun N t h1 h2 U ⟨o, v1, v2, v3⟩ f hU => ⟨o, v1.fr f fun h => (hU _ h).1 (.inl rfl), v2.fr f fun k hk hk2 => by
        rcases v3 k hk with h | h
        · exact (hU k hk2).1 (.inr h)
        · have := (hU k hk2).2; omega, v3⟩)
      (fun N t s s' h1 K hN hN2 ⟨o, v1, v2, v3⟩ V O W hs hm HK => ?_) _ (fun hr N t h17 q hN ⟨o, v1, v2, v3⟩ v17 f17 => ?_) fun t2 s2 hr N h17 hN ⟨o, v1, v2, v3⟩ o17 W17 v17 f17 => ?_
    · obtain ⟨m, hm, hr⟩ := hm
      have hl := pass_len m _ _ _ _ hr
      have ob : ¬ o.own b3 := fun hk => by
        rcases v3 _ hk with h | h
        · exact yb3 h
        · omega
      have ob' : ¬ o.own b2 := fun hk => by
        rcases v3 _ hk with h | h
        · exact yb2 h
        · omega
      refine k_eul2 v1 V (by omega) v2 (fun k hk => by omega) ob ob' (by simp at hl; omega) s.2 K fun h2 o' v w1 w2 w3 w4 => HK h2 v ⟨o', w1, w2, fun k hk => ?_⟩ (w4.mono fun k _ hk => ?_)
      · rcases w3 k hk with h | h
        · exact v3 k h
        · exact .inr (by omega)
      · rcases hk with rfl | hk
        · exact .inl (.inl rfl)
        · exact (v3 k hk).imp .inr id
    · rw [Int.toNat_natCast, hrun] at hr
      cases hr
    · rw [Int.toNat_natCast, hrun] at hr
      simp only [Option.some.injEq, Prod.mk.injEq] at hr
      obtain ⟨rfl, rfl⟩ := hr
      have hL17 : Vars h17 [(b3, [o.v]), (b2, [x.v, VI t'.2]), (b1, [g.v])] := .cons v1 (fun q hq => by
        simp only [List.mem_cons, List.not_mem_nil, or_false] at hq
        rcases hq with rfl | rfl <;> simp only <;> omega) (mk v17 (fF f17))
      refine ⟨o, x, t'.2, true, rfl, hL17, ?_⟩
      have := HK o h17 (by rw [heul]; exact v2.mono fun k hk hk2 => ⟨by omega, (v2.foot hk).2⟩) (fin (fF f17))
      rw [heul] at this
      exact this
theorem eul_len (g : List (List Int)) (p : Int) : (eulP g p).1.length ≤ 41 := by
  unfold eulP
  split
  · rename_i hc
    split
    · split
      · simp
      · rename_i t _ hr
        have := pass_len _ _ _ _ _ hr
        unfold eulC at hc
        simp only [Bool.and_eq_true] at hc
        have := graph_tot hc.1.1
        simp only [List.length_cons, List.length_nil] at *
        omega
    · simp
  · simp

set_option maxHeartbeats 4000000 in
theorem k_lawEulerTour {h : Heap} {S0 : Nat → Prop} {s0 : Sl} {x0 : List (List Int)} (G0 : RdR S0 h s0 x0) (n1 : Int) : Ret Tryd.prog 6 #[.agg #[s0.v], VI n1] h (VB true) := by
  intro K HK
  replace G0 := RdR.toIv G0
  have fz : Fr No h h := Fr.refl _ _
  have := eul_len x0 n1
  refine v6 s0 n1 h K ?_
  have hL : Vars h [] := .nil
  intro b_1 h_1 hb_b_1 f1 hL
  have lt_b_1 : b_1 < h_1.size := (hL).head.lt
  replace f1 := f1.in_nil
  have z_f1 := f1.size
  replace G0 := RdR.no G0 f1
  replace fz := fz.no_trans f1
  refine g_szGraph G0 _ (by omega) (by omega) _ fun h_2 r2 f2 hr2 => ⟨r2, rfl, hL.of_no f2, ?_⟩
  replace hL := hL.of_no f2
  have z_f2 := f2.size
  replace G0 := RdR.no G0 f2
  replace fz := fz.no_trans f2
  refine ⟨fun e => ?_, fun e => ?_⟩
  · exact HK _ fz
  (try simp only [decide_eq_false_iff_not] at e)
  refine g_toGraph G0 (by omega) _ fun u3_0 h_3 O3_0 f3 => ⟨u3_0, rfl, hL.of_no f3, ?_⟩
  replace hL := hL.of_no f3
  have z_f3 := f3.size
  replace G0 := RdR.no G0 f3
  replace fz := fz.no_trans f3
  refine k_spec_EulerTour (OwR.rdI O3_0) _ _ fun u4_0 h_4 O4_0 f4 => ⟨u4_0, _, rfl, hL.of_no f4, ?_⟩
  replace hL := hL.of_no f4
  have z_f4 := f4.size
  replace G0 := RdR.no G0 f4
  replace O3_0 := OwR.no O3_0 f4
  replace fz := fz.no_trans f4
  refine g_toGraph G0 (by omega) _ fun u5_0 h_5 O5_0 f5 => ⟨u5_0, rfl, hL.of_no f5, ?_⟩
  replace hL := hL.of_no f5
  have z_f5 := f5.size
  replace G0 := RdR.no G0 f5
  replace O3_0 := OwR.no O3_0 f5
  replace O4_0 := RdI.no O4_0 f5
  replace fz := fz.no_trans f5
  intro b_2 h_7 hb_b_2 f6 hL
  have lt_b_2 : b_2 < h_7.size := (hL).head.lt
  replace f6 := f6.in_nil
  have z_f6 := f6.size
  replace G0 := RdR.no G0 f6
  replace O3_0 := OwR.no O3_0 f6
  replace O4_0 := RdI.no O4_0 f6
  replace O5_0 := OwR.no O5_0 f6
  replace fz := fz.no_trans f6
  refine k_EulerTour (OwR.rdI O5_0) _ _ fun u7_0 h_8 O7_0 f7 => ⟨u7_0, _, rfl, hL.of_no f7, ?_⟩
  replace hL := hL.of_no f7
  have z_f7 := f7.size
  replace G0 := RdR.no G0 f7
  replace O3_0 := OwR.no O3_0 f7
  replace O4_0 := RdI.no O4_0 f7
  replace O5_0 := OwR.no O5_0 f7
  replace fz := fz.no_trans f7
  refine g_eqIntS (Ow.rdI O7_0) O4_0 _ fun h_9 f8 => ⟨_, rfl, hL.of_no f8, ?_⟩
  replace hL := hL.of_no f8
  have z_f8 := f8.size
  replace G0 := RdR.no G0 f8
  replace O3_0 := OwR.no O3_0 f8
  replace O4_0 := RdI.no O4_0 f8
  replace O5_0 := OwR.no O5_0 f8
  replace O7_0 := Ow.no O7_0 f8
  replace fz := fz.no_trans f8
  refine ⟨fun e => ?_, fun e => ?_⟩
  · first | (simp at e; done) | (simp only [decide_eq_true_eq] at e; omega)
  (try simp only [decide_eq_false_iff_not] at e)
  refine ⟨fun e => ?_, fun e => ?_⟩
  · first | (simp at e; done) | (simp only [decide_eq_true_eq] at e; omega)
  (try simp only [decide_eq_false_iff_not] at e)
  refine g_toGraph G0 (by omega) _ fun u9_0 h_10 O9_0 f9 => ⟨u9_0, rfl, hL.of_no f9, ?_⟩
  replace hL := hL.of_no f9
  have z_f9 := f9.size
  replace G0 := RdR.no G0 f9
  replace O3_0 := OwR.no O3_0 f9
  replace O4_0 := RdI.no O4_0 f9
  replace O5_0 := OwR.no O5_0 f9
  replace O7_0 := Ow.no O7_0 f9
  replace fz := fz.no_trans f9
  refine g_eqGraph (OwR.rdI O5_0) (OwR.rdI O9_0) _ fun h_11 f10 => ⟨_, rfl, hL.of_no f10, ?_⟩
  replace hL := hL.of_no f10
  have z_f10 := f10.size
  replace G0 := RdR.no G0 f10
  replace O3_0 := OwR.no O3_0 f10
  replace O4_0 := RdI.no O4_0 f10
  replace O5_0 := OwR.no O5_0 f10
  replace O7_0 := Ow.no O7_0 f10
  replace O9_0 := OwR.no O9_0 f10
  replace fz := fz.no_trans f10
  refine ⟨fun e => ?_, fun e => ?_⟩
  · first | (simp at e; done) | (simp only [decide_eq_true_eq] at e; omega)
  (try simp only [decide_eq_false_iff_not] at e)
  refine g_markGraph O5_0 (by omega) _ (by omega) (by omega) _ fun h_12 N11_0 f11 => ⟨_, rfl, hL.iv f11 ⟨show b_2 < h_4.size ∨ h_5.size ≤ b_2 by omega, show b_1 < h_4.size ∨ h_5.size ≤ b_1 by omega, trivial⟩, ?_⟩
  replace hL := hL.iv f11 ⟨show b_2 < h_4.size ∨ h_5.size ≤ b_2 by omega, show b_1 < h_4.size ∨ h_5.size ≤ b_1 by omega, trivial⟩
  have z_f11 := f11.size
  replace G0 := RdR.iv G0 f11 (by omega)
  replace O3_0 := OwR.iv O3_0 f11 (by omega)
  replace O4_0 := RdI.iv O4_0 f11 (by omega)
  replace O7_0 := Ow.iv O7_0 f11 (by omega)
  replace O9_0 := OwR.iv O9_0 f11 (by omega)
  replace fz := fz.ivFresh f11 (by omega)
  refine ⟨fun e => ?_, fun e => ?_⟩
  · first | (simp at e; done) | (simp only [decide_eq_true_eq] at e; omega)
  (try simp only [decide_eq_false_iff_not] at e)
  refine g_eqIntS (Ow.rdI O7_0) O4_0 _ fun h_13 f12 => ⟨_, rfl, hL.of_no f12, ?_⟩
  replace hL := hL.of_no f12
  have z_f12 := f12.size
  replace G0 := RdR.no G0 f12
  replace O3_0 := OwR.no O3_0 f12
  replace O4_0 := RdI.no O4_0 f12
  replace O7_0 := Ow.no O7_0 f12
  replace O9_0 := OwR.no O9_0 f12
  replace N11_0 := OwR.no N11_0 f12
  replace fz := fz.no_trans f12
  refine ⟨fun e => ?_, fun e => ?_⟩
  · first | (simp at e; done) | (simp only [decide_eq_true_eq] at e; omega)
  (try simp only [decide_eq_false_iff_not] at e)
  refine g_markIntS O7_0 (by omega) _ (by omega) (by omega) _ fun h_14 N13_0 f13 => ⟨_, rfl, hL.iv f13 ⟨show b_2 < h_7.size ∨ h_8.size ≤ b_2 by omega, show b_1 < h_7.size ∨ h_8.size ≤ b_1 by omega, trivial⟩, ?_⟩
  replace hL := hL.iv f13 ⟨show b_2 < h_7.size ∨ h_8.size ≤ b_2 by omega, show b_1 < h_7.size ∨ h_8.size ≤ b_1 by omega, trivial⟩
  have z_f13 := f13.size
  replace G0 := RdR.iv G0 f13 (by omega)
  replace O3_0 := OwR.iv O3_0 f13 (by omega)
  replace O4_0 := RdI.iv O4_0 f13 (by omega)
  replace O9_0 := OwR.iv O9_0 f13 (by omega)
  replace N11_0 := OwR.iv N11_0 f13 (by omega)
  replace fz := fz.ivFresh f13 (by omega)
  refine g_heldIntS (Ow.rdI N13_0) (by omega) (by omega) (by omega) _ fun h_15 f14 => ⟨_, rfl, hL.of_no f14, ?_⟩
  replace hL := hL.of_no f14
  have z_f14 := f14.size
  replace G0 := RdR.no G0 f14
  replace O3_0 := OwR.no O3_0 f14
  replace O4_0 := RdI.no O4_0 f14
  replace O9_0 := OwR.no O9_0 f14
  replace N11_0 := OwR.no N11_0 f14
  replace N13_0 := Ow.no N13_0 f14
  replace fz := fz.no_trans f14
  refine ⟨fun e => ?_, fun e => ?_⟩
  · first | (simp at e; done) | (simp only [decide_eq_true_eq] at e; omega)
  (try simp only [decide_eq_false_iff_not] at e)
  refine ⟨fun e => ?_, fun e => ?_⟩
  · first | (simp at e; done) | (simp only [decide_eq_true_eq] at e; omega)
  (try simp only [decide_eq_false_iff_not] at e)
  refine g_toGraph G0 (by omega) _ fun u15_0 h_16 O15_0 f15 => ⟨u15_0, rfl, hL.of_no f15, ?_⟩
  replace hL := hL.of_no f15
  have z_f15 := f15.size
  replace G0 := RdR.no G0 f15
  replace O3_0 := OwR.no O3_0 f15
  replace O4_0 := RdI.no O4_0 f15
  replace O9_0 := OwR.no O9_0 f15
  replace N11_0 := OwR.no N11_0 f15
  replace N13_0 := Ow.no N13_0 f15
  replace fz := fz.no_trans f15
  refine k_EulerTour (OwR.rdI O15_0) _ _ fun u16_0 h_17 O16_0 f16 => ⟨u16_0, _, rfl, hL.of_no f16, ?_⟩
  replace hL := hL.of_no f16
  have z_f16 := f16.size
  replace G0 := RdR.no G0 f16
  replace O3_0 := OwR.no O3_0 f16
  replace O4_0 := RdI.no O4_0 f16
  replace O9_0 := OwR.no O9_0 f16
  replace N11_0 := OwR.no N11_0 f16
  replace N13_0 := Ow.no N13_0 f16
  replace O15_0 := OwR.no O15_0 f16
  replace fz := fz.no_trans f16
  refine g_eqIntS (Ow.rdI O16_0) O4_0 _ fun h_18 f17 => ⟨_, rfl, hL.of_no f17, ?_⟩
  replace hL := hL.of_no f17
  have z_f17 := f17.size
  replace G0 := RdR.no G0 f17
  replace O3_0 := OwR.no O3_0 f17
  replace O4_0 := RdI.no O4_0 f17
  replace O9_0 := OwR.no O9_0 f17
  replace N11_0 := OwR.no N11_0 f17
  replace N13_0 := Ow.no N13_0 f17
  replace O15_0 := OwR.no O15_0 f17
  replace O16_0 := Ow.no O16_0 f17
  replace fz := fz.no_trans f17
  refine ⟨fun e => ?_, fun e => ?_⟩
  · first | (simp at e; done) | (simp only [decide_eq_true_eq] at e; omega)
  (try simp only [decide_eq_false_iff_not] at e)
  refine ⟨fun e => ?_, fun e => ?_⟩
  · first | (simp at e; done) | (simp only [decide_eq_true_eq] at e; omega)
  (try simp only [decide_eq_false_iff_not] at e)
  refine g_heldIntS (Ow.rdI N13_0) (by omega) (by omega) (by omega) _ fun h_19 f18 => ⟨_, rfl, hL.of_no f18, ?_⟩
  replace hL := hL.of_no f18
  have z_f18 := f18.size
  replace G0 := RdR.no G0 f18
  replace O3_0 := OwR.no O3_0 f18
  replace O4_0 := RdI.no O4_0 f18
  replace O9_0 := OwR.no O9_0 f18
  replace N11_0 := OwR.no N11_0 f18
  replace N13_0 := Ow.no N13_0 f18
  replace O15_0 := OwR.no O15_0 f18
  replace O16_0 := Ow.no O16_0 f18
  replace fz := fz.no_trans f18
  refine ⟨fun e => ?_, fun e => ?_⟩
  · first | (simp at e; done) | (simp only [decide_eq_true_eq] at e; omega)
  (try simp only [decide_eq_false_iff_not] at e)
  refine ⟨fun e => ?_, fun e => ?_⟩
  · first | (simp at e; done) | (simp only [decide_eq_true_eq] at e; omega)
  (try simp only [decide_eq_false_iff_not] at e)
  exact HK _ fz
end Go.Proofs.YtkjkfjkapbpgiaaDoor
