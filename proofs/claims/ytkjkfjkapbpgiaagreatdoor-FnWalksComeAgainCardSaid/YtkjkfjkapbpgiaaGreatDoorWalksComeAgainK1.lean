import Derived.Test.YtkjkfjkapbpgiaaGreatDoorWalksComeAgainK0
set_option linter.unusedVariables false
set_option linter.unusedSimpArgs false
namespace Go.Proofs.YtkjkfjkapbpgiaaGreatDoor
open Go Go.Mx
def lenS (S : List (List Int)) : Nat -> Nat
  | 0 => 0
  | i + 1 => lenS S i + (S.getD i []).length
def InOK (g S : List (List Int)) (sink : Int) (I : List Bool) : Prop := ∀ x : Int, 0 ≤ x -> I.getD x.toNat false = true -> ∃ m, itf (sx g S) x m = sink /\ ∀ j, j ≤ m -> 0 ≤ itf (sx g S) x j /\ I.getD (itf (sx g S) x j).toNat false = true
structure WayOK (g S : List (List Int)) (I : List Bool) (way : List Int) : Prop where
  ne : way ≠ []
  nodup : way.Nodup
  rng : ∀ x, x ∈ way -> 0 ≤ x /\ x < (g.length : Int)
  chain : ∀ i, i + 1 < way.length -> sx g S (way.getD i 0) = way.getD (i + 1) 0
  out : ∀ i, i + 1 < way.length -> I.getD (way.getD i 0).toNat false = false
theorem InOK.keep {g S : List (List Int)} {sink : Int} {I : List Bool} (h : InOK g S sink I) {c : List Int} (hc : ∀ x, x ∈ c -> I.getD x.toNat false = false) : InOK g (popP S c) sink I := by
  intro x hx hI
  obtain ⟨m, e, hj⟩ := h x hx hI
  have key : ∀ j, j ≤ m -> itf (sx g (popP S c)) x j = itf (sx g S) x j := by
    intro j
    induction j with
    | zero => intro _; rfl
    | succ j ih =>
      intro hle
      rw [itf, itf, ih (by omega)]
      refine sx_pop fun hm => ?_
      have a := hc _ hm
      have b := (hj j (by omega)).2
      rw [a] at b; cases b
  exact ⟨m, by rw [key m (Nat.le_refl _)]; exact e, fun j hle => by rw [key j hle]; exact hj j hle⟩
theorem WayOK.itf {g S : List (List Int)} {I : List Bool} {way : List Int} (h : WayOK g S I way) {i : Nat} : ∀ j, i + j < way.length -> itf (sx g S) (way.getD i 0) j = way.getD (i + j) 0
  | 0, _ => rfl
  | j + 1, hl => by
    rw [Go.Proofs.YtkjkfjkapbpgiaaGreatDoor.itf, h.itf j (by omega), h.chain (i + j) (by omega)]
    rfl
theorem InOK.done {g S : List (List Int)} {sink : Int} {I : List Bool} (h : InOK g S sink I) (hs : (S.getD sink.toNat []).length = 0) (ha : ∀ i, i < g.length -> I.getD i false = true) : ∀ c, ¬ Cyc g S c := by
  intro c hc
  have hh := hc
  obtain ⟨p, k, hk, h0, h1, e, hm⟩ := hc
  obtain ⟨m, e', _⟩ := h p h0 (ha _ (by omega))
  have := hh.cl ((hm p).2 ⟨0, by omega, rfl⟩) m
  rw [e'] at this
  exact hh.top this hs
def dstP (g : List (List Int)) (rs : List Int) (q j : Nat) : Int := (g.getD q []).getD (((rs.getD q 0).toNat + j) % (g.getD q []).length) 0
def arrP (g : List (List Int)) (rs : List Int) (q : Nat) : Nat -> Nat -> Nat
  | 0, _ => 0
  | k + 1, p => arrP g rs q k p + (if dstP g rs q (k + 1) = (p : Int) then 1 else 0)
def sumN (f : Nat -> Nat) : Nat -> Nat
  | 0 => 0
  | n + 1 => sumN f n + f n
theorem sumN_congr {f f' : Nat -> Nat} : ∀ {n : Nat}, (∀ i, i < n -> f i = f' i) -> sumN f n = sumN f' n
  | 0, _ => rfl
  | n + 1, h => by rw [sumN, sumN, sumN_congr fun i hi => h i (by omega), h n (by omega)]
theorem sumN_le {f f' : Nat -> Nat} : ∀ {n : Nat}, (∀ i, i < n -> f i ≤ f' i) -> sumN f n ≤ sumN f' n
  | 0, _ => Nat.le_refl _
  | n + 1, h => by
    have := sumN_le (n := n) fun i hi => h i (by omega)
    have := h n (by omega)
    rw [sumN, sumN]; omega
theorem sumN_one {f f' : Nat -> Nat} {p d : Nat} (hp : f' p = f p + d) (ho : ∀ i, i ≠ p -> f' i = f i) : ∀ n, sumN f' n = sumN f n + (if p < n then d else 0)
  | 0 => by simp [sumN]
  | n + 1 => by
    rw [sumN, sumN, sumN_one hp ho n]
    by_cases e : n = p
    · subst e; rw [hp, if_neg (by omega), if_pos (by omega)]; omega
    · rw [ho n e]
      by_cases h : p < n
      · rw [if_pos h, if_pos (by omega)]; omega
      · rw [if_neg h, if_neg (by omega), Nat.add_zero, Nat.add_zero]
theorem sumN_eq {f f' : Nat -> Nat} : ∀ {n : Nat}, (∀ i, i < n -> f i ≤ f' i) -> sumN f' n ≤ sumN f n -> ∀ i, i < n -> f i = f' i
  | n + 1, h, hs, i, hi => by
    rw [sumN, sumN] at hs
    have h1 := sumN_le (n := n) fun i hi => h i (by omega)
    have h2 := h n (by omega)
    by_cases e : i = n
    · subst e; omega
    · exact sumN_eq (n := n) (fun i hi => h i (by omega)) (by omega) i (by omega)
def upC (c : Nat -> Nat) (p : Nat) : Nat -> Nat := fun i => if i = p then c i + 1 else c i
theorem upC_at (c : Nat -> Nat) (p : Nat) : upC c p p = c p + 1 := by unfold upC; rw [if_pos rfl]
theorem upC_ne (c : Nat -> Nat) {p i : Nat} (h : i ≠ p) : upC c p i = c i := by unfold upC; rw [if_neg h]
structure IsSt (g : List (List Int)) (l : Lo) (c : Nat -> Nat) (l' : Lo) : Prop where
  len1 : l'.1.length = g.length
  len2 : l'.2.length = g.length
  ex : ∀ q, q < g.length -> (g.getD q []).length = 0 -> c q = 0
  rot : ∀ q, q < g.length -> l'.1.getD q 0 = if (g.getD q []).length = 0 then l.1.getD q 0 else ((((l.1.getD q 0).toNat + c q) % (g.getD q []).length : Nat) : Int)
  chip : ∀ p, p < g.length -> l'.2.getD p 0 = l.2.getD p 0 - (c p : Int) + ((sumN (fun q => arrP g l.1 q (c q) p) g.length : Nat) : Int)
theorem ext_getD {xs ys : List Int} (hl : xs.length = ys.length) (h : ∀ i, i < xs.length -> xs.getD i 0 = ys.getD i 0) : xs = ys := by
  apply List.ext_getElem hl
  intro i h1 h2
  have := h i h1
  rwa [getD_getI h1, getD_getI h2] at this
theorem IsSt.same {g : List (List Int)} {l a b : Lo} {c c' : Nat -> Nat} (A : IsSt g l c a) (B : IsSt g l c' b) (hc : ∀ i, i < g.length -> c i = c' i) : a = b := by
  have h1 : a.1 = b.1 := ext_getD (by rw [A.len1, B.len1]) fun i hi => by
    rw [A.len1] at hi
    rw [A.rot i hi, B.rot i hi, hc i hi]
  have h2 : a.2 = b.2 := ext_getD (by rw [A.len2, B.len2]) fun i hi => by
    rw [A.len2] at hi
    rw [A.chip i hi, B.chip i hi, hc i hi, sumN_congr (f := fun q => arrP g l.1 q (c q) i) (f' := fun q => arrP g l.1 q (c' q) i) fun q hq => by simp only [hc q hq]]
  exact Prod.ext h1 h2
theorem LOK.rotN {g : List (List Int)} {m : Nat} {l : Lo} (L : LOK g m l) {q : Nat} (hq : q < g.length) : 0 ≤ l.1.getD q 0 /\ ((g.getD q []).length ≠ 0 -> (l.1.getD q 0).toNat < (g.getD q []).length) := by
  have hl : l.1.length = g.length := L.w.len
  have h1 : q < l.1.length := by omega
  have := L.w.rot q h1 hq
  simp only at this
  rw [getD_getI h1, List.getD_eq_getElem?_getD, List.getElem?_eq_getElem hq, Option.getD_some]
  exact ⟨this.1, fun hn => by omega⟩
theorem IsSt.init {g : List (List Int)} {m : Nat} {l : Lo} (L : LOK g m l) : IsSt g l (fun _ => 0) l := by
  refine ⟨L.w.len, L.len, fun _ _ _ => rfl, fun q hq => ?_, fun p hp => ?_⟩
  · obtain ⟨a, b⟩ := L.rotN hq
    split
    · rfl
    · rename_i hn
      rw [Nat.add_zero, Nat.mod_eq_of_lt (b hn)]
      omega
  · have : sumN (fun q => arrP g l.1 q ((fun _ => 0) q) p) g.length = 0 := by
      have : ∀ n, sumN (fun q => arrP g l.1 q ((fun _ => 0) q) p) n = 0 := by
        intro n
        induction n with
        | zero => rfl
        | succ n ih => rw [sumN, ih]; rfl
      exact this _
    rw [this]; simp
theorem getD_set {xs : List Int} {i j : Nat} {v : Int} (hi : i < xs.length) : (xs.set i v).getD j 0 = if j = i then v else xs.getD j 0 := by
  by_cases hj : j < xs.length
  · rw [getD_getI (by rw [List.length_set]; exact hj), List.getElem_set, getD_getI hj]
    by_cases e : i = j
    · rw [if_pos e, if_pos e.symm]
    · rw [if_neg e, if_neg fun h => e h.symm]
  · rw [if_neg (by omega), List.getD_eq_getElem?_getD, List.getElem?_eq_none (by rw [List.length_set]; omega), List.getD_eq_getElem?_getD, List.getElem?_eq_none (by omega)]
theorem mvP_at {g : List (List Int)} {m : Nat} {l : Lo} (L : LOK g m l) {p : Nat} (hp : p < g.length) (hn : (g.getD p []).length ≠ 0) : ∃ k : Nat, k = ((l.1.getD p 0).toNat + 1) % (g.getD p []).length /\ 0 ≤ (g.getD p []).getD k 0 /\ (g.getD p []).getD k 0 < (g.length : Int) /\ (mvP g l p).1 = l.1.set p (k : Int) /\ ∀ i, i < g.length -> (mvP g l p).2.getD i 0 = l.2.getD i 0 - (if i = p then 1 else 0) + (if (g.getD p []).getD k 0 = (i : Int) then 1 else 0) := by
  have hl : l.1.length = g.length := L.w.len
  have hl2 := L.len
  have W : WOK g (l.1, (p : Int)) := L.w.to (by omega) (by omega)
  have hs : stepP g (l.1, (p : Int)) = some (l.1.set p ((((l.1.getD p 0).toNat + 1) % (g.getD p []).length : Nat) : Int), (g.getD p []).getD (((l.1.getD p 0).toNat + 1) % (g.getD p []).length) 0) := by
    unfold stepP
    simp only [Int.toNat_natCast]
    rw [if_neg hn]
  have W' := W.step hs
  have h0 := W'.lo
  have h1 := W'.hi
  simp only at h0 h1
  refine ⟨_, rfl, h0, h1, ?_, fun i hi => ?_⟩
  · unfold mvP; rw [hs]
  · have e : (mvP g l p).2 = (l.2.set p (l.2.getD p 0 - 1)).set ((g.getD p []).getD (((l.1.getD p 0).toNat + 1) % (g.getD p []).length) 0).toNat ((l.2.set p (l.2.getD p 0 - 1)).getD ((g.getD p []).getD (((l.1.getD p 0).toNat + 1) % (g.getD p []).length) 0).toNat 0 + 1) := by
      unfold mvP; rw [hs]
      simp only [Int.toNat_natCast]
    rw [e]
    generalize (g.getD p []).getD (((l.1.getD p 0).toNat + 1) % (g.getD p []).length) 0 = d at *
    rw [getD_set (by rw [List.length_set]; omega), getD_set (by omega), getD_set (by omega)]
    by_cases hd : i = d.toNat
    · rw [if_pos hd, if_pos (show d = (i : Int) by omega), ← hd]
      by_cases hip : i = p
      · rw [if_pos hip, if_pos hip, hip]
      · rw [if_neg hip, if_neg hip]; omega
    · rw [if_neg hd, if_neg (show ¬ d = (i : Int) by omega)]
      by_cases hip : i = p
      · rw [if_pos hip, if_pos hip, hip]; omega
      · rw [if_neg hip, if_neg hip]; omega
theorem IsSt.mv {g : List (List Int)} {m : Nat} {l l' : Lo} {c : Nat -> Nat} (L0 : LOK g 0 l) (A : IsSt g l c l') (L : LOK g m l') {p : Nat} (hp : p < g.length) (hn : (g.getD p []).length ≠ 0) : IsSt g l (upC c p) (mvP g l' p) := by
  obtain ⟨k, ek, k0, k1, e1, e2⟩ := mvP_at L hp hn
  have hl := A.len1
  have hl2 := (mvP_len L (p := (p : Int)) (by omega) (by omega)).2
  have hr := A.rot p hp
  rw [if_neg hn] at hr
  have ek' : k = ((l.1.getD p 0).toNat + (c p + 1)) % (g.getD p []).length := by
    rw [ek, hr, Int.toNat_natCast, Nat.mod_add_mod, Nat.add_assoc]
  refine ⟨by rw [e1, List.length_set]; exact hl, hl2, fun q hq h => ?_, fun q hq => ?_, fun i hi => ?_⟩
  · have : q ≠ p := fun e => hn (e ▸ h)
    rw [upC_ne c this]; exact A.ex q hq h
  · rw [e1, getD_set (by omega)]
    by_cases e : q = p
    · subst e; rw [if_pos rfl, if_neg hn, upC_at, ek']
    · rw [if_neg e, upC_ne c e]; exact A.rot q hq
  · rw [e2 i hi, A.chip i hi]
    have hs := sumN_one (f := fun q => arrP g l.1 q (c q) i) (f' := fun q => arrP g l.1 q (upC c p q) i) (p := p) (d := if dstP g l.1 p (c p + 1) = (i : Int) then 1 else 0) (by simp only [upC_at, arrP]) (fun q hq => by simp only [upC_ne c hq]) g.length
    rw [hs, if_pos hp]
    have hd : dstP g l.1 p (c p + 1) = (g.getD p []).getD k 0 := by unfold dstP; rw [ek']
    rw [hd]
    have hc : (upC c p i : Int) = (c i : Int) + (if i = p then 1 else 0) := by
      by_cases e : i = p
      · subst e; rw [upC_at, if_pos rfl]; omega
      · rw [upC_ne c e, if_neg e]; omega
    rw [hc]
    split <;> split <;> omega
theorem arrP_mono {g : List (List Int)} {rs : List Int} {q p : Nat} {k : Nat} : ∀ d, arrP g rs q k p ≤ arrP g rs q (k + d) p
  | 0 => Nat.le_refl _
  | d + 1 => by
    have := arrP_mono (g := g) (rs := rs) (q := q) (p := p) (k := k) d
    rw [← Nat.add_assoc, arrP]; omega
def Leg (g : List (List Int)) (sink : Int) : List Int -> Lo -> Lo -> Prop
  | [], l, l' => l = l'
  | p :: w, l, l' => 0 ≤ p /\ p < (g.length : Int) /\ p ≠ sink /\ 1 ≤ l.2.getD p.toNat 0 /\ Leg g sink w (mvP g l p) l'
theorem Leg.append {g : List (List Int)} {sink : Int} : ∀ {w v : List Int} {l l' l'' : Lo}, Leg g sink w l l' -> Leg g sink v l' l'' -> Leg g sink (w ++ v) l l''
  | [], v, l, l', l'', h, h' => by rw [show l = l' from h]; exact h'
  | p :: w, v, l, l', l'', h, h' => ⟨h.1, h.2.1, h.2.2.1, h.2.2.2.1, h.2.2.2.2.append h'⟩
theorem Leg.rng {g : List (List Int)} {sink : Int} : ∀ {w : List Int} {l l' : Lo}, Leg g sink w l l' -> ∀ p, p ∈ w -> 0 ≤ p /\ p < (g.length : Int)
  | q :: w, l, l', h, p, hp => by
    rcases List.mem_cons.1 hp with e | e
    · rw [e]; exact ⟨h.1, h.2.1⟩
    · exact h.2.2.2.2.rng p e
theorem Leg.off {g : List (List Int)} {sink : Int} : ∀ {w : List Int} {l l' : Lo}, Leg g sink w l l' -> ∀ p, p ∈ w -> p ≠ sink
  | q :: w, l, l', h, p, hp => by
    rcases List.mem_cons.1 hp with e | e
    · rw [e]; exact h.2.2.1
    · exact h.2.2.2.2.off p e
def CntOK (n : Nat) (c : Nat -> Nat) (xs : List Int) : Prop := xs.length = n /\ ∀ i, i < n -> xs.getD i 0 = (c i : Int)
theorem CntOK.bump {n : Nat} {c : Nat -> Nat} {xs : List Int} (h : CntOK n c xs) {p : Nat} (hp : p < n) : CntOK n (upC c p) (Go.Proofs.YtkjkfjkapbpgiaaGreatDoor.bump xs p) := by
  refine ⟨by rw [bump_length]; exact h.1, fun i hi => ?_⟩
  unfold Go.Proofs.YtkjkfjkapbpgiaaGreatDoor.bump
  rw [getD_set (by rw [h.1]; exact hp)]
  by_cases e : i = p
  · subst e; rw [if_pos rfl, upC_at, h.2 i hi]; omega
  · rw [if_neg e, upC_ne c e, h.2 i hi]
theorem CntOK.same {n : Nat} {c d : Nat -> Nat} {xs ys : List Int} (h : CntOK n c xs) (h' : CntOK n d ys) (hc : ∀ i, i < n -> c i = d i) : xs = ys :=
  ext_getD (by rw [h.1, h'.1]) fun i hi => by
    rw [h.1] at hi
    rw [h.2 i hi, h'.2 i hi, hc i hi]
theorem CntOK.zero (n : Nat) : CntOK n (fun _ => 0) (List.replicate n 0) := ⟨by simp, fun i hi => by rw [getD_getI (by simpa using hi)]; simp⟩
def sq (g : List (List Int)) (s : St) : Nat -> Option St
  | 0 => some s
  | n + 1 => (sq g s n).bind (stepP g)
theorem sq_succ' (g : List (List Int)) {s s' : St} (h : stepP g s = some s') : ∀ n, sq g s (n + 1) = sq g s' n
  | 0 => by rw [sq, sq]; exact h
  | n + 1 => by rw [sq, sq_succ' g h n, sq]
theorem sq_add (g : List (List Int)) (s : St) (a : Nat) : ∀ b, sq g s (a + b) = (sq g s a).bind fun t => sq g t b
  | 0 => by rw [Nat.add_zero]; cases sq g s a <;> rfl
  | b + 1 => by
    rw [← Nat.add_assoc, sq, sq_add g s a b]
    cases sq g s a <;> rfl
theorem sq_shift {g : List (List Int)} {s : St} {a b : Nat} (h : sq g s a = sq g s b) (k : Nat) : sq g s (a + k) = sq g s (b + k) := by
  rw [sq_add, sq_add, h]
theorem sq_none {g : List (List Int)} {s : St} {a : Nat} (h : sq g s a = none) (k : Nat) : sq g s (a + k) = none := by
  rw [sq_add, h]; rfl
structure Rho (g : List (List Int)) (s : St) (m n : Nat) : Prop where
  lt : m < n
  eq : sq g s m = sq g s n
  some : sq g s m ≠ none
  dis : ∀ i j, i < j -> j < n -> sq g s i ≠ sq g s j
theorem rho_of {g : List (List Int)} {s : St} : ∀ (b : Nat) {a : Nat}, a < b -> sq g s a = sq g s b -> sq g s a ≠ none -> ∃ m n, n ≤ b /\ Rho g s m n := by
  intro b
  induction b using Nat.strongRecOn with
  | ind b ih =>
    intro a h1 h2 h3
    by_cases hx : ∃ i j, i < j /\ j < b /\ sq g s i = sq g s j
    · obtain ⟨i, j, x1, x2, x3⟩ := hx
      obtain ⟨m, n, y1, y2⟩ := ih j x2 x1 x3 (fun hn => by
        have e0 : i ≤ a ∨ a < i := by omega
        have := sq_none hn (b - i)
        rw [show i + (b - i) = b by omega, ← h2] at this
        exact h3 this)
      exact ⟨m, n, by omega, y2⟩
    · exact ⟨a, b, Nat.le_refl _, h1, h2, h3, fun i j x1 x2 x3 => hx ⟨i, j, x1, x2, x3⟩⟩
theorem Rho.mul {g : List (List Int)} {s : St} {m n : Nat} (R : Rho g s m n) {a : Nat} (h : m ≤ a) : ∀ k, sq g s (a + k * (n - m)) = sq g s a
  | 0 => by rw [Nat.zero_mul, Nat.add_zero]
  | k + 1 => by
    have := sq_shift R.eq (a + k * (n - m) - m)
    have hlt := R.lt
    rw [show m + (a + k * (n - m) - m) = a + k * (n - m) by omega, R.mul h k] at this
    rw [this, Nat.succ_mul]
    congr 1; omega
theorem Rho.all {g : List (List Int)} {s : St} {m n : Nat} (R : Rho g s m n) (a : Nat) : sq g s a ≠ none := by
  intro h
  have h1 := sq_none h (m + a * (n - m))
  have hlt := R.lt
  have h2 := R.mul (a := m) (Nat.le_refl _) a
  have : a ≤ a * (n - m) := Nat.le_mul_of_pos_right _ (by omega)
  have h3 := sq_none h (m + a * (n - m) - a)
  rw [show a + (m + a * (n - m) - a) = m + a * (n - m) by omega, h2] at h3
  exact R.some h3
theorem Rho.rep {g : List (List Int)} {s : St} {m n : Nat} (R : Rho g s m n) {a : Nat} (h : m ≤ a) : sq g s (m + (a - m) % (n - m)) = sq g s a /\ m + (a - m) % (n - m) < n := by
  have hlt := R.lt
  have h1 := Nat.mod_add_div (a - m) (n - m)
  have h2 := R.mul (a := m + (a - m) % (n - m)) (by omega) ((a - m) / (n - m))
  rw [Nat.mul_comm] at h1
  rw [show m + (a - m) % (n - m) + (a - m) / (n - m) * (n - m) = a by omega] at h2
  have h3 := Nat.mod_lt (a - m) (show n - m > 0 by omega)
  exact ⟨h2.symm, by omega⟩
theorem Rho.iff {g : List (List Int)} {s : St} {m n : Nat} (R : Rho g s m n) {a b : Nat} (h : a < b) : sq g s a = sq g s b ↔ m ≤ a /\ (b - a) % (n - m) = 0 := by
  have hlt := R.lt
  constructor
  · intro e
    have ha : m ≤ a := by
      refine Nat.not_lt.1 fun hl => ?_
      by_cases hb : b < n
      · exact R.dis a b h hb e
      · obtain ⟨r1, r2⟩ := R.rep (a := b) (by omega)
        exact R.dis a _ (by omega) r2 (e.trans r1.symm)
    refine ⟨ha, ?_⟩
    obtain ⟨r1, r2⟩ := R.rep (a := b) (by omega)
    obtain ⟨q1, q2⟩ := R.rep ha
    have hr : (a - m) % (n - m) = (b - m) % (n - m) := by
      rcases Nat.lt_trichotomy ((a - m) % (n - m)) ((b - m) % (n - m)) with x | x | x
      · exact absurd (q1.trans (e.trans r1.symm)) (R.dis _ _ (by omega) r2)
      · exact x
      · exact absurd (r1.trans (e.symm.trans q1.symm)) (R.dis _ _ (by omega) q2)
    have := Nat.sub_mod_eq_zero_of_mod_eq hr.symm
    rwa [show b - m - (a - m) = b - a by omega] at this
  · rintro ⟨h1, h2⟩
    have h3 := Nat.mod_add_div (b - a) (n - m)
    rw [h2, Nat.zero_add, Nat.mul_comm] at h3
    have := R.mul h1 ((b - a) / (n - m))
    rw [h3, show a + (b - a) = b by omega] at this
    exact this.symm
theorem Rho.uniq {g : List (List Int)} {s : St} {m n m' n' : Nat} (R : Rho g s m n) (R' : Rho g s m' n') : m = m' /\ n = n' := by
  have h1 := R.lt
  have h2 := R'.lt
  have hn : n = n' := by
    rcases Nat.lt_trichotomy n n' with x | x | x
    · exact absurd R.eq (R'.dis m n h1 x)
    · exact x
    · exact absurd R'.eq (R.dis m' n' h2 x)
  subst hn
  refine ⟨?_, rfl⟩
  rcases Nat.lt_trichotomy m m' with x | x | x
  · exact absurd (R.eq.trans R'.eq.symm) (R.dis m m' x h2)
  · exact x
  · exact absurd (R'.eq.trans R.eq.symm) (R.dis m' m x h1)
theorem Rho.meets {g : List (List Int)} {s : St} {m n : Nat} (R : Rho g s m n) : ∃ k, 1 ≤ k /\ k ≤ n /\ m ≤ k /\ sq g s k = sq g s (2 * k) := by
  have hlt := R.lt
  have h1 := Nat.mod_add_div m (n - m)
  have h3 := Nat.mod_lt m (show n - m > 0 by omega)
  by_cases h0 : m % (n - m) = 0 /\ 1 ≤ m
  · refine ⟨m, h0.2, by omega, Nat.le_refl _, (R.iff (by omega)).2 ⟨Nat.le_refl _, ?_⟩⟩
    rw [show 2 * m - m = m by omega]; exact h0.1
  · have hk : (n - m) * (m / (n - m) + 1) = (n - m) * (m / (n - m)) + (n - m) := by rw [Nat.mul_succ]
    refine ⟨(n - m) * (m / (n - m) + 1), by omega, ?_, by omega, ?_⟩
    · by_cases hm : m = 0
      · subst hm
        simp at hk ⊢
      · have : m % (n - m) ≠ 0 := fun e => h0 ⟨e, by omega⟩
        omega
    · refine (R.iff (by omega)).2 ⟨by omega, ?_⟩
      rw [show 2 * ((n - m) * (m / (n - m) + 1)) - (n - m) * (m / (n - m) + 1) = (n - m) * (m / (n - m) + 1) by omega]
      exact Nat.mul_mod_right _ _
def idxL : List St -> St -> Option Nat
  | [], _ => none
  | x :: xs, s => if x = s then some 0 else (idxL xs s).map (· + 1)
theorem idxL_some : ∀ {hs : List St} {s : St} {m : Nat}, idxL hs s = some m -> hs[m]? = some s
  | [], s, m, h => by simp [idxL] at h
  | x :: xs, s, m, h => by
    rw [idxL] at h
    split at h
    · rename_i e
      simp only [Option.some.injEq] at h
      rw [← h, e]; rfl
    · cases hm : idxL xs s with
      | none => rw [hm] at h; simp at h
      | some k =>
        rw [hm] at h
        simp only [Option.map_some, Option.some.injEq] at h
        rw [← h, List.getElem?_cons_succ]
        exact idxL_some hm
theorem idxL_none : ∀ {hs : List St} {s : St}, idxL hs s = none -> s ∉ hs
  | [], s, _ => by simp
  | x :: xs, s, h => by
    rw [idxL] at h
    split at h
    · cases h
    · rename_i e
      cases hm : idxL xs s with
      | none =>
        intro hx
        rcases List.mem_cons.1 hx with a | a
        · exact e a.symm
        · exact idxL_none hm a
      | some k => rw [hm] at h; simp at h
def perL (g : List (List Int)) : Nat -> Nat -> St -> List St -> Int × Int × Bool
  | 0, _, _, _ => (0, 0, false)
  | f + 1, n, s, hs => match idxL hs s with
    | some m => ((m : Int), (n : Int) - m, true)
    | none => match stepP g s with
      | none => (0, 0, false)
      | some s' => perL g f (n + 1) s' (hs ++ [s])
structure Hist (g : List (List Int)) (s0 : St) (n : Nat) (s : St) (hs : List St) : Prop where
  len : hs.length = n
  at_ : ∀ i, i < n -> hs[i]? = sq g s0 i
  now : sq g s0 n = some s
  dis : ∀ i j, i < j -> j < n -> sq g s0 i ≠ sq g s0 j
theorem Hist.init (g : List (List Int)) (s0 : St) : Hist g s0 0 s0 [] := ⟨rfl, fun i h => by omega, rfl, fun i j _ h => by omega⟩
theorem Hist.next {g : List (List Int)} {s0 s s' : St} {n : Nat} {hs : List St} (H : Hist g s0 n s hs) (h : idxL hs s = none) (hs' : stepP g s = some s') : Hist g s0 (n + 1) s' (hs ++ [s]) := by
  refine ⟨by rw [List.length_append, H.len]; rfl, fun i hi => ?_, by rw [sq, H.now]; exact hs', fun i j h1 h2 => ?_⟩
  · by_cases e : i = n
    · subst e
      rw [List.getElem?_append_right (by rw [H.len]; exact Nat.le_refl _), H.len, Nat.sub_self, H.now]; rfl
    · rw [List.getElem?_append_left (by rw [H.len]; omega)]
      exact H.at_ i (by omega)
  · by_cases e : j = n
    · subst e
      intro he
      rw [H.now, ← H.at_ i h1] at he
      exact idxL_none h (List.mem_of_getElem? he)
    · exact H.dis i j h1 (by omega)
theorem perL_yes {g : List (List Int)} {s0 : St} {m k : Nat} (R : Rho g s0 m k) : ∀ (f n : Nat) (s : St) (hs : List St), Hist g s0 n s hs -> n ≤ k -> k < n + f -> perL g f n s hs = ((m : Int), (k : Int) - m, true)
  | 0, n, s, hs, H, h1, h2 => by omega
  | f + 1, n, s, hs, H, h1, h2 => by
    rw [perL]
    cases hi : idxL hs s with
    | some i =>
      have h3 := idxL_some hi
      have hil : i < n := by
        refine Nat.not_le.1 fun hle => ?_
        rw [List.getElem?_eq_none (by rw [H.len]; exact hle)] at h3; cases h3
      rw [H.at_ i hil, ← H.now] at h3
      have R' : Rho g s0 i n := ⟨hil, h3, by rw [h3, H.now]; simp, H.dis⟩
      obtain ⟨a, b⟩ := R.uniq R'
      rw [a, b]
    | none =>
      cases hs' : stepP g s with
      | none =>
        exfalso
        have := R.all (n + 1)
        rw [sq, H.now] at this
        exact this hs'
      | some s' =>
        have hne : n ≠ k := by
          rintro rfl
          have h3 := R.eq
          rw [H.now, ← H.at_ m R.lt] at h3
          exact idxL_none hi (List.mem_of_getElem? h3)
        exact perL_yes R f (n + 1) s' _ (H.next hi hs') (by omega) (by omega)
theorem perL_no {g : List (List Int)} {s0 : St} : ∀ (f n : Nat) (s : St) (hs : List St), Hist g s0 n s hs -> (∀ m k, Rho g s0 m k -> n + f ≤ k) -> perL g f n s hs = (0, 0, false)
  | 0, n, s, hs, H, h => rfl
  | f + 1, n, s, hs, H, h => by
    rw [perL]
    cases hi : idxL hs s with
    | some i =>
      have h3 := idxL_some hi
      have hil : i < n := by
        refine Nat.not_le.1 fun hle => ?_
        rw [List.getElem?_eq_none (by rw [H.len]; exact hle)] at h3; cases h3
      rw [H.at_ i hil, ← H.now] at h3
      have := h i n ⟨hil, h3, by rw [h3, H.now]; simp, H.dis⟩
      omega
    | none =>
      cases hs' : stepP g s with
      | none => rfl
      | some s' => exact perL_no f (n + 1) s' _ (H.next hi hs') fun m k R => by have := h m k R; omega
def perP (g : List (List Int)) (s : St) : Int × Int × Bool := perL g 2001 0 s []
theorem perP_yes {g : List (List Int)} {s : St} {m k : Nat} (R : Rho g s m k) (h : k ≤ 2000) : perP g s = ((m : Int), (k : Int) - m, true) := perL_yes R 2001 0 s [] (Hist.init g s) (Nat.zero_le _) (by omega)
theorem perP_no {g : List (List Int)} {s : St} (h : ∀ m k, Rho g s m k -> 2000 < k) : perP g s = (0, 0, false) := perL_no 2001 0 s [] (Hist.init g s) fun m k R => by have := h m k R; omega
def unitL (n : Nat) (a : Int) : List Int := (List.range n).map fun (i : Nat) => if (i : Int) = a then (1 : Int) else 0
def ldOf (g : List (List Int)) (s : St) : Lo := (s.1, unitL g.length s.2)
theorem unit_len (n : Nat) (a : Int) : (unitL n a).length = n := by simp [unitL]
theorem unit_get {n : Nat} {a : Int} {i : Nat} (h : i < n) : (unitL n a).getD i 0 = if (i : Int) = a then 1 else 0 := by
  rw [getD_getI (by rw [unit_len]; exact h)]
  simp [unitL]
theorem ld_ok {g : List (List Int)} {s : St} (W : WOK g s) : LOK g 0 (ldOf g s) := by
  have h0 := W.lo
  have h1 := W.hi
  refine ⟨⟨W.graph, W.len, Int.le_refl _, by simp only; omega, W.rot⟩, unit_len _ _, fun c hc => ?_⟩
  unfold ldOf unitL at hc
  simp only [List.mem_map] at hc
  obtain ⟨i, _, rfl⟩ := hc
  split <;> omega
theorem step_ex {g : List (List Int)} {s s' : St} (W : WOK g s) (h : stepP g s = some s') : (g.getD s.2.toNat []).length ≠ 0 /\ s'.1 = s.1.set s.2.toNat ((((s.1.getD s.2.toNat 0).toNat + 1) % (g.getD s.2.toNat []).length : Nat) : Int) /\ s'.2 = (g.getD s.2.toNat []).getD (((s.1.getD s.2.toNat 0).toNat + 1) % (g.getD s.2.toNat []).length) 0 := by
  unfold stepP at h
  split at h
  · cases h
  · rename_i hn
    simp only [Option.some.injEq] at h
    rw [← h]
    exact ⟨hn, rfl, rfl⟩
theorem ld_step {g : List (List Int)} {s s' : St} (W : WOK g s) (h : stepP g s = some s') : mvP g (ldOf g s) s.2 = ldOf g s' := by
  obtain ⟨hn, e1, e2⟩ := step_ex W h
  have h0 := W.lo
  have h1 := W.hi
  have ep : ((s.2.toNat : Nat) : Int) = s.2 := by omega
  obtain ⟨k, ek, k0, k1, f1, f2⟩ := mvP_at (ld_ok W) (p := s.2.toNat) (by omega) hn
  rw [ep] at f1 f2
  have ek' : k = ((s.1.getD s.2.toNat 0).toNat + 1) % (g.getD s.2.toNat []).length := ek
  have hl := (mvP_len (ld_ok W) h0 h1).2
  refine Prod.ext ?_ (ext_getD (by rw [hl]; exact (unit_len _ _).symm) fun i hi => ?_)
  · rw [f1]
    show s.1.set s.2.toNat (k : Int) = s'.1
    rw [e1, ek']
  · rw [hl] at hi
    rw [f2 i hi]
    unfold ldOf
    simp only
    rw [unit_get hi, unit_get hi, e2, ← ek']
    by_cases a : i = s.2.toNat
    · rw [if_pos a, if_pos (show (i : Int) = s.2 by omega)]
      by_cases b : (g.getD s.2.toNat []).getD k 0 = (i : Int)
      · rw [if_pos b, if_pos b.symm]; omega
      · rw [if_neg b, if_neg fun e => b e.symm]; omega
    · rw [if_neg a, if_neg (show ¬ (i : Int) = s.2 by omega)]
      by_cases b : (g.getD s.2.toNat []).getD k 0 = (i : Int)
      · rw [if_pos b, if_pos b.symm]; omega
      · rw [if_neg b, if_neg fun e => b e.symm]; omega
def posA (g : List (List Int)) (s : St) (i : Nat) : Int := match sq g s i with
  | some t => t.2
  | none => -1
def cntA (g : List (List Int)) (s : St) : Nat -> Nat -> Nat
  | 0, _ => 0
  | n + 1, p => cntA g s n p + (if posA g s n = (p : Int) then 1 else 0)
theorem sq_wok {g : List (List Int)} {s : St} (W : WOK g s) : ∀ {n : Nat} {t : St}, sq g s n = some t -> WOK g t
  | 0, t, h => by simp only [sq, Option.some.injEq] at h; rw [← h]; exact W
  | n + 1, t, h => by
    rw [sq] at h
    cases hn : sq g s n with
    | none => rw [hn] at h; cases h
    | some u => rw [hn] at h; exact (sq_wok W hn).step h
theorem posA_eq {g : List (List Int)} {s t : St} {n : Nat} (h : sq g s n = some t) : posA g s n = t.2 := by unfold posA; rw [h]
theorem run_st {g : List (List Int)} {s : St} (W : WOK g s) : ∀ {n : Nat} {t : St}, sq g s n = some t -> IsSt g (ldOf g s) (cntA g s n) (ldOf g t)
  | 0, t, h => by
    simp only [sq, Option.some.injEq] at h
    rw [← h]
    exact IsSt.init (ld_ok W)
  | n + 1, t, h => by
    rw [sq] at h
    cases hn : sq g s n with
    | none => rw [hn] at h; cases h
    | some u =>
      rw [hn] at h
      have Wu := sq_wok W hn
      have h : stepP g u = some t := h
      have h0 := Wu.lo
      have h1 := Wu.hi
      have A := (run_st W hn).mv (ld_ok W) (ld_ok Wu) (p := u.2.toNat) (by omega) (step_ex Wu h).1
      rw [show ((u.2.toNat : Nat) : Int) = u.2 by omega, ld_step Wu h] at A
      have : upC (cntA g s n) u.2.toNat = cntA g s (n + 1) := by
        funext i
        unfold upC
        rw [cntA, posA_eq hn]
        by_cases e : i = u.2.toNat
        · rw [if_pos e, if_pos (show u.2 = (i : Int) by omega)]
        · rw [if_neg e, if_neg (show ¬ u.2 = (i : Int) by omega)]; rfl
      rw [← this]; exact A
theorem cntA_mono {g : List (List Int)} {s : St} {p a : Nat} : ∀ d, cntA g s a p ≤ cntA g s (a + d) p
  | 0 => Nat.le_refl _
  | d + 1 => by have := cntA_mono (g := g) (s := s) (p := p) (a := a) d; rw [← Nat.add_assoc, cntA]; omega
theorem cntA_sum {g : List (List Int)} {s : St} : ∀ {n : Nat}, (∀ i, i < n -> 0 ≤ posA g s i /\ posA g s i < (g.length : Int)) -> sumN (cntA g s n) g.length = n
  | 0, _ => by
    have : ∀ m, sumN (cntA g s 0) m = 0 := by
      intro m
      induction m with
      | zero => rfl
      | succ m ih => rw [sumN, ih]; rfl
    exact this _
  | n + 1, h => by
    have hn := h n (by omega)
    rw [sumN_one (f := cntA g s n) (p := (posA g s n).toNat) (d := 1) (by rw [cntA, if_pos (by omega)]) (fun i hi => by rw [cntA, if_neg (by omega)]; rfl), if_pos (by omega), cntA_sum fun i hi => h i (by omega)]
def arrH (xs : List Int) (p : Nat) (j : Nat) : Nat := if xs.getD (j % xs.length) 0 = (p : Int) then 1 else 0
theorem arr_sum {g : List (List Int)} {rs : List Int} {q p : Nat} : ∀ k, arrP g rs q k p = sumN (fun j => arrH (g.getD q []) p ((rs.getD q 0).toNat + 1 + j)) k
  | 0 => rfl
  | k + 1 => by
    rw [arrP, sumN, arr_sum k]
    unfold dstP arrH
    rw [show (rs.getD q 0).toNat + 1 + k = (rs.getD q 0).toNat + (k + 1) by omega]
theorem sumN_shift (h : Nat -> Nat) : ∀ n, sumN (fun j => h (j + 1)) n + h 0 = sumN h (n + 1)
  | 0 => by simp [sumN]
  | n + 1 => by rw [sumN, sumN, ← sumN_shift h n]; omega
theorem turn_sum {h : Nat -> Nat} {d : Nat} (hp : ∀ j, h (j + d) = h j) : ∀ r, sumN (fun j => h (r + j)) d = sumN h d
  | 0 => sumN_congr fun i _ => by (try simp only); rw [Nat.zero_add]
  | r + 1 => by
    rw [← turn_sum hp r]
    have e1 : sumN (fun j => h (r + (j + 1))) d + h (r + 0) = sumN (fun j => h (r + j)) d + h (r + d) := sumN_shift (fun j => h (r + j)) d
    have e2 : sumN (fun j => h (r + (j + 1))) d = sumN (fun j => h (r + 1 + j)) d := sumN_congr fun i _ => by (try simp only); rw [show r + (i + 1) = r + 1 + i by omega]
    have e3 := hp r
    have e0 : h (r + 0) = h r := rfl
    omega
theorem cnt_list : ∀ (xs : List Int) (p : Nat), sumN (fun j => if xs.getD j 0 = (p : Int) then 1 else 0) xs.length = xs.count (p : Int) := by
  intro xs p
  have key : ∀ i, i ≤ xs.length -> sumN (fun j => if xs.getD j 0 = (p : Int) then 1 else 0) i = (xs.take i).count (p : Int) := by
    intro i
    induction i with
    | zero => intro _; simp [sumN]
    | succ i ih =>
      intro h
      rw [sumN, ih (by omega), List.take_add_one, List.getElem?_eq_getElem (by omega), List.count_append, getD_getI (by omega)]
      simp only [Option.toList_some, List.count_cons, List.count_nil, Nat.zero_add, beq_iff_eq]
  have := key xs.length (Nat.le_refl _)
  rwa [List.take_length] at this
theorem arr_full {g : List (List Int)} {rs : List Int} {q p : Nat} : arrP g rs q (g.getD q []).length p = (g.getD q []).count (p : Int) := by
  rw [arr_sum, turn_sum (h := arrH (g.getD q []) p) (d := (g.getD q []).length) (fun j => by unfold arrH; rw [Nat.add_mod_right]) ((rs.getD q 0).toNat + 1), ← cnt_list]
  exact sumN_congr fun i hi => by unfold arrH; rw [Nat.mod_eq_of_lt hi]
def StrongP (g : List (List Int)) : Prop := ∀ V : Nat -> Prop, (∀ q, q < g.length -> V q -> ∀ t, t ∈ g.getD q [] -> V t.toNat) -> ∀ p q, p < g.length -> q < g.length -> V p -> V q
def BalP (g : List (List Int)) : Prop := ∀ p, p < g.length -> sumN (fun q => (g.getD q []).count (p : Int)) g.length = (g.getD p []).length
def degN (g : List (List Int)) (p : Nat) : Nat := (g.getD p []).length
section
variable {g : List (List Int)} {s : St}
theorem chipE (W : WOK g s) {n : Nat} {t : St} (h : sq g s n = some t) {p : Nat} (hp : p < g.length) : (if (p : Int) = t.2 then (1 : Int) else 0) = (if (p : Int) = s.2 then 1 else 0) - (cntA g s n p : Int) + ((sumN (fun q => arrP g s.1 q (cntA g s n q) p) g.length : Nat) : Int) := by
  have := (run_st W h).chip p hp
  unfold ldOf at this
  simp only at this
  rw [unit_get hp, unit_get hp] at this
  exact this
theorem rotE (W : WOK g s) {n : Nat} {t : St} (h : sq g s n = some t) {q : Nat} (hq : q < g.length) (hn : degN g q ≠ 0) : t.1.getD q 0 = ((((s.1.getD q 0).toNat + cntA g s n q) % degN g q : Nat) : Int) := by
  have := (run_st W h).rot q hq
  unfold degN at hn
  rw [if_neg hn] at this
  exact this
theorem sumN_ge {f : Nat -> Nat} {q : Nat} : ∀ {n : Nat}, q < n -> f q ≤ sumN f n
  | n + 1, h => by
    rw [sumN]
    by_cases e : q = n
    · subst e; omega
    · have := sumN_ge (f := f) (n := n) (q := q) (by omega); omega
theorem all_left (W : WOK g s) (hs : StrongP g) (hd : ∀ p, p < g.length -> degN g p ≠ 0) {n : Nat} (hn : 1 ≤ n) (h : sq g s n = some s) : ∀ q, q < g.length -> degN g q ≤ cntA g s n q := by
  have h0 := W.lo
  have h1 := W.hi
  have hdiv : ∀ q, q < g.length -> 1 ≤ cntA g s n q -> degN g q ≤ cntA g s n q := by
    intro q hq hc
    have hr := rotE W h hq (hd q hq)
    have hrn := (ld_ok W).rotN hq
    have hrn1 : 0 ≤ s.1.getD q 0 := hrn.1
    have hrn2 : (s.1.getD q 0).toNat < degN g q := hrn.2 (hd q hq)
    refine Nat.not_lt.1 fun hlt => ?_
    have e : (s.1.getD q 0).toNat = ((s.1.getD q 0).toNat + cntA g s n q) % degN g q := by omega
    by_cases hx : (s.1.getD q 0).toNat + cntA g s n q < degN g q
    · rw [Nat.mod_eq_of_lt hx] at e; omega
    · rw [Nat.mod_eq_sub_mod (by omega), Nat.mod_eq_of_lt (by omega)] at e; omega
  have hv := hs (fun q => 1 ≤ cntA g s n q) (fun q hq hc t ht => by
    have ht' := (graph_mem W.graph (List.getElem_mem hq)).2
    rw [List.getD_eq_getElem?_getD, List.getElem?_eq_getElem hq, Option.getD_some] at ht
    have htr := ht' t ht
    have hc' := chipE W h (p := t.toNat) (by omega)
    have ha := arrP_mono (g := g) (rs := s.1) (q := q) (p := t.toNat) (k := degN g q) (cntA g s n q - degN g q)
    rw [show degN g q + (cntA g s n q - degN g q) = cntA g s n q by have := hdiv q hq hc; omega] at ha
    have hf := arr_full (g := g) (rs := s.1) (q := q) (p := t.toNat)
    have hcount : 1 ≤ (g.getD q []).count ((t.toNat : Nat) : Int) := by
      rw [show ((t.toNat : Nat) : Int) = t by omega]
      refine List.count_pos_iff.2 ?_
      rw [List.getD_eq_getElem?_getD, List.getElem?_eq_getElem hq, Option.getD_some]
      exact ht
    have hsum := sumN_ge (f := fun q => arrP g s.1 q (cntA g s n q) t.toNat) (n := g.length) hq
    (try simp only at hsum)
    unfold degN at ha
    omega) s.2.toNat
  intro q hq
  refine hdiv q hq (hv q (by omega) hq ?_)
  have := cntA_mono (g := g) (s := s) (p := s.2.toNat) (a := 1) (n - 1)
  rw [show 1 + (n - 1) = n by omega] at this
  have h1 : cntA g s 1 s.2.toNat = 1 := by
    rw [cntA, posA_eq (show sq g s 0 = some s from rfl), if_pos (by omega)]
    rfl
  omega
theorem uni_back (W : WOK g s) {n : Nat} (h : sq g s n = some s) : ∀ (d i : Nat), i + d = n -> ∀ j, i ≤ j -> j < n -> ∃ k, itx g s.1 (posA g s j) k = s.2
  | 0, i, hi, j, h1, h2 => by omega
  | d + 1, i, hi, j, h1, h2 => by
    have ih := uni_back W h d (i + 1) (by omega)
    by_cases hj : i + 1 ≤ j
    · exact ih j hj h2
    · have hji : j = i := by omega
      subst hji
      by_cases hl : ∃ m, j + 1 ≤ m /\ m < n /\ posA g s m = posA g s j
      · obtain ⟨m, m1, m2, m3⟩ := hl
        obtain ⟨k, hk⟩ := ih m m1 m2
        exact ⟨k, by rw [← m3]; exact hk⟩
      · cases hu : sq g s j with
        | none =>
          have := sq_none hu (n - j)
          rw [show j + (n - j) = n by omega, h] at this
          cases this
        | some u =>
          have Wu := sq_wok W hu
          have u0 := Wu.lo
          have u1 := Wu.hi
          cases hv : stepP g u with
          | none =>
            have h3 : sq g s (j + 1) = none := by rw [sq, hu]; exact hv
            have := sq_none h3 (n - (j + 1))
            rw [show j + 1 + (n - (j + 1)) = n by omega, h] at this
            cases this
          | some v =>
            have hsv : sq g s (j + 1) = some v := by rw [sq, hu]; exact hv
            obtain ⟨e0, e1, e2⟩ := step_ex Wu hv
            have hp := posA_eq hu
            have hsame : ∀ m, j + 1 ≤ m -> m ≤ n -> cntA g s m u.2.toNat = cntA g s (j + 1) u.2.toNat := by
              intro m
              induction m with
              | zero => intro a; omega
              | succ m ihm =>
                intro a b
                by_cases e : m + 1 = j + 1
                · rw [e]
                · rw [cntA, ihm (by omega) (by omega), if_neg]
                  · rfl
                  · intro e'
                    exact hl ⟨m, by omega, by omega, by rw [hp]; omega⟩
            have r1 := rotE W h (q := u.2.toNat) (by omega) e0
            have r2 := rotE W hsv (q := u.2.toNat) (by omega) e0
            rw [hsame n (by omega) (Nat.le_refl _), ← r2, e1, getD_set (by have := Wu.len; omega), if_pos rfl] at r1
            have hnx : nx g s.1 u.2 = v.2 := by
              unfold nx
              rw [if_neg (by omega), if_neg e0, r1, e2, Int.toNat_natCast]
            by_cases hlast : j + 1 = n
            · refine ⟨1, ?_⟩
              rw [hp, itx, itx, hnx]
              rw [hlast, h] at hsv
              simp only [Option.some.injEq] at hsv
              rw [hsv]
            · obtain ⟨k, hk⟩ := ih (j + 1) (Nat.le_refl _) (by omega)
              rw [posA_eq hsv] at hk
              refine ⟨k + 1, ?_⟩
              rw [hp]
              have itx_head : ∀ m, itx g s.1 u.2 (m + 1) = itx g s.1 (nx g s.1 u.2) m := by
                intro m
                induction m with
                | zero => rfl
                | succ m ihm => rw [itx, ihm, itx]
              rw [itx_head, hnx, hk]
theorem all_done (W : WOK g s) (hb : BalP g) (hd : ∀ p, p < g.length -> degN g p ≠ 0) (hu : ∀ q : Nat, q < g.length -> ∃ k, itx g s.1 q k = s.2) {T : Nat} {t : St} (h : sq g s T = some t) (hle : ∀ q, q < g.length -> cntA g s T q ≤ degN g q) (hp : cntA g s T t.2.toNat = degN g t.2.toNat) : ∀ q, q < g.length -> cntA g s T q = degN g q := by
  have Wt := sq_wok W h
  have t0 := Wt.lo
  have t1 := Wt.hi
  have hm : ∀ x q, q < g.length -> arrP g s.1 q (cntA g s T q) x ≤ (g.getD q []).count (x : Int) := fun x q hq => by
    rw [← arr_full (rs := s.1)]
    have := arrP_mono (g := g) (rs := s.1) (q := q) (p := x) (k := cntA g s T q) (degN g q - cntA g s T q)
    rw [show cntA g s T q + (degN g q - cntA g s T q) = degN g q by have := hle q hq; omega] at this
    exact this
  have e1 := chipE W h (p := t.2.toNat) (by omega)
  rw [if_pos (show ((t.2.toNat : Nat) : Int) = t.2 by omega), hp] at e1
  have e2 := hb t.2.toNat (by omega)
  have e3 := sumN_le (n := g.length) (f := fun q => arrP g s.1 q (cntA g s T q) t.2.toNat) (f' := fun q => (g.getD q []).count ((t.2.toNat : Nat) : Int)) fun q hq => hm _ q hq
  have hts : t.2 = s.2 := by
    refine Classical.byContradiction fun hne => ?_
    rw [if_neg (show ¬ ((t.2.toNat : Nat) : Int) = s.2 by omega)] at e1
    unfold degN at e1
    omega
  rw [if_pos (show ((t.2.toNat : Nat) : Int) = s.2 by omega)] at e1
  have e4 := sumN_eq (n := g.length) (f := fun q => arrP g s.1 q (cntA g s T q) t.2.toNat) (f' := fun q => (g.getD q []).count ((t.2.toNat : Nat) : Int)) (fun q hq => hm _ q hq) (by unfold degN at e1; omega)
  -- what is not done leads on
  have key : ∀ q : Nat, q < g.length -> cntA g s T q < degN g q -> 0 ≤ nx g s.1 q /\ nx g s.1 q < (g.length : Int) /\ cntA g s T (nx g s.1 q).toNat < degN g (nx g s.1 q).toNat := by
    intro q hq hlt
    have hrn := (ld_ok W).rotN hq
    have hrn1 : 0 ≤ s.1.getD q 0 := hrn.1
    have hrn2 : (s.1.getD q 0).toNat < degN g q := hrn.2 (hd q hq)
    have hx : nx g s.1 q = dstP g s.1 q (degN g q) := by
      unfold nx dstP
      rw [if_neg (by omega), Int.toNat_natCast, if_neg (show ¬ (g.getD q []).length = 0 from hd q hq)]
      unfold degN at hrn2 ⊢
      rw [Nat.add_mod_right, Nat.mod_eq_of_lt hrn2]
    have hxm := nx_lt W (p := (q : Int)) (by omega)
    have hx0 : 0 ≤ nx g s.1 q := by
      have hne : (g[((q : Nat) : Int).toNat]'(by omega)).length ≠ 0 := by
        have := hd q hq
        unfold degN at this
        rw [List.getD_eq_getElem?_getD, List.getElem?_eq_getElem hq, Option.getD_some] at this
        exact this
      obtain ⟨_, hm', _, e⟩ := nx_some W (by omega) (by omega) hne
      rw [e]
      exact ((graph_mem W.graph (List.getElem_mem _)).2 _ (List.getElem_mem hm')).1
    refine ⟨hx0, hxm.2, ?_⟩
    have harr : arrP g s.1 q (cntA g s T q) (nx g s.1 q).toNat < (g.getD q []).count (((nx g s.1 q).toNat : Nat) : Int) := by
      rw [← arr_full (rs := s.1)]
      have := arrP_mono (g := g) (rs := s.1) (q := q) (p := (nx g s.1 q).toNat) (k := cntA g s T q) (degN g q - 1 - cntA g s T q)
      rw [show cntA g s T q + (degN g q - 1 - cntA g s T q) = degN g q - 1 by omega] at this
      have h2 : arrP g s.1 q (degN g q - 1 + 1) (nx g s.1 q).toNat = arrP g s.1 q (degN g q - 1) (nx g s.1 q).toNat + 1 := by
        rw [arrP, show degN g q - 1 + 1 = degN g q by omega, ← hx, if_pos (by omega)]
      rw [show degN g q - 1 + 1 = degN g q by omega] at h2
      have dq : degN g q = (g.getD q []).length := rfl
      rw [dq] at h2 this
      omega
    have hne : nx g s.1 q ≠ t.2 := by
      intro e
      have := e4 q hq
      (try simp only at this)
      rw [e] at harr
      omega
    have c1 := chipE W h (p := (nx g s.1 q).toNat) (by omega)
    rw [if_neg (show ¬ (((nx g s.1 q).toNat : Nat) : Int) = t.2 by omega), if_neg (show ¬ (((nx g s.1 q).toNat : Nat) : Int) = s.2 by omega)] at c1
    have c2 := hb (nx g s.1 q).toNat (by omega)
    have c3 := sumN_le (n := g.length) (f := fun z => arrP g s.1 z (cntA g s T z) (nx g s.1 q).toNat) (f' := fun z => (g.getD z []).count (((nx g s.1 q).toNat : Nat) : Int)) fun z hz => hm _ z hz
    have hlt' : sumN (fun z => arrP g s.1 z (cntA g s T z) (nx g s.1 q).toNat) g.length < sumN (fun z => (g.getD z []).count (((nx g s.1 q).toNat : Nat) : Int)) g.length := by
      refine Nat.lt_of_le_of_ne c3 fun he => ?_
      have := sumN_eq (n := g.length) (f := fun z => arrP g s.1 z (cntA g s T z) (nx g s.1 q).toNat) (f' := fun z => (g.getD z []).count (((nx g s.1 q).toNat : Nat) : Int)) (fun z hz => hm _ z hz) (by omega) q hq
      (try simp only at this)
      omega
    unfold degN
    omega
  intro q hq
  refine Nat.le_antisymm (hle q hq) (Nat.not_lt.1 fun hlt => ?_)
  have walk : ∀ k, 0 ≤ itx g s.1 q k /\ itx g s.1 q k < (g.length : Int) /\ cntA g s T (itx g s.1 q k).toNat < degN g (itx g s.1 q k).toNat := by
    intro k
    induction k with
    | zero =>
      rw [itx, Int.toNat_natCast]
      exact ⟨by omega, by omega, hlt⟩
    | succ k ih =>
      obtain ⟨a, b, c⟩ := ih
      have := key (itx g s.1 q k).toNat (by omega) c
      rw [show (((itx g s.1 q k).toNat : Nat) : Int) = itx g s.1 q k by omega] at this
      rw [itx]; exact this
  obtain ⟨k, hk⟩ := hu q hq
  have := (walk k).2.2
  rw [hk, ← hts, hp] at this
  exact Nat.lt_irrefl _ this
theorem euler (W : WOK g s) (hs : StrongP g) (hb : BalP g) (hd : ∀ p, p < g.length -> degN g p ≠ 0) {n : Nat} (hn : 1 ≤ n) (h : sq g s n = some s) : sq g s (sumN (degN g) g.length) = some s /\ sumN (degN g) g.length ≤ n /\ ∀ q, q < g.length -> cntA g s (sumN (degN g) g.length) q = degN g q := by
  have hl := all_left W hs hd hn h
  have hsome : ∀ m, ∃ t, sq g s m = some t := by
    intro m
    induction m with
    | zero => exact ⟨s, rfl⟩
    | succ m ih =>
      obtain ⟨t, ht⟩ := ih
      have Wt := sq_wok W ht
      have := hd t.2.toNat (by have := Wt.lo; have := Wt.hi; omega)
      unfold degN at this
      rw [sq, ht]
      show ∃ t', stepP g t = some t'
      unfold stepP
      rw [if_neg this]
      exact ⟨_, rfl⟩
  have hrng : ∀ i, 0 ≤ posA g s i /\ posA g s i < (g.length : Int) := fun i => by
    obtain ⟨t, ht⟩ := hsome i
    rw [posA_eq ht]
    have Wt := sq_wok W ht
    exact ⟨Wt.lo, Wt.hi⟩
  have hu : ∀ q : Nat, q < g.length -> ∃ k, itx g s.1 q k = s.2 := by
    intro q hq
    have hc : 1 ≤ cntA g s n q := by have := hl q hq; have := hd q hq; omega
    have : ∀ m, 1 ≤ cntA g s m q -> ∃ j, j < m /\ posA g s j = (q : Int) := by
      intro m
      induction m with
      | zero => intro h; simp [cntA] at h
      | succ m ih =>
        intro h
        by_cases e : posA g s m = (q : Int)
        · exact ⟨m, by omega, e⟩
        · rw [cntA, if_neg e] at h
          obtain ⟨j, j1, j2⟩ := ih h
          exact ⟨j, by omega, j2⟩
    obtain ⟨j, j1, j2⟩ := this n hc
    obtain ⟨k, hk⟩ := uni_back W h n 0 (by omega) j (Nat.zero_le _) j1
    exact ⟨k, by rw [← j2]; exact hk⟩
  have hsum : ∀ m, sumN (cntA g s m) g.length = m := fun m => cntA_sum fun i _ => hrng i
  have hE : ∀ T, (∃ T', T' ≤ T /\ ∀ q, q < g.length -> cntA g s T' q = degN g q) ∨ ∀ q, q < g.length -> cntA g s T q ≤ degN g q := by
    intro T
    induction T with
    | zero => exact .inr fun q _ => Nat.zero_le _
    | succ T ih =>
      rcases ih with ⟨T', a, b⟩ | ih
      · exact .inl ⟨T', by omega, b⟩
      · obtain ⟨t, ht⟩ := hsome T
        have Wt := sq_wok W ht
        have t0 := Wt.lo
        have t1 := Wt.hi
        by_cases e : cntA g s T t.2.toNat = degN g t.2.toNat
        · exact .inl ⟨T, by omega, all_done W hb hd hu ht ih e⟩
        · refine .inr fun q hq => ?_
          rw [cntA, posA_eq ht]
          have := ih q hq
          split
          · rename_i e2
            have : q = t.2.toNat := by omega
            subst this
            omega
          · omega
  have hc : ∀ q, q < g.length -> cntA g s (sumN (degN g) g.length) q = degN g q := by
    rcases hE (sumN (degN g) g.length) with ⟨T', a, b⟩ | a
    · have h1 := hsum T'
      rw [sumN_congr b] at h1
      rw [← h1] at b; exact b
    · exact sumN_eq a (by rw [hsum]; exact Nat.le_refl _)
  refine ⟨?_, ?_, hc⟩
  · obtain ⟨t, ht⟩ := hsome (sumN (degN g) g.length)
    rw [ht]
    have Wt := sq_wok W ht
    have e1 : t.1 = s.1 := by
      refine ext_getD (by rw [Wt.len, W.len]) fun i hi => ?_
      rw [Wt.len] at hi
      have hrn := (ld_ok W).rotN hi
      have hrn1 : 0 ≤ s.1.getD i 0 := hrn.1
      have hrn2 : (s.1.getD i 0).toNat < degN g i := hrn.2 (hd i hi)
      rw [rotE W ht hi (hd i hi), hc i hi, Nat.add_mod_right, Nat.mod_eq_of_lt hrn2]
      omega
    have e2 : t.2 = s.2 := by
      refine Classical.byContradiction fun hne => ?_
      have t0 := Wt.lo
      have t1 := Wt.hi
      have c1 := chipE W ht (p := t.2.toNat) (by omega)
      rw [if_pos (by omega), if_neg (by omega), hc _ (by omega)] at c1
      have c2 := hb t.2.toNat (by omega)
      have c3 : sumN (fun q => arrP g s.1 q (cntA g s (sumN (degN g) g.length) q) t.2.toNat) g.length = sumN (fun q => (g.getD q []).count ((t.2.toNat : Nat) : Int)) g.length := sumN_congr fun q hq => by
        (try simp only)
        rw [hc q hq]; exact arr_full
      rw [c3, c2] at c1
      unfold degN at c1
      omega
    rw [show t = s from Prod.ext e1 e2]
  · have := sumN_le (n := g.length) (f := degN g) (f' := cntA g s n) hl
    rw [hsum] at this
    exact this
end
structure CurD (a n : Nat) (h : Heap) (c : Sl) (i : Int) : Prop where
  code : ∃ vs, RdV (fun k => k < a) h 1 c vs /\ ∀ v, v ∈ vs -> ∃ m : Int, v = Value.int .u8 m /\ 0 ≤ m /\ m ≤ 255
  lo : 0 ≤ i
  hi : i ≤ (n : Int)
theorem CurD.fr {a n : Nat} {h h' : Heap} {c : Sl} {i : Int} {T : Nat -> Prop} (D : CurD a n h c i) (f : Fr T h h') (hT : ∀ k, k < a -> ¬ T k) : CurD a n h' c i := by
  obtain ⟨vs, h1, h2⟩ := D.code
  exact ⟨⟨vs, h1.fr f hT, h2⟩, D.lo, D.hi⟩
theorem CurD.no {a n : Nat} {h h' : Heap} {c : Sl} {i : Int} (D : CurD a n h c i) (f : Fr No h h') : CurD a n h' c i := D.fr f fun _ _ h => h
theorem CurD.up {a n m : Nat} {h : Heap} {c : Sl} {i : Int} (D : CurD a n h c i) (hm : n ≤ m) : CurD a m h c i := ⟨D.code, D.lo, by have := D.hi; omega⟩
theorem u64_rng (x : Int) : 0 ≤ IntKind.wrap .u64 x /\ IntKind.wrap .u64 x < 18446744073709551616 := by
  rw [IntKind.wrap_u64]; omega
theorem and255 {x : Int} (h0 : 0 ≤ x) (h1 : x < 18446744073709551616) : 0 ≤ bits .and .u64 x 255 /\ bits .and .u64 x 255 ≤ 255 := by
  have e := u64_and_nat x.toNat 255 (by omega) (by omega)
  rw [show ((x.toNat : Nat) : Int) = x by omega] at e
  have : x.toNat &&& 255 ≤ 255 := Nat.and_le_right
  rw [show ((255 : Nat) : Int) = 255 from rfl] at e
  rw [e]; omega
theorem vcur {h h' : Heap} {L : List (Nat × List Value)} (H : Vars h L) (i : Nat) {b : Nat} {cs cs' : List Value} (hi : nthL L i = some (b, cs)) (f : Fr (In [b]) h h') (V : IsVar h' b cs') : Vars h' (setL L i cs') :=
  H.set hi (f.mono fun k _ hk => by simpa [In] using hk) V
theorem k_next_ {a n b : Nat} {h : Heap} {c : Sl} {i sd : Int} (V : IsVar h b [c.v, VI i, .int .u64 sd]) (hb : a ≤ b) (D : CurD a n h c i) (hn : n ≤ 1000000000000) (K : Value -> Heap -> Prop) (HK : ∀ (x i' sd' : Int) h', 0 ≤ x -> x ≤ 255 -> IsVar h' b [c.v, VI i', .int .u64 sd'] -> CurD a (n + 1) h' c i' -> Fr (In [b]) h h' -> K (VI x) h') : callM Tryz.prog 122 #[VP b 0] h K := by
  have h0 := D.lo
  have h1 := D.hi
  have lb := V.lt
  have fin : ∀ (x i' sd' : Int) (h1 h2 h' : Heap), 0 ≤ x -> x ≤ 255 -> 0 ≤ i' -> i' ≤ (n : Int) + 1 -> Fr No h h1 -> Fr (In [b]) h1 h2 -> Fr (In [b]) h2 h' -> IsVar h' b [c.v, VI i', .int .u64 sd'] -> K (VI x) h' := fun x i' sd' h1 h2 h' x0 x1 i0 i1 f1 f2 f3 V' => by
    have f := (f1.of_no.trans f2).trans f3
    obtain ⟨vs, d1, d2⟩ := D.code
    exact HK x i' sd' h' x0 x1 V' ⟨⟨vs, d1.fr f fun k hk hk2 => by simp [In] at hk2; omega, d2⟩, i0, by omega⟩ f
  refine v122 b c i sd h K (.cons V (by simp) .nil) ⟨fun x h' => 0 ≤ x /\ x ≤ 255 /\ h' = h, ⟨fun e => ?_, fun e => ⟨by omega, by omega, rfl⟩⟩, ?_⟩
  · obtain ⟨vs, d1, d2⟩ := D.code
    have hl := d1.len
    simp only [decide_eq_true_eq] at e
    have hi : i < (vs.length : Int) := by omega
    obtain ⟨m, e1, m0, m1⟩ := d2 _ (List.getElem_mem (show i.toNat < vs.length by omega))
    refine ⟨d1.inb h0 hi, m, by rw [d1.get h0 hi, e1], rop_conv (show Tryz.prog.underlying _ = some (.int .u8) from by kernel_rfl) (show Tryz.prog.underlying _ = some (.int .i64) from by kernel_rfl) m ⟨m, ?_, m0, m1, rfl⟩⟩
    show Value.int .i64 (w64 m) = VI m
    rw [w64_eq _ (by omega) (by omega)]
  · rintro x hh ⟨x0, x1, rfl⟩ hL h2 f2 hL2
    rw [w64_eq (i + 1) (by omega) (by omega)]
    refine rop_conv (show Tryz.prog.underlying _ = some (.int .i64) from by kernel_rfl) (show Tryz.prog.underlying _ = some (.int .u64) from by kernel_rfl) x ⟨_, rfl, fun e h3 f3 hL3 => ?_, fun e => ?_⟩
    · exact fin x _ _ hh h2 h3 x0 x1 (by omega) (by omega) (Fr.refl _ _) f2 f3 hL3.head
    · refine pop_shr .u64 _ 40 (by omega) ⟨_, rfl, pop_and .u64 _ 255 ⟨_, rfl, fun h3 f3 hL3 => ?_⟩⟩
      have hw := u64_rng (IntKind.wrap .u64 (IntKind.wrap .u64 (sd * 6364136223846793005) + IntKind.wrap .u64 x) + 1442695040888963407)
      have hd : 0 ≤ (IntKind.wrap .u64 (IntKind.wrap .u64 (IntKind.wrap .u64 (sd * 6364136223846793005) + IntKind.wrap .u64 x) + 1442695040888963407)).fdiv (2 ^ (min (40 : Int).toNat IntKind.u64.bits)) /\ (IntKind.wrap .u64 (IntKind.wrap .u64 (IntKind.wrap .u64 (sd * 6364136223846793005) + IntKind.wrap .u64 x) + 1442695040888963407)).fdiv (2 ^ (min (40 : Int).toNat IntKind.u64.bits)) < 18446744073709551616 := by
        rw [show (2 : Int) ^ (min (40 : Int).toNat IntKind.u64.bits) = 1099511627776 from rfl, Int.fdiv_eq_ediv_of_nonneg _ (by omega)]
        omega
      have ha := and255 hd.1 hd.2
      refine rop_conv (show Tryz.prog.underlying _ = some (.int .u64) from by kernel_rfl) (show Tryz.prog.underlying _ = some (.int .i64) from by kernel_rfl) _ ⟨_, rfl, ?_⟩
      rw [show IntKind.i64.wrap (bits .and .u64 ((IntKind.wrap .u64 (IntKind.wrap .u64 (IntKind.wrap .u64 (sd * 6364136223846793005) + IntKind.wrap .u64 x) + 1442695040888963407)).fdiv (2 ^ (min (40 : Int).toNat IntKind.u64.bits))) 255) = bits .and .u64 ((IntKind.wrap .u64 (IntKind.wrap .u64 (IntKind.wrap .u64 (sd * 6364136223846793005) + IntKind.wrap .u64 x) + 1442695040888963407)).fdiv (2 ^ (min (40 : Int).toNat IntKind.u64.bits))) 255 from w64_eq _ (by omega) (by omega)]
      exact fin _ _ _ hh h2 h3 ha.1 ha.2 (by omega) (by omega) (Fr.refl _ _) f2 f3 hL3.head
theorem k_pick {a n b : Nat} {h : Heap} {c : Sl} {i sd : Int} (V : IsVar h b [c.v, VI i, .int .u64 sd]) (hb : a ≤ b) (D : CurD a n h c i) (hn : n ≤ 100000000000) (m : Int) (K : Value -> Heap -> Prop) (HK : ∀ (x i' sd' : Int) h', 0 ≤ x -> (1 ≤ m -> x < m) -> IsVar h' b [c.v, VI i', .int .u64 sd'] -> CurD a (n + 2) h' c i' -> Fr (In [b]) h h' -> K (VI x) h') : callM Tryz.prog 70 #[VP b 0, VI m] h K := by
  refine v70 b c i sd m h K (.cons V (by simp) .nil) ⟨fun e => ?_, fun e => ?_⟩
  · simp only [decide_eq_true_eq] at e
    exact HK 0 i sd h (by omega) (fun _ => by omega) V (D.up (by omega)) (Fr.refl _ _)
  simp only [decide_eq_false_iff_not] at e
  refine k_next_ V hb D (by omega) _ fun x i1 sd1 h1 x0 x1 V1 D1 f1 => ⟨c, i1, sd1, x, rfl, .cons V1 (by simp) .nil, fun y d i2 sd2 h2 => 0 ≤ y /\ d = c /\ CurD a (n + 2) h2 c i2 /\ Fr (In [b]) h h2, ⟨fun e2 => ?_, fun e2 => ⟨x0, rfl, D1.up (by omega), f1⟩⟩, ?_⟩
  · refine k_next_ V1 hb D1 (by omega) _ fun x' i2 sd2 h2 x0' x1' V2 D2 f2 => ⟨c, i2, sd2, x', rfl, .cons V2 (by simp) .nil, ?_⟩
    rw [w64_eq (x * 256) (by omega) (by omega), w64_eq _ (by omega) (by omega)]
    exact ⟨by omega, rfl, D2, f1.trans f2⟩
  · rintro y d i2 sd2 h2 ⟨y0, rfl, D2, f2⟩ hL2
    exact ⟨by omega, HK _ i2 sd2 h2 (Int.tmod_nonneg _ y0) (fun _ => Int.tmod_lt_of_pos _ (by omega)) hL2.head D2 f2⟩
theorem k_one {a n b : Nat} {h : Heap} {c : Sl} {i sd : Int} (V : IsVar h b [c.v, VI i, .int .u64 sd]) (hb : a ≤ b) (D : CurD a n h c i) (hn : n ≤ 100000000000) (m : Int) (K : Value -> Heap -> Prop) (HK : ∀ (x : Bool) (i' sd' : Int) h', IsVar h' b [c.v, VI i', .int .u64 sd'] -> CurD a (n + 2) h' c i' -> Fr (In [b]) h h' -> K (VB x) h') : callM Tryz.prog 68 #[VP b 0, VI m] h K := by
  refine v68 b c i sd m h K (.cons V (by simp) .nil) ?_
  exact k_pick V hb D hn m _ fun x i1 sd1 h1 x0 x1 V1 D1 f1 => ⟨c, i1, sd1, x, rfl, .cons V1 (by simp) .nil, HK _ i1 sd1 h1 V1 D1 f1⟩
theorem k_among {a n b : Nat} {h : Heap} {c : Sl} {i sd : Int} (V : IsVar h b [c.v, VI i, .int .u64 sd]) (hb : a ≤ b) (D : CurD a n h c i) (hn : n ≤ 100000000000) {S : Nat -> Prop} {s : Sl} {xs : List Int} (R : RdI S h s xs) (hS : ¬ S b) (hne : xs ≠ []) (K : Value -> Heap -> Prop) (HK : ∀ (x i' sd' : Int) h', x ∈ xs -> IsVar h' b [c.v, VI i', .int .u64 sd'] -> CurD a (n + 2) h' c i' -> Fr (In [b]) h h' -> K (VI x) h') : callM Tryz.prog 69 #[VP b 0, s.v] h K := by
  refine v69 b c i sd s h K (.cons V (by simp) .nil) ?_
  have hl := R.len
  have hp := List.length_pos_iff.2 hne
  refine k_pick V hb D hn _ _ fun x i1 sd1 h1 x0 x1 V1 D1 f1 => ⟨c, i1, sd1, x, rfl, .cons V1 (by simp) .nil, ?_⟩
  have R1 := R.fr f1 fun k hk hk2 => by simp [In] at hk2; subst hk2; exact hS hk
  have hx : x < (xs.length : Int) := by have := x1 (by omega); omega
  exact ⟨R1.inb x0 hx, _, R1.get x0 hx, HK _ i1 sd1 h1 (List.getElem_mem _) V1 D1 f1⟩
theorem eop_put {L : List (Nat × List Value)} {lo : Nat} {h : Heap} {o : Sl} {xs : List Int} {x : Int} (O : OwI h (fun k => lo ≤ k) o xs) (hlo : lo ≤ h.size) (hL : Vars h L) (hoff : ∀ p, p ∈ L -> p.1 < lo) (hb : xs.length ≤ 1000000) (R : Sl -> Heap -> Prop) (HR : ∀ t h', OwI h' (fun k => lo ≤ k) t (xs ++ [x]) -> Fr (fun k => lo ≤ k) h h' -> Vars h' L -> R t h') : eop Tryz.prog (Instr.buildSlice tIs 1 #[(0, VI x)]) h fun rv h1 => ∃ t : Sl, rv = t.v /\ Vars h1 L /\ eop Tryz.prog (appS tIs tIs tIs o.v t.v) h1 fun rv2 h2 => ∃ t2 : Sl, rv2 = t2.v /\ Vars h2 L /\ R t2 h2 := by
  refine eop_lit rIs (fun k => h.size ≤ k) (fun _ h => h) 1 (by omega) [VI x] rfl rfl fun t h1 n1 c1 o1 f1 m1 _ => ⟨t, rfl, hL.of_no f1, ?_⟩
  have z1 := f1.size
  have O1 : OwI h1 (fun k => lo ≤ k) o xs := Ow.no O f1
  have on := O1.rd.len
  have tn := o1.rd.len
  simp only [List.length_map, Nat.mul_one, List.length_cons, List.length_nil] at on tn
  refine eop_append rIs O1 (fun k hk => by omega) o1.rd (plainVI [x]) (by omega) fun s' h2 n2 o2 f2 d2 => ?_
  have g2 : Fr (fun k => lo ≤ k) h1 h2 := f2.mono fun k _ hk => (O1.foot hk).1
  have V2 : Vars h2 L := (hL.of_no f1).fr g2 fun p hp hk => by have := hoff p hp; omega
  exact ⟨s', rfl, V2, HR s' h2 (by rw [OwI, List.map_append]; exact o2) (f1.of_no.trans g2) V2⟩
theorem eop_putR {L : List (Nat × List Value)} {lo m : Nat} {h : Heap} {s x : Sl} {xss : List (List Int)} {ys : List Int} (O : OwX h (Iv lo m) s xss) (X : OwI h (fun k => m ≤ k) x ys) (hlo : lo ≤ m) (hm : m ≤ h.size) (hL : Vars h L) (hoff : ∀ p, p ∈ L -> p.1 < lo) (hb : xss.length ≤ 1000000) (R : Sl -> Heap -> Prop) (HR : ∀ t h', OwX h' (fun k => lo ≤ k) t (xss ++ [ys]) -> Fr (fun k => lo ≤ k) h h' -> Vars h' L -> R t h') : eop Tryz.prog (Instr.buildSlice tIss 1 #[(0, x.v)]) h fun rv h1 => ∃ t : Sl, rv = t.v /\ Vars h1 L /\ eop Tryz.prog (appS tIss tIss tIss s.v t.v) h1 fun rv2 h2 => ∃ t2 : Sl, rv2 = t2.v /\ Vars h2 L /\ R t2 h2 := by
  refine eop_lit rIss (fun k => h.size ≤ k) (fun _ h => h) 1 (by omega) [x.v] rfl rfl fun t h1 n1 c1 o1 f1 m1 _ => ⟨t, rfl, hL.of_no f1, ?_⟩
  have z1 := f1.size
  refine OwR.snoc rIss (OwR.no O f1) (F' := fun k => lo ≤ k) (fun k _ hk => hk.1) (fun k hk => by omega) ((Ow.no X f1).mono fun k _ hk => Nat.le_trans hlo hk) (fun k hk hk2 => by have := (X.foot hk).1; have := hk2.2; omega) o1.rd (by omega) fun y h2 o2 f2 => ?_
  have g2 : Fr (fun k => lo ≤ k) h1 h2 := f2.mono fun k _ hk => hk.1
  have V2 : Vars h2 L := (hL.of_no f1).fr g2 fun p hp hk => by have := hoff p hp; omega
  exact ⟨y, rfl, V2, HR y h2 o2 (f1.of_no.trans g2) V2⟩
def cycR (n : Int) (both : Bool) (p : Int) : List Int := [(p + 1).tmod n] ++ (if both then [(p + n - 1).tmod n] else [])
def cycL' (n : Int) (both : Bool) : Nat -> List (List Int)
  | 0 => []
  | p + 1 => cycL' n both p ++ [cycR n both p]
theorem cycL_length (n : Int) (both : Bool) : ∀ p, (cycL' n both p).length = p
  | 0 => rfl
  | p + 1 => by rw [cycL', List.length_append, cycL_length n both p]; rfl
def cycP (n : Nat) (both : Bool) : List (List Int) := cycL' n both n
theorem k_grCycle {h : Heap} (n : Nat) (hn : n ≤ 1000) (both : Bool) (K : Value -> Heap -> Prop) (HK : ∀ t h', OwX h' (Iv h.size h'.size) t (cycP n both) -> Fr No h h' -> K (.agg #[t.v]) h') : callM Tryz.prog 129 #[VI n, VB both] h K := by
  refine v129 n both h K fun b1 b2 h3 hb1 hb2 f3 hL3 => ?_
  have f3 := f3.in_nil
  have z3 := f3.size
  have l2 : b2 < h3.size := hL3.head.lt
  have l1 : b1 < h3.size := hL3.tail.head.lt
  refine ⟨fun m p x h' => 0 ≤ p /\ p + m = (n : Int) /\ OwX h' (fun k => h3.size ≤ k) x (cycL' n both p.toNat) /\ Fr (fun k => h.size ≤ k) h h' /\ h3.size ≤ h'.size, ⟨n, by omega, by omega, OwR.nil _ _ _ _, f3.of_no, Nat.le_refl _⟩, ?_⟩
  rintro m p x h4 ⟨p0, p1, o4, f4, z4⟩ hL4
  refine ⟨fun e => ?_, fun e => ?_⟩
  · simp only [decide_eq_true_eq] at e
    refine ⟨by omega, ?_⟩
    rw [w64_eq (p + 1) (by omega) (by omega), w64_eq (p + n) (by omega) (by omega), w64_eq (p + n - 1) (by omega) (by omega)]
    have o4i := OwR.toIv o4
    refine eop_lit rIs (fun k => h4.size ≤ k) (fun _ h => h) 1 (by omega) [VI ((p + 1).tmod n)] rfl rfl fun t h5 n5 c5 o5 f5 m5 _ => ⟨t, rfl, hL4.of_no f5, fun y h' => OwI h' (fun k => h4.size ≤ k) y (cycR n both p) /\ OwX h' (Iv h3.size h4.size) x (cycL' n both p.toNat) /\ Fr (fun k => h.size ≤ k) h h' /\ h4.size ≤ h'.size, ⟨fun eb => ⟨by omega, ?_⟩, fun eb => ⟨?_, OwR.no o4i f5, f4.trans f5.of_no, f5.size⟩⟩, ?_⟩
    · refine eop_put (lo := h4.size) (xs := [(p + 1).tmod n]) o5 f5.size (hL4.of_no f5) (fun q hq => by
        simp only [List.mem_cons, List.not_mem_nil, or_false] at hq
        rcases hq with rfl | rfl <;> simp only <;> omega) (by simp) _ fun u h6 o6 f6 V6 => ⟨?_, OwR.fr (OwR.no o4i f5) f6 fun k hk hk2 hk3 => by have := hk2.2; omega, (f4.trans f5.of_no).trans (f6.mono fun k _ hk => by have := f4.size; omega), by have := f5.size; have := f6.size; omega⟩
      unfold cycR
      rw [if_pos eb]; exact o6
    · unfold cycR
      rw [if_neg (by rw [eb]; simp)]
      exact o5
    rintro y h8 ⟨o8, q8, f8, z8⟩ hL8
    refine eop_putR (lo := h3.size) (m := h4.size) q8 o8 z4 z8 hL8 (fun q hq => by
      simp only [List.mem_cons, List.not_mem_nil, or_false] at hq
      rcases hq with rfl | rfl <;> simp only <;> omega) (by rw [cycL_length]; omega) _ fun u h10 o10 f10 V10 h11 f11 hL11 => ?_
    refine ⟨m - 1, by omega, by omega, by omega, ?_, (f8.trans (f10.mono fun k _ hk => by omega)).trans (f11.mono fun k _ hk => by simp [In] at hk; omega), by have := f10.size; have := f11.size; omega⟩
    have ep : (p + 1).toNat = p.toNat + 1 := by omega
    rw [ep, cycL', show ((p.toNat : Nat) : Int) = p by omega]
    exact OwR.fr o10 f11 fun k hk hk2 hk3 => by simp [In] at hk3; omega
  · simp only [decide_eq_false_iff_not] at e
    intro h12 f12 hL12
    have ep : p.toNat = n := by omega
    rw [ep] at o4
    have g12 : Fr (fun k => h.size ≤ k) h4 h12 := f12.mono fun k _ hk => by simp [In] at hk; omega
    have o12 : OwX h12 (fun k => h3.size ≤ k) x (cycL' n both n) := OwR.fr o4 f12 fun k hk hk2 hk3 => by simp [In] at hk3; omega
    exact HK x h12 (OwR.ivs (OwR.toIv o12) z3 (Nat.le_refl _)) ((f4.trans g12).mono fun k hk hk2 => absurd hk2 (by omega))
theorem row_put {L : List (Nat × List Value)} {lo : Nat} {h : Heap} {s : Sl} {xss : List (List Int)} {i : Int} (O : OwX h (fun k => lo ≤ k) s xss) (hlo : lo ≤ h.size) (h0 : 0 ≤ i) (h1 : i < (xss.length : Int)) (hL : Vars h L) (hoff : ∀ p, p ∈ L -> p.1 < lo) (hb : (xss[i.toNat]'(by omega)).length ≤ 1000000) (x : Int) : ∃ si : Sl, hcell h (s.at i 1) = some si.v /\ ∀ R : Heap -> Prop, (∀ h', OwX h' (fun k => lo ≤ k) s (xss.set i.toNat (xss[i.toNat]'(by omega) ++ [x])) -> Fr (fun k => lo ≤ k) h h' -> Vars h' L -> R h') -> eop Tryz.prog (Instr.buildSlice tIs 1 #[(0, VI x)]) h fun rv h1 => ∃ t : Sl, rv = t.v /\ Vars h1 L /\ hcell h1 (s.at i 1) = some si.v /\ eop Tryz.prog (appS tIs tIs tIs si.v t.v) h1 fun rv2 h2 => ∃ t2 : Sl, rv2 = t2.v /\ Vars h2 L /\ InB s i /\ Writable h2 (s.at i 1) /\ Vars (hset h2 (s.at i 1) t2.v) L /\ ∀ h3, h3 = hset h2 (s.at i 1) t2.v -> Vars h3 L -> R h3 := by
  have Oi := OwR.toIv O
  obtain ⟨si, c1, c2, _⟩ := Oi.inner h0 h1
  refine ⟨si, c1, fun R HR => ?_⟩
  refine eop_lit rIs (fun k => h.size ≤ k) (fun _ h => h) 1 (by omega) [VI x] rfl rfl fun t h9 n9 c9 o9 f9 m9 _ => ⟨t, rfl, hL.of_no f9, hcell_fr c1 f9 (fun h => h), ?_⟩
  have s9 := f9.size
  have O9 := OwR.no Oi f9
  have c2' : OwI h9 (fun k => lo ≤ k) si (xss[i.toNat]'(by omega)) := (Ow.no c2 f9).mono fun k _ hk => hk.1
  have on := c2'.rd.len
  have tn := o9.rd.len
  simp only [List.length_map, Nat.mul_one, List.length_cons, List.length_nil] at on tn
  refine eop_append rIs c2' (fun k hk => by omega) o9.rd (plainVI [x]) (by omega) fun w h10 n10 o10 f10 d10 => ?_
  have g10 : Fr (fun k => lo ≤ k) h9 h10 := f10.mono fun k _ hk => (c2'.foot hk).1
  have V10 : Vars h10 L := (hL.of_no f9).fr g10 fun p hp hk => by have := hoff p hp; omega
  have o10' : OwI h10 (fun k => lo ≤ k) w (xss[i.toNat]'(by omega) ++ [x]) := by rw [OwI, List.map_append]; exact o10
  obtain ⟨i11, w11, o11, f11⟩ := O9.outer2 h0 h1 (hcell_fr c1 f9 fun h => h) f10 (F' := fun k => lo ≤ k) o10' (fun k _ hk => hk.1) fun k hk => (d10 k hk).imp id fun hk2 hk3 => by have := hk3.2; omega
  have g11 : Fr (fun k => lo ≤ k) h10 _ := (O9.ownF f11).mono fun k _ hk => hk.1
  have V11 := V10.fr g11 fun p hp hk => by have := hoff p hp; omega
  exact ⟨w, rfl, V10, i11, w11, V11, fun h3 e3 V3 => HR h3 (by rw [e3]; exact o11) (by rw [e3]; exact (f9.of_no.trans g10).trans g11) V3⟩
def GR (N : Int) (q : Nat) (xss : List (List Int)) : Prop := ∀ l, l ∈ xss -> l.length ≤ q /\ ∀ x, x ∈ l -> 0 ≤ x /\ x < N
theorem GR.nil (N : Int) (q : Nat) : GR N q [] := fun l hl => by cases hl
theorem GR.snoc {N : Int} {q : Nat} {xss : List (List Int)} {l : List Int} (H : GR N q xss) (h1 : l.length ≤ q) (h2 : ∀ x, x ∈ l -> 0 ≤ x /\ x < N) : GR N q (xss ++ [l]) := fun y hy => by
  rcases List.mem_append.1 hy with a | a
  · exact H y a
  · simp only [List.mem_cons, List.not_mem_nil, or_false] at a; rw [a]; exact ⟨h1, h2⟩
theorem GR.set {N : Int} {q : Nat} {xss : List (List Int)} {l : List Int} (H : GR N q xss) (i : Nat) (h1 : l.length ≤ q) (h2 : ∀ x, x ∈ l -> 0 ≤ x /\ x < N) : GR N q (xss.set i l) := fun y hy => by
  rcases List.mem_or_eq_of_mem_set hy with a | a
  · exact H y a
  · rw [a]; exact ⟨h1, h2⟩
theorem GR.up {N : Int} {q r : Nat} {xss : List (List Int)} (H : GR N q xss) (h : q ≤ r) : GR N r xss := fun l hl => ⟨Nat.le_trans (H l hl).1 h, (H l hl).2⟩
theorem GR.graph {q : Nat} {xss : List (List Int)} (H : GR xss.length q xss) (hq : q ≤ 5) (h1 : 1 ≤ xss.length) (h2 : xss.length ≤ 8) : graphB xss = true := by
  rw [graphB_eq (inR_iff.2 ⟨by omega, by omega⟩), List.all_eq_true]
  intro l hl
  have := H l hl
  rw [Bool.and_eq_true, Bool.not_eq_true', decide_eq_false_iff_not, List.all_eq_true]
  exact ⟨by omega, fun x hx => inR_iff.2 (by have := this.2 x hx; omega)⟩
theorem cyc_GR {n : Nat} (hn : 1 ≤ n) (both : Bool) : GR n 2 (cycP n both) := by
  have key : ∀ p, GR n 2 (cycL' n both p) := by
    intro p
    induction p with
    | zero => exact GR.nil _ _
    | succ p ih =>
      rw [cycL']
      refine ih.snoc ?_ ?_
      · unfold cycR; split <;> simp
      · intro x hx
        unfold cycR at hx
        rcases List.mem_append.1 hx with a | a
        · simp only [List.mem_cons, List.not_mem_nil, or_false] at a
          rw [a]; exact ⟨Int.tmod_nonneg _ (by omega), Int.tmod_lt_of_pos _ (by omega)⟩
        · split at a
          · simp only [List.mem_cons, List.not_mem_nil, or_false] at a
            rw [a]; exact ⟨Int.tmod_nonneg _ (by omega), Int.tmod_lt_of_pos _ (by omega)⟩
          · cases a
  exact key n
theorem k_sureGraph {a n b : Nat} {h : Heap} {c : Sl} {i sd : Int} (V : IsVar h b [c.v, VI i, .int .u64 sd]) (hb : a ≤ b) (D : CurD a n h c i) (hn : n ≤ 1000000000) {most : Int} (hm1 : 1 ≤ most) (hm2 : most ≤ 8) (K : Value -> Heap -> Prop) (HK : ∀ (t : Sl) (xss : List (List Int)) (i' sd' : Int) h', OwX h' (Iv h.size h'.size) t xss -> GR xss.length 4 xss -> 1 ≤ xss.length -> (xss.length : Int) ≤ most -> IsVar h' b [c.v, VI i', .int .u64 sd'] -> CurD a (n + 100) h' c i' -> Fr (In [b]) h h' -> K (.agg #[t.v]) h') : callM Tryz.prog 144 #[VP b 0, VI most] h K := by
  have lb := V.lt
  refine v144 b c i sd most h K (.cons V (by simp) .nil) fun b2 h1 hb2 f1 hL1 => ?_
  have f1 := f1.in_nil
  have z1 := f1.size
  have l2 : b2 < h1.size := hL1.head.lt
  have fin : ∀ (h' : Heap), Fr (fun k => k = b ∨ h.size ≤ k) h h' -> Fr (In [b]) h h' := fun h' f => f.mono fun k hk hk2 => by
    rcases hk2 with e | e
    · simp [In, e]
    · omega
  have inb : ∀ {x y : Heap}, Fr (In [b]) x y -> Fr (fun k => k = b ∨ h.size ≤ k) x y := fun f => f.mono fun k _ hk => .inl (by simpa [In] using hk)
  refine k_pick hL1.tail.head hb (D.no f1) (by omega) most _ fun r i2 sd2 h2 r0 r1 V2 D2 f2 => ⟨c, i2, sd2, r, rfl, vcur hL1 1 rfl f2 V2, ?_⟩
  have hr := r1 hm1
  rw [w64_eq (1 + r) (by omega) (by omega)]
  have hL2 := vcur hL1 1 rfl f2 V2
  refine k_one V2 hb D2 (by omega) _ _ fun q i3 sd3 h3 V3 D3 f3 => ⟨c, i3, sd3, q, rfl, vcur hL2 1 rfl f3 V3, fun eq => ?_, fun eq => ?_⟩
  · have hL3 := vcur hL2 1 rfl f3 V3
    refine k_one V3 hb D3 (by omega) _ _ fun q4 i4 sd4 h4 V4 D4 f4 => ⟨c, i4, sd4, q4, rfl, vcur hL3 1 rfl f4 V4, ?_⟩
    have hL4 := vcur hL3 1 rfl f4 V4
    have en : (1 + r) = (((1 + r).toNat : Nat) : Int) := by omega
    rw [en]
    refine k_grCycle (1 + r).toNat (by omega) q4 _ fun t h5 o5 f5 => ⟨t, rfl, hL4.of_no f5, fun h6 f6 hL6 => ?_⟩
    have z2 := f2.size
    have z3 := f3.size
    have z4 := f4.size
    have z5 := f5.size
    have o6 : OwX h6 (Iv h4.size h5.size) t (cycP (1 + r).toNat q4) := OwR.fr o5 f6 fun k hk hk2 hk3 => by simp [In] at hk3; have := hk2.1; omega
    have z6 := f6.size
    have hl : (cycP (1 + r).toNat q4).length = (1 + r).toNat := cycL_length _ _ _
    refine HK t _ i4 sd4 h6 (OwR.ivs o6 (by omega) z6) ?_ (by omega) (by omega) hL6.tail.head ?_ (fin h6 ?_)
    · rw [hl]; exact (cyc_GR (by omega) q4).up (by omega)
    · exact (((D4.no f5).fr f6 fun k hk hk2 => by simp [In] at hk2; omega)).up (by omega)
    · exact ((((f1.of_no.trans (inb f2)).trans (inb f3)).trans (inb f4)).trans f5.of_no).trans (f6.mono fun k _ hk => .inr (by simp [In] at hk; omega))
  · intro b3 h8 hb3 f8 hL8
    have f8 := f8.in_nil
    have z2 := f2.size
    have z3 := f3.size
    have z8 := f8.size
    have l3 : b3 < h8.size := hL8.head.lt
    have f08 : Fr (fun k => k = b ∨ h.size ≤ k) h h8 := ((f1.of_no.trans (inb f2)).trans (inb f3)).trans f8.of_no
    refine ⟨fun m p x d i' sd' h' => 0 ≤ p /\ p + m = 1 + r /\ d = c /\ CurD a (n + 4 + 10 * p.toNat) h' c i' /\ (∃ rows, OwX h' (fun k => h8.size ≤ k) x rows /\ GR (1 + r) 3 rows /\ rows.length = p.toNat) /\ Fr (fun k => k = b ∨ h.size ≤ k) h h' /\ h8.size ≤ h'.size, ⟨(1 + r).toNat, by omega, by omega, rfl, (D3.no f8).up (by omega), ⟨[], OwR.nil _ _ _ _, GR.nil _ _, rfl⟩, f08, Nat.le_refl _⟩, ?_⟩
    rintro m p x d i9 sd9 h9 ⟨p0, p1, rfl, D9, ⟨rows, o9, g9, e9⟩, f9, z9⟩ hL9
    have hoff : ∀ (A B C : List Value) (q : Nat × List Value), q ∈ [(b3, A), (b2, B), (b, C)] -> q.1 < h8.size := fun A B C q hq => by
      simp only [List.mem_cons, List.not_mem_nil, or_false] at hq
      rcases hq with rfl | rfl | rfl <;> simp only <;> omega
    refine ⟨fun e => ?_, fun e => ?_⟩
    · simp only [decide_eq_true_eq] at e
      refine k_pick hL9.tail.tail.head hb D9 (by omega) 3 _ fun y i10 sd10 h10 y0 y1 V10 D10 f10 => ⟨d, i10, sd10, y, rfl, vcur hL9 2 rfl f10 V10, ?_⟩
      have y1 := y1 (by omega)
      rw [w64_eq (1 + y) (by omega) (by omega)]
      have z10 := f10.size
      have o10 := OwR.fr (OwR.toIv o9) f10 fun k hk hk2 hk3 => by simp [In] at hk3; have := hk2.1; omega
      refine ⟨fun m l k d' i' sd' h' => m = k.toNat /\ 0 ≤ k /\ d' = d /\ CurD a (n + 6 + 10 * p.toNat + 2 * (3 - k).toNat) h' d i' /\ (∃ ys, OwI h' (fun k => h9.size ≤ k) l ys /\ (∀ x, x ∈ ys -> 0 ≤ x /\ x < 1 + r) /\ (ys.length : Int) + k ≤ 3) /\ OwX h' (Iv h8.size h9.size) x rows /\ Fr (fun k => k = b ∨ h.size ≤ k) h h' /\ h9.size ≤ h'.size, ⟨(1 + y).toNat, rfl, by omega, rfl, D10.up (by omega), ⟨[], Ow.nil _ _ _ _, by simp, by simp; omega⟩, o10, f9.trans (inb f10), z10⟩, ?_⟩
      rintro m2 l k d' i11 sd11 h11 ⟨rfl, k0, rfl, D11, ⟨ys, q11, r11, e11⟩, o11, f11, z11⟩ hL11
      refine ⟨fun ek => ?_, fun ek => ?_⟩
      · simp only [decide_eq_true_eq] at ek
        refine k_pick hL11.tail.tail.head hb D11 (by omega) (1 + r) _ fun w i12 sd12 h12 w0 w1 V12 D12 f12 => ⟨d', i12, sd12, w, rfl, vcur hL11 2 rfl f12 V12, ?_⟩
        have w1 := w1 (by omega)
        have z12 := f12.size
        have q12 : OwI h12 (fun k => h9.size ≤ k) l ys := Ow.fr q11 f12 fun k hk hk3 => by have := (q11.foot hk).1; simp [In] at hk3; omega
        have hL12 := vcur hL11 2 rfl f12 V12
        refine eop_put (lo := h9.size) q12 (by omega) hL12 (fun q hq => by have := hoff _ _ _ q hq; omega) (by omega) _ fun u h14 o14 f14 V14 => ?_
        rw [w64_eq (k - 1) (by omega) (by omega)]
        have z14 := f14.size
        refine ⟨(k - 1).toNat, by omega, rfl, by omega, rfl, ?_, ⟨ys ++ [w], o14, ?_, by simp; omega⟩, ?_, ?_, by omega⟩
        · exact (D12.fr f14 fun k hk hk2 => by omega).up (by omega)
        · intro v hv
          rcases List.mem_append.1 hv with a | a
          · exact r11 v a
          · simp only [List.mem_cons, List.not_mem_nil, or_false] at a; omega
        · refine OwR.fr (OwR.fr o11 f12 fun k hk hk2 hk3 => by simp [In] at hk3; have := hk2.1; omega) f14 fun k hk hk2 hk3 => by have := hk2.2; omega
        · exact (f11.trans (inb f12)).trans (f14.mono fun k _ hk => .inr (by have := f9.size; omega))
      · simp only [decide_eq_false_iff_not] at ek
        have ek0 : k = 0 := by omega
        subst ek0
        refine ⟨fun y2 d2 i2' sd2' h' => d2 = d' /\ (∃ zs, OwI h' (fun k => h9.size ≤ k) y2 zs /\ (∀ x, x ∈ zs -> 0 ≤ x /\ x < 1 + r) /\ zs.length ≤ 3) /\ OwX h' (Iv h8.size h9.size) x rows /\ CurD a (n + 14 + 10 * p.toNat) h' d' i2' /\ Fr (fun k => k = b ∨ h.size ≤ k) h h' /\ h9.size ≤ h'.size, ?_, ?_⟩
        · refine k_one hL11.tail.tail.head hb D11 (by omega) 8 _ fun q15 i15 sd15 h15 V15 D15 f15 => ⟨d', i15, sd15, q15, rfl, vcur hL11 2 rfl f15 V15, fun _ => ?_, fun _ => ?_⟩
          · exact ⟨rfl, ⟨[], Ow.nil _ _ _ _, by simp, by simp⟩, OwR.fr o11 f15 fun k hk hk2 hk3 => by simp [In] at hk3; have := hk2.1; omega, D15.up (by omega), f11.trans (inb f15), by have := f15.size; omega⟩
          · exact ⟨rfl, ⟨ys, Ow.fr q11 f15 fun k hk hk3 => by have := (q11.foot hk).1; simp [In] at hk3; omega, r11, by omega⟩, OwR.fr o11 f15 fun k hk hk2 hk3 => by simp [In] at hk3; have := hk2.1; omega, D15.up (by omega), f11.trans (inb f15), by have := f15.size; omega⟩
        rintro y2 d2 i16 sd16 h16 ⟨rfl, ⟨zs, q16, r16, e16⟩, o16, D16, f16, z16⟩ hL16
        refine eop_putR (lo := h8.size) (m := h9.size) o16 q16 z9 z16 hL16 (fun q hq => hoff _ _ _ q hq) (by omega) _ fun u h18 o18 f18 V18 h19 f19 hL19 => ?_
        rw [w64_eq (p + 1) (by omega) (by omega)]
        have z18 := f18.size
        have z19 := f19.size
        refine ⟨m - 1, by omega, by omega, by omega, rfl, ?_, ⟨rows ++ [zs], OwR.fr o18 f19 fun k hk hk2 hk3 => by simp [In] at hk3; omega, g9.snoc e16 r16, by simp; omega⟩, ?_, by omega⟩
        · exact ((D16.fr f18 fun k hk hk2 => by omega).fr f19 fun k hk hk2 => by simp [In] at hk2; omega).up (by omega)
        · exact (f16.trans (f18.mono fun k _ hk => .inr (by omega))).trans (f19.mono fun k _ hk => .inr (by simp [In] at hk; omega))
    · simp only [decide_eq_false_iff_not] at e
      have hrl : (rows.length : Int) = 1 + r := by omega
      refine k_one hL9.tail.tail.head hb D9 (by omega) 2 _ fun q20 i20 sd20 h20 V20 D20 f20 => ⟨d, i20, sd20, q20, rfl, vcur hL9 2 rfl f20 V20, fun _ => ?_, fun _ => ?_⟩
      · have z20 := f20.size
        have o20 : OwX h20 (fun k => h8.size ≤ k) x rows := OwR.fr o9 f20 fun k hk hk2 hk3 => by simp [In] at hk3; omega
        have hL20 := vcur hL9 2 rfl f20 V20
        refine ⟨fun m2 j h' => 0 ≤ j /\ j + m2 = 1 + r /\ CurD a (n + 100) h' d i20 /\ (∃ rs, OwX h' (fun k => h8.size ≤ k) x rs /\ GR (1 + r) 4 rs /\ (rs.length : Int) = 1 + r /\ ∀ k (hk : k < rs.length), j ≤ (k : Int) -> rs[k].length ≤ 3) /\ Fr (fun k => k = b ∨ h.size ≤ k) h h' /\ h8.size ≤ h'.size, ⟨(1 + r).toNat, by omega, by omega, D20.up (by omega), ⟨rows, o20, g9.up (by omega), hrl, fun k hk _ => (g9 _ (List.getElem_mem hk)).1⟩, f9.trans (inb f20), by omega⟩, ?_⟩
        rintro m2 j h21 ⟨j0, j1, D21, ⟨rs, o21, g21, e21, s21⟩, f21, z21⟩ hL21
        have hxn : (x.n : Int) = 1 + r := by have := OwR.len o21; omega
        refine ⟨fun ej => ?_, fun ej => ?_⟩
        · simp only [decide_eq_true_eq] at ej
          have hj : j < (rs.length : Int) := by omega
          have hsj := s21 j.toNat (by omega) (by omega)
          obtain ⟨si, c1, c2⟩ := row_put o21 z21 j0 hj hL21 (fun q hq => hoff _ _ _ q hq) (by omega) ((w64 (j + 1)).tmod (1 + r))
          refine ⟨(OwR.rd o21).inb j0 hj, si, c1, by omega, c2 _ fun h24 o24 f24 V24 => ?_⟩
          rw [w64_eq (j + 1) (by omega) (by omega)] at o24 ⊢
          refine ⟨m2 - 1, by omega, by omega, by omega, D21.fr f24 fun k hk hk2 => by omega, ⟨_, o24, g21.set _ (by simp; omega) ?_, by simp; omega, fun k hk hk2 => ?_⟩, f21.trans (f24.mono fun k _ hk => .inr (by omega)), by have := f24.size; omega⟩
          · intro v hv
            rcases List.mem_append.1 hv with a | a
            · exact (g21 _ (List.getElem_mem _)).2 v a
            · simp only [List.mem_cons, List.not_mem_nil, or_false] at a
              rw [a]; exact ⟨Int.tmod_nonneg _ (by omega), Int.tmod_lt_of_pos _ (by omega)⟩
          · rw [List.getElem_set, if_neg (by omega)]
            exact s21 k (by simpa using hk) (by omega)
        · intro h25 f25 hL25
          have o25 : OwX h25 (fun k => h8.size ≤ k) x rs := OwR.fr o21 f25 fun k hk hk2 hk3 => by simp [In] at hk3; omega
          refine HK x rs i20 sd20 h25 (OwR.ivs (OwR.toIv o25) (by omega) (Nat.le_refl _)) (by rw [e21]; exact g21) (by omega) (by omega) hL25.tail.tail.head (D21.fr f25 fun k hk hk2 => by simp [In] at hk2; omega) (fin _ (f21.trans (f25.mono fun k _ hk => .inr (by simp [In] at hk; omega))))
      · intro h26 f26 hL26
        have z20 := f20.size
        have o26 : OwX h26 (fun k => h8.size ≤ k) x rows := OwR.fr (OwR.fr o9 f20 fun k hk hk2 hk3 => by simp [In] at hk3; omega) f26 fun k hk hk2 hk3 => by simp [In] at hk3; omega
        refine HK x rows i20 sd20 h26 (OwR.ivs (OwR.toIv o26) (by omega) (Nat.le_refl _)) (by rw [hrl]; exact g9.up (by omega)) (by omega) (by omega) hL26.tail.tail.head ((D20.fr f26 fun k hk hk2 => by simp [In] at hk2; omega).up (by omega)) (fin _ ((f9.trans (inb f20)).trans (f26.mono fun k _ hk => .inr (by simp [In] at hk; omega))))
theorem row_set {L : List (Nat × List Value)} {F : Nat -> Prop} {m : Nat} {h : Heap} {s x : Sl} {xss : List (List Int)} {ys : List Int} {i : Int} (O : OwX h (fun k => F k /\ k < m) s xss) (X : OwI h (fun k => m ≤ k) x ys) (hF : ∀ k, m ≤ k -> F k) (h0 : 0 ≤ i) (h1 : i < (xss.length : Int)) (hL : Vars h L) (hoff : ∀ p, p ∈ L -> ¬ F p.1) (R : Heap -> Prop) (HR : ∀ h', OwX h' F s (xss.set i.toNat ys) -> Fr F h h' -> Vars h' L -> R h') : InB s i /\ Writable h (s.at i 1) /\ Vars (hset h (s.at i 1) x.v) L /\ ∀ h3, h3 = hset h (s.at i 1) x.v -> Vars h3 L -> R h3 := by
  obtain ⟨si, c1, c2, _⟩ := O.inner h0 h1
  obtain ⟨i11, w11, o11, f11⟩ := O.outer2 h0 h1 c1 (Fr.refl _ _) (F' := F) (X.mono fun k _ hk => hF k hk) (fun k _ hk => hk.1) fun k hk => .inr fun hk2 => by have := (X.foot hk).1; have := hk2.2; omega
  have g11 : Fr F h _ := (O.ownF f11).mono fun k _ hk => hk.1
  have V11 := hL.fr g11 hoff
  exact ⟨i11, w11, V11, fun h3 e3 V3 => HR h3 (by rw [e3]; exact o11) (by rw [e3]; exact g11) V3⟩
theorem k_sureWalk {a n b : Nat} {h : Heap} {c : Sl} {i sd : Int} (V : IsVar h b [c.v, VI i, .int .u64 sd]) (hb : a ≤ b) (D : CurD a n h c i) (hn : n ≤ 1000000000) {S : Nat -> Prop} {g : Sl} {xss : List (List Int)} (G : RdR S h g xss) (hS : ¬ S b) (hl : xss.length ≤ 1000) (K : Value -> Heap -> Prop) (HK : ∀ (t : Sl) (rs : List Int) (p i' sd' : Int) h', OwI h' (Iv h.size h'.size) t rs -> rs.length = xss.length -> IsVar h' b [c.v, VI i', .int .u64 sd'] -> CurD a (n + 2 + 2 * xss.length) h' c i' -> Fr (In [b]) h h' -> K (.agg #[t.v, VI p]) h') : callM Tryz.prog 83 #[VP b 0, .agg #[g.v]] h K := by
  have lb := V.lt
  refine v83 b c i sd g h K (.cons V (by simp) .nil) fun b2 b3 h2 hb2 hb3 f2 hL2 => ?_
  have f2 := f2.in_nil
  have z2 := f2.size
  have l3 : b3 < h2.size := hL2.head.lt
  have l2 : b2 < h2.size := hL2.tail.head.lt
  have fin : ∀ (h' : Heap), Fr (fun k => k = b ∨ h.size ≤ k) h h' -> Fr (In [b]) h h' := fun h' f => f.mono fun k hk hk2 => by
    rcases hk2 with e | e
    · simp [In, e]
    · omega
  have inb : ∀ {x y : Heap}, Fr (In [b]) x y -> Fr (fun k => k = b ∨ h.size ≤ k) x y := fun f => f.mono fun k _ hk => .inl (by simpa [In] using hk)
  have G0 : RdR (fun k => S k /\ k < h.size) h g xss := G.lowS
  have gT : ∀ k, (S k /\ k < h.size) -> ¬ (k = b ∨ h.size ≤ k) := fun k hk hk2 => by
    rcases hk2 with e | e
    · subst e; exact hS hk.1
    · omega
  refine k_pick hL2.tail.tail.head hb (D.no f2) (by omega) _ _ fun r i3 sd3 h3 r0 r1 V3 D3 f3 => ⟨c, i3, sd3, r, rfl, vcur hL2 2 rfl f3 V3, fun b4 h5 hb4 f5 hL5 => ?_⟩
  have f5 := f5.in_nil
  have z3 := f3.size
  have z5 := f5.size
  have l4 : b4 < h5.size := hL5.head.lt
  have gn := G.len
  refine ⟨fun m p x y d i' sd' h' => 0 ≤ p /\ p + m = (xss.length : Int) /\ y = r /\ d = c /\ CurD a (n + 2 + 2 * p.toNat) h' c i' /\ (∃ rs, OwI h' (fun k => h5.size ≤ k) x rs /\ rs.length = p.toNat) /\ Fr (fun k => k = b ∨ h.size ≤ k) h h' /\ h5.size ≤ h'.size, ⟨xss.length, by omega, by omega, rfl, rfl, (D3.no f5).up (by omega), ⟨[], Ow.nil _ _ _ _, rfl⟩, (f2.of_no.trans (inb f3)).trans f5.of_no, Nat.le_refl _⟩, ?_⟩
  rintro m p x y d i6 sd6 h6 ⟨p0, p1, rfl, rfl, D6, ⟨rs, o6, e6⟩, f6, z6⟩ hL6
  have G6 := G0.fr f6 gT
  refine ⟨fun e => ?_, fun e => ?_⟩
  · simp only [decide_eq_true_eq] at e
    obtain ⟨si, c1, r6⟩ := G6.get p0 (by omega)
    refine ⟨G6.inb p0 (by omega), si, c1, fun w d2 i' sd' h' => d2 = d /\ CurD a (n + 2 + 2 * p.toNat + 2) h' d i' /\ OwI h' (fun k => h5.size ≤ k) x rs /\ Fr (fun k => k = b ∨ h.size ≤ k) h h' /\ h5.size ≤ h'.size, ⟨fun _ => ?_, fun _ => ⟨rfl, D6.up (by omega), o6, f6, z6⟩⟩, ?_⟩
    · refine k_pick hL6.tail.tail.tail.head hb D6 (by omega) _ _ fun w i7 sd7 h7 w0 w1 V7 D7 f7 => ⟨d, i7, sd7, w, rfl, vcur hL6 3 rfl f7 V7, rfl, D7, Ow.fr o6 f7 fun k hk hk3 => by have := (o6.foot hk).1; simp [In] at hk3; omega, f6.trans (inb f7), by have := f7.size; omega⟩
    rintro w d2 i8 sd8 h8 ⟨rfl, D8, o8, f8, z8⟩ hL8
    refine eop_put (lo := h5.size) o8 z8 hL8 (fun q hq => by
      simp only [List.mem_cons, List.not_mem_nil, or_false] at hq
      rcases hq with rfl | rfl | rfl | rfl <;> simp only <;> omega) (by omega) _ fun u h10 o10 f10 V10 h11 f11 hL11 => ?_
    rw [w64_eq (p + 1) (by omega) (by omega)]
    have z10 := f10.size
    have z11 := f11.size
    refine ⟨m - 1, by omega, by omega, by omega, rfl, rfl, ?_, ⟨rs ++ [w], Ow.fr o10 f11 fun k hk hk3 => by have := (o10.foot hk).1; simp [In] at hk3; omega, by simp; omega⟩, ?_, by omega⟩
    · exact ((D8.fr f10 fun k hk hk2 => by omega).fr f11 fun k hk hk2 => by simp [In] at hk2; omega).up (by omega)
    · exact (f8.trans (f10.mono fun k _ hk => .inr (by omega))).trans (f11.mono fun k _ hk => .inr (by simp [In] at hk; omega))
  · simp only [decide_eq_false_iff_not] at e
    intro h12 f12 hL12
    have o12 : OwI h12 (fun k => h5.size ≤ k) x rs := Ow.fr o6 f12 fun k hk hk3 => by have := (o6.foot hk).1; simp [In] at hk3; omega
    refine HK x rs y i6 sd6 h12 (Ow.ivs (Ow.toIv o12) (by omega) (Nat.le_refl _)) (by omega) hL12.tail.tail.tail.head ?_ (fin _ (f6.trans (f12.mono fun k _ hk => .inr (by simp [In] at hk; omega))))
    exact (D6.fr f12 fun k hk hk2 => by simp [In] at hk2; omega).up (by omega)
theorem int_set {L : List (Nat × List Value)} {F : Nat -> Prop} {h : Heap} {s : Sl} {xs : List Int} {i : Int} {v : Int} (O : OwI h F s xs) (h0 : 0 ≤ i) (h1 : i < (xs.length : Int)) (hL : Vars h L) (hoff : ∀ p, p ∈ L -> ¬ F p.1) (R : Heap -> Prop) (HR : ∀ h', OwI h' F s (xs.set i.toNat v) -> Fr F h h' -> Vars h' L -> R h') : InB s i /\ Writable h (s.at i 1) /\ Vars (hset h (s.at i 1) (VI v)) L /\ ∀ h3, h3 = hset h (s.at i 1) (VI v) -> Vars h3 L -> R h3 := by
  have on := O.rd.len
  simp only [List.length_map, Nat.mul_one] at on
  obtain ⟨w1, w2, w3⟩ := O.store1 h0 (by omega) (VI v)
  have g : Fr F h _ := w3.mono fun k _ hk => (O.foot hk).1
  have V := hL.fr g hoff
  exact ⟨O.rd.inb h0 (by simp; omega), w1, V, fun h3 e3 V3 => HR h3 (by rw [e3, OwI, List.map_set]; exact w2) (by rw [e3]; exact g) V3⟩
theorem k_big (s t : Sl) (h : Heap) (K : Value -> Heap -> Prop) (HK : ∀ b, K (VB b) h) : callM Tryz.prog 5 #[s.v, t.v] h K :=
  v5 s t h K ⟨fun _ => HK true, fun _ => HK _⟩
theorem cell_keep {S T : Nat -> Prop} {h h' : Heap} {s : Sl} {xss : List (List Int)} {i : Int} (R : RdR S h s xss) (h0 : 0 ≤ i) (h1 : i < (xss.length : Int)) (f : Fr T h h') (hd : ∀ k, S k -> ¬ T k) {v : Value} (c : hcell h (s.at i 1) = some v) : hcell h' (s.at i 1) = some v := by
  obtain ⟨ss, e, V, _⟩ := R.out
  obtain ⟨a, ha, hs, _⟩ := V.cell i.toNat (by simp; omega)
  refine hcell_fr c f ?_
  rw [at_one ha, add_block]
  exact hd _ hs
theorem slv_inj {a b : Sl} (h : some a.v = some b.v) : a = b := by
  cases a; cases b; simp [Sl.v] at h; simp [h]
theorem row_putF {L : List (Nat × List Value)} {F : Nat -> Prop} {h : Heap} {s si : Sl} {xss : List (List Int)} {i : Int} (O : OwX h F s xss) (hF : ∀ k, h.size ≤ k -> F k) (h0 : 0 ≤ i) (h1 : i < (xss.length : Int)) (c0 : hcell h (s.at i 1) = some si.v) (hL : Vars h L) (hoff : ∀ p, p ∈ L -> ¬ F p.1) (hb : (xss[i.toNat]'(by omega)).length ≤ 1000000) (x : Int) (R : Heap -> Prop) (HR : ∀ h', OwX h' F s (xss.set i.toNat (xss[i.toNat]'(by omega) ++ [x])) -> Fr F h h' -> Vars h' L -> R h') : eop Tryz.prog (Instr.buildSlice tIs 1 #[(0, VI x)]) h fun rv h1 => ∃ t : Sl, rv = t.v /\ Vars h1 L /\ hcell h1 (s.at i 1) = some si.v /\ eop Tryz.prog (appS tIs tIs tIs si.v t.v) h1 fun rv2 h2 => ∃ t2 : Sl, rv2 = t2.v /\ Vars h2 L /\ InB s i /\ Writable h2 (s.at i 1) /\ Vars (hset h2 (s.at i 1) t2.v) L /\ ∀ h3, h3 = hset h2 (s.at i 1) t2.v -> Vars h3 L -> R h3 := by
  have Oi : OwX h (fun k => F k /\ k < h.size) s xss := O.mono fun k hk hk2 => ⟨hk2, hk⟩
  obtain ⟨sj, c1, c2, _⟩ := Oi.inner h0 h1
  have : sj = si := slv_inj (c1.symm.trans c0)
  subst this
  refine eop_lit rIs (fun k => h.size ≤ k) (fun _ h => h) 1 (by omega) [VI x] rfl rfl fun t h9 n9 c9 o9 f9 m9 _ => ⟨t, rfl, hL.of_no f9, hcell_fr c1 f9 (fun h => h), ?_⟩
  have s9 := f9.size
  have O9 := OwR.no Oi f9
  have c2' : OwI h9 F sj (xss[i.toNat]'(by omega)) := (Ow.no c2 f9).mono fun k _ hk => hk.1
  have on := c2'.rd.len
  have tn := o9.rd.len
  simp only [List.length_map, Nat.mul_one, List.length_cons, List.length_nil] at on tn
  refine eop_append rIs c2' (fun k hk => hF k (by omega)) o9.rd (plainVI [x]) (by omega) fun w h10 n10 o10 f10 d10 => ?_
  have g10 : Fr F h9 h10 := f10.mono fun k _ hk => (c2'.foot hk).1
  have V10 : Vars h10 L := (hL.of_no f9).fr g10 hoff
  have o10' : OwI h10 F w (xss[i.toNat]'(by omega) ++ [x]) := by rw [OwI, List.map_append]; exact o10
  obtain ⟨i11, w11, o11, f11⟩ := O9.outer2 h0 h1 (hcell_fr c1 f9 fun h => h) f10 (F' := F) o10' (fun k _ hk => hk.1) fun k hk => (d10 k hk).imp id fun hk2 hk3 => by have := hk3.2; omega
  have g11 : Fr F h10 _ := (O9.ownF f11).mono fun k _ hk => hk.1
  have V11 := V10.fr g11 hoff
  exact ⟨w, rfl, V10, i11, w11, V11, fun h3 e3 V3 => HR h3 (by rw [e3]; exact o11) (by rw [e3]; exact (f9.of_no.trans g10).trans g11) V3⟩
theorem eop_putF {L : List (Nat × List Value)} {F : Nat -> Prop} {m : Nat} {h : Heap} {s x : Sl} {xss : List (List Int)} {ys : List Int} (O : OwX h (fun k => F k /\ k < m) s xss) (X : OwI h (fun k => m ≤ k) x ys) (hF : ∀ k, m ≤ k -> F k) (hm : m ≤ h.size) (hL : Vars h L) (hoff : ∀ p, p ∈ L -> ¬ F p.1) (hb : xss.length ≤ 1000000) (R : Sl -> Heap -> Prop) (HR : ∀ t h', OwX h' F t (xss ++ [ys]) -> Fr F h h' -> Vars h' L -> R t h') : eop Tryz.prog (Instr.buildSlice tIss 1 #[(0, x.v)]) h fun rv h1 => ∃ t : Sl, rv = t.v /\ Vars h1 L /\ eop Tryz.prog (appS tIss tIss tIss s.v t.v) h1 fun rv2 h2 => ∃ t2 : Sl, rv2 = t2.v /\ Vars h2 L /\ R t2 h2 := by
  refine eop_lit rIss (fun k => h.size ≤ k) (fun _ h => h) 1 (by omega) [x.v] rfl rfl fun t h1 n1 c1 o1 f1 m1 _ => ⟨t, rfl, hL.of_no f1, ?_⟩
  have z1 := f1.size
  refine OwR.snoc rIss (OwR.no O f1) (F' := F) (fun k _ hk => hk.1) (fun k hk => hF k (by omega)) ((Ow.no X f1).mono fun k _ hk => hF k hk) (fun k hk hk2 => by have := (X.foot hk).1; have := hk2.2; omega) o1.rd (by omega) fun y h2 o2 f2 => ?_
  have g2 : Fr F h1 h2 := f2.mono fun k _ hk => hk.1
  have V2 : Vars h2 L := (hL.of_no f1).fr g2 hoff
  exact ⟨y, rfl, V2, HR y h2 o2 (f1.of_no.trans g2) V2⟩
theorem k_drplace {a n b : Nat} {h : Heap} {c : Sl} {i sd : Int} (V : IsVar h b [c.v, VI i, .int .u64 sd]) (hb : a ≤ b) (D : CurD a n h c i) (hn : n ≤ 10000000) (g : Sl) (K : Value -> Heap -> Prop) (HK : ∀ (p i' sd' : Int) h', IsVar h' b [c.v, VI i', .int .u64 sd'] -> CurD a (n + 4) h' c i' -> Fr (In [b]) h h' -> K (VI p) h') : callM Tryz.prog 61 #[VP b 0, .agg #[g.v]] h K := by
  have lb := V.lt
  have ub : ∀ {x y z : Heap}, Fr No x y -> Fr (In [b]) y z -> Fr (In [b]) x z := fun f g => f.of_no.trans g
  refine v61 b c i sd g h K (.cons V (by simp) .nil) ⟨fun _ b2 h1 hb2 f1 hL1 => ?_, fun e b2 h1 hb2 f1 hL1 => ?_⟩
  · have f1 := f1.in_nil
    have z1 := f1.size
    refine eop_lit rIs (fun k => h1.size ≤ k) (fun _ h => h) 4 (by omega) [VI (-1), VI 0, VI (g.n : Int), VI 4611686018427387904] rfl rfl fun w h6 n6 c6 o6 f6 m6 _ => ⟨w, rfl, hL1.of_no f6, ?_⟩
    have r6 : RdI (fun k => h1.size ≤ k) h6 w [-1, 0, (g.n : Int), 4611686018427387904] := o6.rdF
    exact k_among (hL1.of_no f6).tail.head hb ((D.no f1).no f6) (by omega) r6 (by omega) (by simp) _ fun v i7 sd7 h7 hv V7 D7 f7 => ⟨c, i7, sd7, v, rfl, vcur (hL1.of_no f6) 1 rfl f7 V7, HK v i7 sd7 h7 V7 (D7.up (by omega)) (ub (f1.no_trans f6) f7)⟩
  · have f1 := f1.in_nil
    have z1 := f1.size
    refine k_one hL1.tail.head hb (D.no f1) (by omega) 14 _ fun q i2 sd2 h2 V2 D2 f2 => ⟨c, i2, sd2, q, rfl, vcur hL1 1 rfl f2 V2, fun _ => ?_, fun _ => ?_⟩
    · have z2 := f2.size
      have hL2 := vcur hL1 1 rfl f2 V2
      refine eop_lit rIs (fun k => h2.size ≤ k) (fun _ h => h) 4 (by omega) [VI (-1), VI 0, VI (g.n : Int), VI 4611686018427387904] rfl rfl fun w h6 n6 c6 o6 f6 m6 _ => ⟨w, rfl, hL2.of_no f6, ?_⟩
      have r6 : RdI (fun k => h2.size ≤ k) h6 w [-1, 0, (g.n : Int), 4611686018427387904] := o6.rdF
      exact k_among (hL2.of_no f6).tail.head hb (D2.no f6) (by omega) r6 (by omega) (by simp) _ fun v i7 sd7 h7 hv V7 D7 f7 => ⟨c, i7, sd7, v, rfl, vcur (hL2.of_no f6) 1 rfl f7 V7, HK v i7 sd7 h7 V7 (D7.up (by omega)) ((ub f1 f2).trans (ub f6 f7))⟩
    · have hL2 := vcur hL1 1 rfl f2 V2
      exact k_pick hL2.tail.head hb D2 (by omega) _ _ fun v i5 sd5 h5 v0 v1 V5 D5 f5 => ⟨c, i5, sd5, v, rfl, vcur hL2 1 rfl f5 V5, HK v i5 sd5 h5 V5 (D5.up (by omega)) ((ub f1 f2).trans f5)⟩
theorem k_drgraph9 {a n b : Nat} {h : Heap} {c : Sl} {i sd : Int} (V : IsVar h b [c.v, VI i, .int .u64 sd]) (hb : a ≤ b) (D : CurD a n h c i) (hn : n ≤ 10000000) (K : Value -> Heap -> Prop) (HK : ∀ (t : Sl) (gs : List (List Int)) (i' sd' : Int) h', gs.length ≤ 9 -> RdR (fun k => h.size ≤ k) h' t gs -> IsVar h' b [c.v, VI i', .int .u64 sd'] -> CurD a (n + 200) h' c i' -> Fr (In [b]) h h' -> K (.agg #[t.v]) h') : callM Tryz.prog 121 #[VP b 0] h K := by
  have lb := V.lt
  refine v121 b c i sd h K (.cons V (by simp) .nil) fun b2 h1 hb2 f1 hL1 => ?_
  have f1 := f1.in_nil
  have z1 := f1.size
  have l2 : b2 < h1.size := hL1.head.lt
  have fin : ∀ (h' : Heap), Fr (fun k => k = b ∨ h.size ≤ k) h h' -> Fr (In [b]) h h' := fun h' f => f.mono fun k hk hk2 => by
    rcases hk2 with e | e
    · simp [In, e]
    · omega
  have inb : ∀ {x y : Heap}, Fr (In [b]) x y -> Fr (fun k => k = b ∨ h.size ≤ k) x y := fun f => f.mono fun k _ hk => .inl (by simpa [In] using hk)
  refine k_sureGraph hL1.tail.head hb (D.no f1) (by omega) (most := 6) (by omega) (by omega) _ fun t xss i2 sd2 h2 o2 g2 n1 n2 V2 D2 f2 => ⟨c, i2, sd2, t, rfl, vcur hL1 1 rfl f2 V2, fun b3 h4 hb3 f4 hL4 => ?_⟩
  have f4 := f4.in_nil
  have z2 := f2.size
  have z4 := f4.size
  have l3 : b3 < h4.size := hL4.head.lt
  have tn := OwR.len o2
  generalize hF : (fun k => (h1.size ≤ k /\ k < h2.size) ∨ h4.size ≤ k) = F
  have F1 : ∀ k, F k -> h1.size ≤ k := fun k hk => by rw [← hF] at hk; rcases hk with a | a <;> omega
  have F2 : ∀ k, h4.size ≤ k -> F k := fun k hk => by rw [← hF]; exact .inr hk
  have F3 : ¬ F b3 := fun hk => by rw [← hF] at hk; rcases hk with a | a <;> omega
  have o4 : OwX h4 F t xss := (OwR.no o2 f4).mono fun k hk hk2 => by rw [← hF]; exact .inl hk2
  have f04 : Fr (fun k => k = b ∨ h.size ≤ k) h h4 := (f1.of_no.trans (inb f2)).trans f4.of_no
  have gb : ∀ {X Y : Heap} {w : Sl} {zs : List (List Int)}, OwX X F w zs -> Fr (In [b]) X Y -> OwX Y F w zs := fun O f => OwR.fr O f fun k hk hk2 hk3 => by simp [In] at hk3; have := F1 _ hk2; omega
  have fT : ∀ {x y : Heap}, Fr F x y -> Fr (fun k => k = b ∨ h.size ≤ k) x y := fun f => f.mono fun k _ hk => .inr (by have := F1 _ hk; omega)
  have hoff : ∀ (A B C : List Value) (q : Nat × List Value), q ∈ [(b3, A), (b2, B), (b, C)] -> ¬ F q.1 := fun A B C q hq => by
    simp only [List.mem_cons, List.not_mem_nil, or_false] at hq
    rcases hq with rfl | rfl | rfl
    · exact F3
    · exact fun hk => by have := F1 _ hk; omega
    · exact fun hk => by have := F1 _ hk; omega
  have out : ∀ (w : Sl) (zs : List (List Int)) (i' sd' : Int) (X Y : Heap), OwX X F w zs -> zs.length ≤ 9 -> CurD a (n + 200) X c i' -> Fr (fun k => k = b ∨ h.size ≤ k) h X -> Fr (In [b2]) X Y -> IsVar Y b [c.v, VI i', .int .u64 sd'] -> K (.agg #[w.v]) Y := fun w zs i' sd' X Y O zl DD ff f VV => by
    have OY : OwX Y F w zs := OwR.fr O f fun k hk hk2 hk3 => by simp [In] at hk3; subst hk3; have := F1 _ hk2; omega
    exact HK w zs i' sd' Y zl ((OwR.rd OY).mono fun k hk => by have := F1 _ hk.1; omega) VV (DD.fr f fun k hk hk2 => by simp [In] at hk2; omega) (fin _ (ff.trans (f.mono fun k _ hk => .inr (by simp [In] at hk; omega))))
  refine k_pick hL4.tail.tail.head hb (D2.no f4) (by omega) 16 _ fun s i5 sd5 h5 s0 s1 V5 D5 f5 => ⟨c, i5, sd5, s, rfl, vcur hL4 2 rfl f5 V5, fun _ => ?_, fun _ => ⟨fun _ => ?_, fun _ => ⟨fun _ => ?_, fun _ => ⟨fun _ h24 f24 hL24 => ?_, fun _ h25 f25 hL25 => ?_⟩⟩⟩⟩
  · have o5 := gb o4 f5
    have z5 := f5.size
    have hL5 : Vars h5 [(b3, [t.v]), (b2, [nilSl.v]), (b, [c.v, VI i5, .int .u64 sd5])] := vcur hL4 2 rfl f5 V5
    have hp : (0 : Int) < (xss.length : Int) := by omega
    obtain ⟨si, c1, c2, _⟩ := OwR.inner o5 (Int.le_refl 0) hp
    have r5 := OwR.rd o5
    refine ⟨r5.inb (Int.le_refl 0) hp, si, c1, ?_⟩
    refine eop_lit rIs (fun k => h5.size ≤ k) (fun _ h => h) 3 (by omega) [VI (-1), VI (t.n : Int), VI 4611686018427387904] rfl rfl fun w h6 n6 c6 o6 f6 m6 _ => ⟨w, rfl, hL5.of_no f6, hcell_fr c1 f6 (fun h => h), ?_⟩
    have z6 := f6.size
    have r6 : RdI (fun k => h5.size ≤ k) h6 w [-1, (t.n : Int), 4611686018427387904] := o6.rdF
    refine k_among (hL5.of_no f6).tail.tail.head hb (D5.no f6) (by omega) r6 (by omega) (by simp) _ fun v i7 sd7 h7 hv V7 D7 f7 => ⟨c, i7, sd7, v, rfl, vcur (hL5.of_no f6) 2 rfl f7 V7, ?_⟩
    have z7 := f7.size
    have hL7 : Vars h7 [(b3, [t.v]), (b2, [nilSl.v]), (b, [c.v, VI i7, .int .u64 sd7])] := vcur (hL5.of_no f6) 2 rfl f7 V7
    have c7 : hcell h7 (t.at 0 1) = some si.v := cell_keep (r5.no f6) (Int.le_refl 0) hp f7 (fun k hk hk2 => by simp [In] at hk2; have := F1 _ hk.1; omega) (hcell_fr c1 f6 fun h => h)
    have g0 := (g2 _ (List.getElem_mem (show (0 : Int).toNat < xss.length by omega))).1
    refine ⟨c7, row_putF (gb (OwR.no o5 f6) f7) (fun k hk => F2 k (by omega)) (Int.le_refl 0) hp c7 hL7 (fun q hq => hoff _ _ _ q hq) (by omega) v _ fun h10 o10 f10 V10 h11 f11 hL11 => ?_⟩
    exact out t _ i7 sd7 h10 h11 o10 (by simp; omega) ((D7.fr f10 fun k hk hk2 => by have := F1 _ hk2; omega).up (by omega)) ((((f04.trans (inb f5)).trans f6.of_no).trans (inb f7)).trans (fT f10)) f11 hL11.tail.tail.head
  · have o5 := gb o4 f5
    have z5 := f5.size
    have hL5 : Vars h5 [(b3, [t.v]), (b2, [nilSl.v]), (b, [c.v, VI i5, .int .u64 sd5])] := vcur hL4 2 rfl f5 V5
    have hp : (0 : Int) < (xss.length : Int) := by omega
    refine k_pick hL5.tail.tail.head hb D5 (by omega) 2 _ fun y i6 sd6 h6 y0 y1 V6 D6 f6 => ⟨c, i6, sd6, y, rfl, vcur hL5 2 rfl f6 V6, ?_⟩
    have y1 := y1 (by omega)
    have z6 := f6.size
    have hL6 : Vars h6 [(b3, [t.v]), (b2, [nilSl.v]), (b, [c.v, VI i6, .int .u64 sd6])] := vcur hL5 2 rfl f6 V6
    rw [w64_eq (5 + y) (by omega) (by omega)]
    have ey : 5 + y = (((5 + y).toNat : Nat) : Int) := by omega
    rw [ey]
    refine eop_make rIs (fun k => h6.size ≤ k) (fun _ h => h) .i64 .i64 (5 + y).toNat (5 + y).toNat (Nat.le_refl _) (by omega) fun w h7 n7 c7 o7 f7 m7 _ => ⟨w, rfl, hL6.of_no f7, ?_⟩
    have z7 := f7.size
    have o7' : OwI h7 (fun k => h6.size ≤ k) w (List.replicate (5 + y).toNat 0) := by
      have e : (List.replicate (5 + y).toNat [VI 0]).flatten = (List.replicate (5 + y).toNat (0 : Int)).map VI := by simp [List.flatten_replicate_singleton]
      rw [e] at o7; exact o7
    have o6i : OwX h6 (fun k => F k /\ k < h6.size) t xss := (gb o5 f6).mono fun k hk hk2 => ⟨hk2, hk⟩
    exact row_set (m := h6.size) (OwR.no o6i f7) o7' (fun k hk => F2 k (by omega)) (Int.le_refl 0) hp (hL6.of_no f7) (fun q hq => hoff _ _ _ q hq) _ fun h10 o10 f10 V10 h11 f11 hL11 => out t _ i6 sd6 h10 h11 o10 (by simp; omega) (((D6.no f7).fr f10 fun k hk hk2 => by have := F1 _ hk2; omega).up (by omega)) ((((f04.trans (inb f5)).trans (inb f6)).trans f7.of_no).trans (fT f10)) f11 hL11.tail.tail.head
  · have o5 := gb o4 f5
    have z5 := f5.size
    refine ⟨fun m x d i' sd' h' => d = c /\ CurD a (n + 104 + 4 * (9 - m)) h' c i' /\ m ≤ 9 /\ (∃ zs, OwX h' F x zs /\ zs.length + m = 9) /\ Fr (fun k => k = b ∨ h.size ≤ k) h h' /\ h4.size ≤ h'.size, ⟨9 - xss.length, rfl, D5.up (by omega), by omega, ⟨xss, o5, by omega⟩, f04.trans (inb f5), by omega⟩, ?_⟩
    rintro m x d i16 sd16 h16 ⟨rfl, D16, m9, ⟨zs, o16, e16⟩, f16, z16⟩ hL16
    have xn := OwR.len o16
    refine k_pick hL16.tail.tail.head hb D16 (by omega) 2 _ fun y i17 sd17 h17 y0 y1 V17 D17 f17 => ⟨d, i17, sd17, y, rfl, vcur hL16 2 rfl f17 V17, fun e => ?_, fun e h22 f22 hL22 => ?_⟩
    · have y1 := y1 (by omega)
      have z17 := f17.size
      rw [w64_eq (8 + y) (by omega) (by omega)] at e
      simp only [decide_eq_true_eq] at e
      have hL17 : Vars h17 [(b3, [x.v]), (b2, [nilSl.v]), (b, [d.v, VI i17, .int .u64 sd17])] := vcur hL16 2 rfl f17 V17
      refine eop_lit rIs (fun k => h17.size ≤ k) (fun _ h => h) 1 (by omega) [VI 0] rfl rfl fun w h18 n18 c18 o18 f18 m18 _ => ⟨w, rfl, hL17.of_no f18, ?_⟩
      have z18 := f18.size
      have o17i : OwX h17 (fun k => F k /\ k < h17.size) x zs := (gb o16 f17).mono fun k hk hk2 => ⟨hk2, hk⟩
      refine eop_putF (m := h17.size) (xss := zs) (ys := [0]) (OwR.no o17i f18) o18 (fun k hk => F2 k (by omega)) z18 (hL17.of_no f18) (fun q hq => hoff _ _ _ q hq) (by omega) _ fun u h20 o20 f20 V20 h21 f21 hL21 => ?_
      have z20 := f20.size
      have z21 := f21.size
      have o21 : OwX h21 F u (zs ++ [[0]]) := OwR.fr o20 f21 fun k hk hk2 hk3 => by simp [In] at hk3; subst hk3; exact F3 hk2
      refine ⟨m - 1, by omega, rfl, ?_, by omega, ⟨_, o21, by simp; omega⟩, ?_, by omega⟩
      · exact (((D17.no f18).fr f20 fun k hk hk2 => by have := F1 _ hk2; omega).fr f21 fun k hk hk2 => by simp [In] at hk2; omega).up (by omega)
      · exact (((f16.trans (inb f17)).trans f18.of_no).trans (fT f20)).trans (f21.mono fun k _ hk => .inr (by simp [In] at hk; omega))
    · exact out x zs i17 sd17 h17 h22 (gb o16 f17) (by omega) (D17.up (by omega)) (f16.trans (inb f17)) f22 hL22.tail.tail.head
  · have g24 : Fr (fun k => k = b ∨ h.size ≤ k) h5 h24 := f24.mono fun k _ hk => .inr (by simp [In] at hk; omega)
    exact HK nilSl [] i5 sd5 h24 (by simp) ⟨[], rfl, RdV.nil _ _ _, fun i h1 => by simp at h1⟩ hL24.tail.tail.head ((D5.fr f24 fun k hk hk2 => by simp [In] at hk2; omega).up (by omega)) (fin _ ((f04.trans (inb f5)).trans g24))
  · exact out t xss i5 sd5 h5 h25 (gb o4 f5) (by omega) (D5.up (by omega)) (f04.trans (inb f5)) f25 hL25.tail.tail.head
theorem k_wSame {S S' : Nat -> Prop} {h : Heap} {a b : Sl} {xs ys : List Int} (H : RdI S h a xs) (H' : RdI S' h b ys) (K : Value -> Heap -> Prop) (HK : K (VB (decide (xs = ys))) h) : callM Tryz.prog 16 #[a.v, b.v] h K := by
  refine v16 a b h K ⟨fun e => ?_, fun e => ?_⟩
  · have e1 := not_t e
    rw [H.len, H'.len] at e1
    have : ¬ xs = ys := fun e2 => by subst e2; simp at e1
    rw [decide_eq_false this] at HK
    exact HK
  · have e1 := not_f e
    rw [H.len, H'.len] at e1
    have hl : xs.length = ys.length := by simp at e1; omega
    refine ⟨fun n i h' => h' = h /\ 0 ≤ i /\ i + n = (xs.length : Int) /\ decide (xs = ys) = decide (xs.drop i.toNat = ys.drop i.toNat), ⟨xs.length, rfl, by omega, by omega, by simp⟩, ?_⟩
    rintro n i hh ⟨rfl, h0, h1, h2⟩ hL
    refine ⟨fun e => ?_, fun e => ?_⟩
    · have hi := H.lt e
      have hi' : i < (ys.length : Int) := by omega
      refine ⟨H.inb h0 hi, _, H.get h0 hi, H'.inb h0 hi', _, H'.get h0 hi', fun e => ?_, fun e => ?_⟩
      · rw [drop_cons xs h0 hi, drop_cons ys h0 hi'] at h2
        have e3 := not_t e
        simp only [decide_eq_false_iff_not] at e3
        rw [h2, decide_eq_false (fun e4 => e3 (List.cons.inj e4).1)] at HK
        exact HK
      · rw [drop_cons xs h0 hi, drop_cons ys h0 hi'] at h2
        have e3 := not_f e
        simp only [decide_eq_true_eq] at e3
        rw [H.succ h0 hi]
        refine ⟨n - 1, by omega, rfl, by omega, by omega, h2.trans ?_⟩
        rw [e3]
        simp
    · have hi := H.ge e
      rw [List.drop_of_length_le (by omega), List.drop_of_length_le (by omega)] at h2
      rw [h2] at HK
      exact HK
theorem k_entries {S : Nat -> Prop} {h : Heap} {g : Sl} {xss : List (List Int)} (G : RdR S h g xss) (hn : xss.length + totR xss ≤ 1000000000) (p : Int) : Ret Tryz.prog 136 #[.agg #[g.v], VI p] h (VI (xss.flatten.count p : Nat)) := by
  intro K HK
  refine v136 g p h K fun b1 h1 hb1 f1 hL1 => ?_
  have f1 := f1.in_nil
  refine k_Concat (G.no f1) hn _ fun t h2 o2 f2 => ⟨t, rfl, hL1.of_no f2, ?_⟩
  have R := Ow.rdI o2
  have hfl := totR_flat xss
  refine ⟨fun n m i h' => h2 = h' /\ 0 ≤ i /\ i + n = (xss.flatten.length : Int) /\ m = (((xss.flatten.take i.toNat).count p : Nat) : Int), ⟨xss.flatten.length, rfl, by omega, by omega, by simp⟩, ?_⟩
  rintro n m i _ ⟨rfl, i0, i1, e1⟩ hL
  refine ⟨fun e => ?_, fun e => ?_⟩
  · have hi := R.lt e
    have hc : (xss.flatten.take i.toNat).count p ≤ xss.flatten.length := Nat.le_trans List.count_le_length (by rw [List.length_take]; exact Nat.min_le_right _ _)
    have es : (xss.flatten.take (i + 1).toNat).count p = (xss.flatten.take i.toNat).count p + (if (xss.flatten[i.toNat]'(by omega)) = p then 1 else 0) := by
      rw [take_snoc _ i0 hi, List.count_append, List.count_singleton]
      simp only [beq_iff_eq]
    refine ⟨R.inb i0 hi, _, R.get i0 hi, fun c => ?_, fun c => ?_⟩
    · simp only [decide_eq_true_eq] at c
      rw [R.succ i0 hi, w64_eq (m + 1) (by omega) (by omega)]
      exact ⟨n - 1, by omega, rfl, by omega, by omega, by rw [es, if_pos c]; omega⟩
    · simp only [decide_eq_false_iff_not] at c
      rw [R.succ i0 hi]
      exact ⟨n - 1, by omega, rfl, by omega, by omega, by rw [es, if_neg c]; omega⟩
  · have hi := R.ge e
    rw [List.take_of_length_le (by omega)] at e1
    rw [e1]
    exact HK h2 (f1.no_trans f2)
theorem k_CountExits {S : Nat -> Prop} {h : Heap} {g : Sl} {xss : List (List Int)} (G : RdR S h g xss) (K : Value -> Heap -> Prop) (HK : ∀ h', Fr No h h' -> K (.tuple #[VI (if graphB xss then (totR xss : Int) else 0), VB (graphB xss)]) h') : callM Tryz.prog 37 #[.agg #[g.v]] h K := by
  refine v37 g h K fun b1 h1 hb1 f1 hL1 => ?_
  have f1 := f1.in_nil
  refine k_isGraph (G.no f1) _ fun h2 f2 => ⟨_, rfl, hL1.of_no f2, fun e => ?_, fun e => ?_⟩
  · have := HK h2 (f1.no_trans f2)
    rw [not_t e] at this
    exact this
  · have e := not_f e
    have hg := graph_len e
    have ht := graph_tot e
    refine k_Concat ((G.no f1).no f2) (by omega) _ fun t h3 o3 f3 => ⟨t, rfl, (hL1.of_no f2).of_no f3, ?_⟩
    have := HK h3 ((f1.no_trans f2).no_trans f3)
    rw [e, if_pos rfl] at this
    have tn := (Ow.rdI o3).len
    rw [totR_flat] at tn
    rw [tn]
    exact this
theorem k_reach {S : Nat -> Prop} {h : Heap} {g : Sl} {xss : List (List Int)} (G : RdR S h g xss) (hg : graphB xss = true) {p : Int} (h0 : 0 ≤ p) (h1 : p < (xss.length : Int)) (K : Value -> Heap -> Prop) (HK : ∀ (t : Sl) (h' : Heap), t.n = (farP xss p).countP (fun x => decide (0 ≤ x)) -> Fr No h h' -> K t.v h') : callM Tryz.prog 135 #[.agg #[g.v], VI p] h K := by
  refine v135 g p h K fun b1 h1' hb1 f1 hL1 => ?_
  have f1 := f1.in_nil
  have hgl := graph_len hg
  have l1 : b1 < h1'.size := hL1.head.lt
  refine eop_lit rIs (fun k => h1'.size ≤ k) (fun _ h => h) 0 (by omega) [] rfl rfl fun t h2 n2 c2 o2 f2 m2 _ => ⟨t, rfl, hL1.of_no f2, ?_⟩
  have z2 := f2.size
  refine k_lengths ((G.no f1).no f2) hg h0 h1 _ fun w h3 o3 fl f3 => ⟨w, rfl, (hL1.of_no f2).of_no f3, ?_⟩
  have z3 := f3.size
  have R3 : RdI (Iv h2.size h3.size) h3 w _ := Ow.rdI o3
  have o2' : OwI h3 (fun k => (Iv h1'.size h2.size k ∨ h3.size ≤ k)) t [] := (Ow.no o2 f3).mono fun k _ hk => by
    have := (o2.foot (by assumption)).2
    exact .inl ⟨hk, this⟩
  refine ⟨fun n x i h' => 0 ≤ i /\ i + n = ((farP xss p).length : Int) /\ (∃ ys, OwI h' (fun k => Iv h1'.size h2.size k ∨ h3.size ≤ k) x ys /\ ys.length = ((farP xss p).take i.toNat).countP (fun x => decide (0 ≤ x))) /\ RdI (Iv h2.size h3.size) h' w (farP xss p) /\ Fr (fun k => Iv h1'.size h2.size k ∨ h3.size ≤ k) h3 h' /\ h3.size ≤ h'.size, ⟨(farP xss p).length, by omega, by omega, ⟨[], o2', by simp⟩, R3, Fr.refl _ _, Nat.le_refl _⟩, ?_⟩
  rintro n x i h4 ⟨i0, i1, ⟨ys, o4, e4⟩, R4, f4, z4⟩ hL4
  have wn := R4.len
  refine ⟨fun e => ?_, fun e => ?_⟩
  · have hi := R4.lt e
    have hcl : ((farP xss p).take i.toNat).countP (fun x => decide (0 ≤ x)) ≤ (farP xss p).length := Nat.le_trans List.countP_le_length (by rw [List.length_take]; exact Nat.min_le_right _ _)
    have es : ((farP xss p).take (i + 1).toNat).countP (fun x => decide (0 ≤ x)) = ((farP xss p).take i.toNat).countP (fun x => decide (0 ≤ x)) + (if 0 ≤ ((farP xss p)[i.toNat]'(by omega)) then 1 else 0) := by
      rw [take_snoc _ i0 hi, List.countP_append, List.countP_singleton]
      simp only [decide_eq_true_eq]
    refine ⟨R4.inb i0 hi, _, R4.get i0 hi, fun c => ?_, fun c => ?_⟩
    · simp only [decide_eq_true_eq] at c
      refine eop_lit rIs (fun k => h4.size ≤ k) (fun _ h => h) 1 (by omega) [VI i] rfl rfl fun u h5 n5 c5 o5 f5 m5 _ => ⟨u, rfl, hL4.of_no f5, ?_⟩
      have z5 := f5.size
      have o4n := Ow.no o4 f5
      have on := o4n.rd.len
      have un := o5.rd.len
      simp only [List.length_map, Nat.mul_one, List.length_cons, List.length_nil] at on un
      refine eop_append rIs o4n (fun k hk => .inr (by omega)) o5.rd (plainVI [i]) (by omega) fun y h6 n6 o6 f6 d6 => ?_
      have g6 : Fr (fun k => Iv h1'.size h2.size k ∨ h3.size ≤ k) h5 h6 := f6.mono fun k _ hk => (o4n.foot hk).1
      have V6 := (hL4.of_no f5).fr g6 fun q hq hk => by
        simp only [List.mem_cons, List.not_mem_nil, or_false] at hq
        subst hq
        simp only at hk
        rcases hk with e | e
        · have := e.1; omega
        · omega
      rw [R4.succ i0 hi]
      refine ⟨y, rfl, V6, n - 1, by omega, by omega, by omega, ⟨ys ++ [i], by rw [OwI, List.map_append]; exact o6, by rw [es, if_pos c]; simp; omega⟩, (R4.no f5).fr g6 fun k hk hk2 => ?_, (f4.trans f5.of_no).trans g6, by have := f6.size; omega⟩
      have h1 := hk.1; have h2 := hk.2
      rcases hk2 with e | e
      · have := e.2; omega
      · omega
    · simp only [decide_eq_false_iff_not] at c
      rw [R4.succ i0 hi]
      exact ⟨n - 1, by omega, by omega, by omega, ⟨ys, o4, by rw [es, if_neg c]; omega⟩, R4, f4, z4⟩
  · have hi := R4.ge e
    rw [List.take_of_length_le (by omega)] at e4
    have xn := o4.rd.len
    simp only [List.length_map, Nat.mul_one] at xn
    refine HK x h4 (by omega) (((f1.no_trans f2).no_trans f3).fresh f4 fun k hk => ?_)
    rcases hk with e | e
    · have := e.1; have := f1.size; omega
    · have := f1.size; omega
def strongB (g : List (List Int)) : Bool := (List.range g.length).all fun p => decide ((farP g p).countP (fun x => decide (0 ≤ x)) = g.length)
def balB (g : List (List Int)) : Bool := (List.range g.length).all fun p => decide ((g.getD p []).length = g.flatten.count (p : Int))
theorem k_isStrong {S : Nat -> Prop} {h : Heap} {g : Sl} {xss : List (List Int)} (G : RdR S h g xss) (hg : graphB xss = true) : Ret Tryz.prog 95 #[.agg #[g.v]] h (VB (strongB xss)) := by
  intro K HK
  have hgl := graph_len hg
  refine v95 g h K fun b1 h1 hb1 f1 hL1 => ?_
  have f1 := f1.in_nil
  refine ⟨fun n i h' => 0 ≤ i /\ i + n = (xss.length : Int) /\ (∀ p : Nat, (p : Int) < i -> (farP xss p).countP (fun x => decide (0 ≤ x)) = xss.length) /\ Fr No h h', ⟨xss.length, by omega, by omega, fun p hp => by omega, f1⟩, ?_⟩
  rintro n i h2 ⟨i0, i1, hp, f2⟩ hL2
  have G2 := G.no f2
  have gn := G2.len
  refine ⟨fun e => ?_, fun e => ?_⟩
  · have hi := G2.lt e
    refine k_reach G2 hg i0 hi _ fun t h3 e3 f3 => ⟨t, rfl, hL2.of_no f3, fun c => ?_, fun c => ?_⟩
    · have c := not_t c
      simp only [decide_eq_false_iff_not] at c
      have : strongB xss = false := by
        refine Bool.eq_false_iff.2 fun hs => ?_
        have := List.all_eq_true.1 hs i.toNat (by simpa using by omega)
        simp only [decide_eq_true_eq] at this
        rw [show ((i.toNat : Nat) : Int) = i by omega] at this
        omega
      rw [this] at HK
      exact HK h3 (f2.no_trans f3)
    · have c := not_f c
      simp only [decide_eq_true_eq] at c
      rw [G2.succ i0 hi]
      refine ⟨n - 1, by omega, by omega, by omega, fun p hp' => ?_, f2.no_trans f3⟩
      by_cases hpi : (p : Int) < i
      · exact hp p hpi
      · have : (p : Int) = i := by omega
        rw [this]; omega
  · have hi := G2.ge e
    have : strongB xss = true := List.all_eq_true.2 fun p hpr => by
      simp only [decide_eq_true_eq]
      exact hp p (by have := List.mem_range.1 hpr; omega)
    rw [this] at HK
    exact HK h2 f2
theorem k_isBalanced {S : Nat -> Prop} {h : Heap} {g : Sl} {xss : List (List Int)} (G : RdR S h g xss) (hg : graphB xss = true) : Ret Tryz.prog 96 #[.agg #[g.v]] h (VB (balB xss)) := by
  intro K HK
  have hgl := graph_len hg
  have hgt := graph_tot hg
  refine v96 g h K fun b1 h1 hb1 f1 hL1 => ?_
  have f1 := f1.in_nil
  refine ⟨fun n i h' => 0 ≤ i /\ i + n = (xss.length : Int) /\ (∀ p : Nat, (p : Int) < i -> (xss.getD p []).length = xss.flatten.count (p : Int)) /\ Fr No h h', ⟨xss.length, by omega, by omega, fun p hp => by omega, f1⟩, ?_⟩
  rintro n i h2 ⟨i0, i1, hp, f2⟩ hL2
  have G2 := G.no f2
  have gn := G2.len
  refine ⟨fun e => ?_, fun e => ?_⟩
  · have hi := G2.lt e
    obtain ⟨si, c1, r1⟩ := G2.get i0 hi
    have sn := r1.len
    have eg : xss.getD i.toNat [] = xss[i.toNat]'(by omega) := getD_get (by omega)
    refine ⟨G2.inb i0 hi, si, c1, k_entries G2 (by omega) i _ fun h3 f3 => ⟨_, rfl, hL2.of_no f3, fun c => ?_, fun c => ?_⟩⟩
    · have c := not_t c
      simp only [decide_eq_false_iff_not] at c
      have : balB xss = false := by
        refine Bool.eq_false_iff.2 fun hs => ?_
        have := List.all_eq_true.1 hs i.toNat (by simpa using by omega)
        simp only [decide_eq_true_eq] at this
        rw [show ((i.toNat : Nat) : Int) = i by omega, eg] at this
        omega
      rw [this] at HK
      exact HK h3 (f2.no_trans f3)
    · have c := not_f c
      simp only [decide_eq_true_eq] at c
      rw [G2.succ i0 hi]
      refine ⟨n - 1, by omega, by omega, by omega, fun p hp' => ?_, f2.no_trans f3⟩
      by_cases hpi : (p : Int) < i
      · exact hp p hpi
      · have : p = i.toNat := by omega
        rw [this, eg, show ((i.toNat : Nat) : Int) = i by omega]; omega
  · have hi := G2.ge e
    have : balB xss = true := List.all_eq_true.2 fun p hpr => by
      simp only [decide_eq_true_eq]
      exact hp p (by have := List.mem_range.1 hpr; omega)
    rw [this] at HK
    exact HK h2 f2
theorem k_IsStrong {S : Nat -> Prop} {h : Heap} {g : Sl} {xss : List (List Int)} (G : RdR S h g xss) (K : Value -> Heap -> Prop) (HK : ∀ h', Fr No h h' -> K (.tuple #[VB (graphB xss && strongB xss), VB (graphB xss)]) h') : callM Tryz.prog 35 #[.agg #[g.v]] h K := by
  refine v35 g h K fun b1 h1 hb1 f1 hL1 => ?_
  have f1 := f1.in_nil
  refine k_isGraph (G.no f1) _ fun h2 f2 => ⟨_, rfl, hL1.of_no f2, fun e => ?_, fun e => ?_⟩
  · have := HK h2 (f1.no_trans f2)
    rw [not_t e] at this
    exact this
  · have e := not_f e
    refine k_isStrong ((G.no f1).no f2) e _ fun h3 f3 => ⟨_, rfl, (hL1.of_no f2).of_no f3, ?_⟩
    have := HK h3 ((f1.no_trans f2).no_trans f3)
    rw [e, Bool.true_and] at this
    exact this
theorem k_IsBalanced {S : Nat -> Prop} {h : Heap} {g : Sl} {xss : List (List Int)} (G : RdR S h g xss) (K : Value -> Heap -> Prop) (HK : ∀ h', Fr No h h' -> K (.tuple #[VB (graphB xss && balB xss), VB (graphB xss)]) h') : callM Tryz.prog 36 #[.agg #[g.v]] h K := by
  refine v36 g h K fun b1 h1 hb1 f1 hL1 => ?_
  have f1 := f1.in_nil
  refine k_isGraph (G.no f1) _ fun h2 f2 => ⟨_, rfl, hL1.of_no f2, fun e => ?_, fun e => ?_⟩
  · have := HK h2 (f1.no_trans f2)
    rw [not_t e] at this
    exact this
  · have e := not_f e
    refine k_isBalanced ((G.no f1).no f2) e _ fun h3 f3 => ⟨_, rfl, (hL1.of_no f2).of_no f3, ?_⟩
    have := HK h3 ((f1.no_trans f2).no_trans f3)
    rw [e, Bool.true_and] at this
    exact this
def Way (g : List (List Int)) (p : Int) : Nat -> Int -> Prop
  | 0, q => p = q
  | k + 1, q => ∃ x, Way g p k x /\ q ∈ g.getD x.toNat []
theorem Way.rng {g : List (List Int)} (hg : graphB g = true) {p : Int} (h0 : 0 ≤ p) (h1 : p < (g.length : Int)) : ∀ {k : Nat} {q : Int}, Way g p k q -> 0 ≤ q /\ q < (g.length : Int)
  | 0, q, h => by rw [← show p = q from h]; exact ⟨h0, h1⟩
  | k + 1, q, h => by
    obtain ⟨x, hx, hq⟩ := h
    have hr := Way.rng hg h0 h1 hx
    rw [getD_get (by omega)] at hq
    exact (graph_mem hg (List.getElem_mem (show x.toNat < g.length by omega))).2 q hq
theorem Way.trans {g : List (List Int)} {p q r : Int} {a : Nat} (h : Way g p a q) : ∀ {b : Nat}, Way g q b r -> Way g p (a + b) r
  | 0, k => by rw [← show q = r from k]; exact h
  | b + 1, k => by
    obtain ⟨x, hx, hr⟩ := k
    exact ⟨x, h.trans hx, hr⟩
theorem set_getI {l : List Int} {i j : Nat} {v : Int} (hi : i < l.length) : (l.set i v).getD j 0 = if i = j then v else l.getD j 0 := by
  rw [List.getD_eq_getElem?_getD, List.getElem?_set, List.getD_eq_getElem?_getD]
  by_cases h : i = j
  · subst h; simp [hi]
  · simp [h]
structure BIn (x : Int) (qs far : List Int) (far' new : List Int) : Prop where
  len : far'.length = far.length
  old : ∀ y : Nat, 0 ≤ far.getD y 0 -> far'.getD y 0 = far.getD y 0
  chg : ∀ y : Nat, far.getD y 0 < 0 -> far'.getD y 0 = far.getD y 0 ∨ far'.getD y 0 = far.getD x.toNat 0 + 1 /\ (y : Int) ∈ qs /\ (y : Int) ∈ new
  met : ∀ y, y ∈ qs -> 0 ≤ far'.getD y.toNat 0
  nw : ∀ z, z ∈ new -> z ∈ qs /\ far'.getD z.toNat 0 = far.getD x.toNat 0 + 1
  cnt : new.length + negs far' = negs far
theorem bfsIn_spec (x : Int) : ∀ (qs far out : List Int), (∀ q, q ∈ qs -> 0 ≤ q /\ q < (far.length : Int)) -> 0 ≤ far.getD x.toNat 0 -> ∃ far' new, bfsIn x qs (far, out) = (far', out ++ new) /\ BIn x qs far far' new
  | [], far, out, _, _ => ⟨far, [], by rw [bfsIn, List.append_nil], rfl, fun _ _ => rfl, fun _ _ => .inl rfl, fun y hy => by simp at hy, fun z hz => by simp at hz, by simp⟩
  | q :: qs, far, out, hr, hx => by
    have hq := hr q List.mem_cons_self
    rw [bfsIn]
    by_cases hn : far.getD q.toNat 0 < 0
    · rw [if_pos hn]
      simp only
      have hqx : q.toNat ≠ x.toNat := fun e => by rw [e] at hn; omega
      have gx : (far.set q.toNat (far.getD x.toNat 0 + 1)).getD x.toNat 0 = far.getD x.toNat 0 := by rw [set_getI (by omega), if_neg hqx]
      obtain ⟨far', new, e, B⟩ := bfsIn_spec x qs (far.set q.toNat (far.getD x.toNat 0 + 1)) (out ++ [q]) (fun r h => by rw [List.length_set]; exact hr r (List.mem_cons_of_mem _ h)) (by rw [gx]; exact hx)
      have hc := negs_set (l := far) (i := q.toNat) (v := far.getD x.toNat 0 + 1) (by omega) (by rw [← getD_getI (by omega)]; exact hn) (by omega)
      have hqf : far'.getD q.toNat 0 = far.getD x.toNat 0 + 1 := by
        have := B.old q.toNat (by rw [set_getI (by omega), if_pos rfl]; omega)
        rw [this, set_getI (by omega), if_pos rfl]
      refine ⟨far', q :: new, by rw [e, List.append_assoc]; rfl, by rw [B.len, List.length_set], fun y hy => ?_, fun y hy => ?_, fun y hy => ?_, fun z hz => ?_, by have := B.cnt; simp only [List.length_cons]; omega⟩
      · have hne : q.toNat ≠ y := fun e => by rw [e] at hn; omega
        have := B.old y (by rw [set_getI (by omega), if_neg hne]; exact hy)
        rw [this, set_getI (by omega), if_neg hne]
      · by_cases hne : q.toNat = y
        · subst hne
          refine .inr ⟨hqf, ?_, ?_⟩ <;> rw [show ((q.toNat : Nat) : Int) = q by omega] <;> exact List.mem_cons_self
        · have g1 : (far.set q.toNat (far.getD x.toNat 0 + 1)).getD y 0 = far.getD y 0 := by rw [set_getI (by omega), if_neg hne]
          rcases B.chg y (by rw [g1]; exact hy) with h | ⟨h1, h2, h3⟩
          · exact .inl (h.trans g1)
          · exact .inr ⟨by rw [h1, gx], List.mem_cons_of_mem _ h2, List.mem_cons_of_mem _ h3⟩
      · rcases List.mem_cons.1 hy with rfl | hy
        · rw [hqf]; omega
        · exact B.met y hy
      · rcases List.mem_cons.1 hz with rfl | hz
        · exact ⟨List.mem_cons_self, hqf⟩
        · have := B.nw z hz
          exact ⟨List.mem_cons_of_mem _ this.1, by rw [this.2, gx]⟩
    · rw [if_neg hn]
      obtain ⟨far', new, e, B⟩ := bfsIn_spec x qs far out (fun r h => hr r (List.mem_cons_of_mem _ h)) hx
      refine ⟨far', new, e, B.len, B.old, fun y hy => ?_, fun y hy => ?_, fun z hz => ⟨List.mem_cons_of_mem _ (B.nw z hz).1, (B.nw z hz).2⟩, B.cnt⟩
      · rcases B.chg y hy with h | ⟨h1, h2, h3⟩
        · exact .inl h
        · exact .inr ⟨h1, List.mem_cons_of_mem _ h2, h3⟩
      · rcases List.mem_cons.1 hy with rfl | hy
        · rw [B.old _ (by omega)]; omega
        · exact B.met y hy
structure BQ (g : List (List Int)) (p : Int) (far qu : List Int) : Prop where
  len : far.length = g.length
  way : ∀ y : Nat, y < g.length -> 0 ≤ far.getD y 0 -> Way g p (far.getD y 0).toNat y
  lo : ∀ y : Nat, -1 ≤ far.getD y 0
  qin : ∀ x, x ∈ qu -> 0 ≤ x /\ x < (g.length : Int) /\ 0 ≤ far.getD x.toNat 0
  ord : qu.Pairwise fun a b => far.getD a.toNat 0 ≤ far.getD b.toNat 0
  top : ∀ x r, qu = x :: r -> ∀ y : Nat, y < g.length -> far.getD y 0 ≤ far.getD x.toNat 0 + 1
  done : ∀ x : Nat, x < g.length -> 0 ≤ far.getD x 0 -> (x : Int) ∈ qu ∨ ∀ y, y ∈ g.getD x [] -> 0 ≤ far.getD y.toNat 0 /\ far.getD y.toNat 0 ≤ far.getD x 0 + 1
  home : far.getD p.toNat 0 = 0
  hi : ∀ y : Nat, y < g.length -> far.getD y 0 + negs far < g.length
theorem bfs_done {g : List (List Int)} (hg : graphB g = true) {p : Int} : ∀ (f : Nat) (far qu : List Int), BQ g p far qu -> qu.length + negs far ≤ f -> BQ g p (bfsP g f far qu) []
  | 0, far, qu, B, h => by
    have : qu = [] := List.eq_nil_of_length_eq_zero (by omega)
    subst this
    exact B
  | f + 1, far, [], B, h => B
  | f + 1, far, x :: rest, B, h => by
    have hx := B.qin x List.mem_cons_self
    have hxl : x.toNat < g.length := by omega
    have hq : ∀ q, q ∈ g.getD x.toNat [] -> 0 ≤ q /\ q < (far.length : Int) := fun q hq => by
      rw [getD_get hxl] at hq
      rw [B.len]
      exact (graph_mem hg (List.getElem_mem hxl)).2 q hq
    obtain ⟨far', new, e, C⟩ := bfsIn_spec x (g.getD x.toNat []) far [] hq hx.2.2
    rw [bfsP, e]
    simp only [List.nil_append]
    have gx : far'.getD x.toNat 0 = far.getD x.toNat 0 := C.old _ hx.2.2
    have hgrow : ∀ y : Nat, 0 ≤ far.getD y 0 -> far'.getD y 0 = far.getD y 0 := C.old
    have hle : ∀ y : Nat, y < g.length -> far'.getD y 0 ≤ far.getD x.toNat 0 + 1 := fun y hy => by
      by_cases h0 : 0 ≤ far.getD y 0
      · rw [C.old y h0]; exact B.top x rest rfl y hy
      · rcases C.chg y (by omega) with h | ⟨h, _⟩
        · rw [h]; omega
        · omega
    have hrest : ∀ z, z ∈ rest -> far'.getD z.toNat 0 = far.getD z.toNat 0 := fun z hz => C.old _ (B.qin z (List.mem_cons_of_mem _ hz)).2.2
    obtain ⟨o1, o2⟩ := List.pairwise_cons.1 B.ord
    refine bfs_done hg f far' (rest ++ new) ⟨by rw [C.len, B.len], fun y hy h0 => ?_, fun y => ?_, fun z hz => ?_, ?_, fun z r hz y hy => ?_, fun y hy h0 => ?_, ?_, fun y hy => ?_⟩ ?_
    · by_cases h1 : 0 ≤ far.getD y 0
      · rw [C.old y h1]; exact B.way y hy h1
      · rcases C.chg y (by omega) with h | ⟨h, h2, _⟩
        · rw [h] at h0; omega
        · rw [h, show (far.getD x.toNat 0 + 1).toNat = (far.getD x.toNat 0).toNat + 1 by omega]
          refine ⟨x, ?_, h2⟩
          have := B.way x.toNat hxl hx.2.2
          rwa [show ((x.toNat : Nat) : Int) = x by omega] at this
    · by_cases h1 : 0 ≤ far.getD y 0
      · rw [C.old y h1]; omega
      · have := B.lo y
        rcases C.chg y (by omega) with h | ⟨h, _⟩ <;> omega
    · rcases List.mem_append.1 hz with hz | hz
      · have := B.qin z (List.mem_cons_of_mem _ hz)
        exact ⟨this.1, this.2.1, by rw [hrest z hz]; exact this.2.2⟩
      · have a := C.nw z hz
        have b := hq z a.1
        rw [B.len] at b
        exact ⟨b.1, b.2, by rw [a.2]; omega⟩
    · rw [List.pairwise_append]
      refine ⟨o2.imp_of_mem fun {a b} ha hb hab => by rw [hrest a ha, hrest b hb]; exact hab, ?_, fun a ha b hb => ?_⟩
      · rw [List.pairwise_iff_getElem]
        intro i j hi hj _
        rw [(C.nw _ (List.getElem_mem hi)).2, (C.nw _ (List.getElem_mem hj)).2]
        omega
      · rw [hrest a ha, (C.nw b hb).2]
        have := B.qin a (List.mem_cons_of_mem _ ha)
        exact B.top x rest rfl a.toNat (by omega)
    · have hz1 : far.getD x.toNat 0 ≤ far'.getD z.toNat 0 := by
        have hzm : z ∈ rest ++ new := by rw [hz]; exact List.mem_cons_self
        rcases List.mem_append.1 hzm with h | h
        · rw [hrest z h]; exact o1 z h
        · rw [(C.nw z h).2]; omega
      have := hle y hy
      omega
    · by_cases hyx : (y : Int) = x
      · refine .inr fun z hz => ?_
        have hyx' : y = x.toNat := by omega
        rw [hyx'] at hz ⊢
        have := hq z hz
        rw [B.len] at this
        exact ⟨C.met z hz, by rw [gx]; exact hle z.toNat (by omega)⟩
      · by_cases h1 : 0 ≤ far.getD y 0
        · rcases B.done y hy h1 with h | h
          · rcases List.mem_cons.1 h with h | h
            · exact absurd h hyx
            · exact .inl (List.mem_append.2 (.inl h))
          · refine .inr fun z hz => ?_
            obtain ⟨a, b⟩ := h z hz
            rw [C.old _ a, C.old _ h1]
            exact ⟨a, b⟩
        · rcases C.chg y (by omega) with h | ⟨_, _, h⟩
          · rw [h] at h0; omega
          · exact .inl (List.mem_append.2 (.inr h))
    · rw [C.old _ (by rw [B.home]; omega)]; exact B.home
    · have hc := C.cnt
      by_cases h1 : 0 ≤ far.getD y 0
      · rw [C.old y h1]; have := B.hi y hy; omega
      · rcases C.chg y (by omega) with h | ⟨h, _, h3⟩
        · rw [h]; have := B.hi y hy; omega
        · have := List.length_pos_of_mem h3
          have := B.hi x.toNat hxl
          rw [h]; omega
    · have := C.cnt
      simp only [List.length_cons, List.length_append] at *
      omega
theorem far_bq {g : List (List Int)} (hg : graphB g = true) {p : Int} (h0 : 0 ≤ p) (h1 : p < (g.length : Int)) : BQ g p (farP g p) [] := by
  obtain ⟨b1, b2⟩ := bok0 (n := g.length) (p := p.toNat) (by omega)
  have gd : ∀ y : Nat, ((List.replicate g.length (-1 : Int)).set p.toNat 0).getD y 0 = if p.toNat = y then 0 else if y < g.length then -1 else 0 := fun y => by
    rw [set_getI (by simp; omega)]
    split
    · rfl
    · rw [List.getD_eq_getElem?_getD, List.getElem?_replicate]; split <;> rfl
  refine bfs_done hg g.length _ [p] ⟨by simp, fun y hy h => ?_, fun y => ?_, fun x hx => ?_, by simp, fun x r hx y hy => ?_, fun x hx h => ?_, ?_, fun y hy => ?_⟩ (by simp only [List.length_cons, List.length_nil]; omega)
  · rw [gd] at h ⊢
    split at h
    · rename_i e
      rw [if_pos e]
      show p = (y : Int)
      omega
    · simp at h
  · rw [gd]; split
    · omega
    · split <;> omega
  · simp only [List.mem_cons, List.not_mem_nil, or_false] at hx
    subst hx
    exact ⟨h0, h1, by rw [gd, if_pos rfl]; omega⟩
  · simp only [List.cons.injEq] at hx
    rw [← hx.1, gd, gd, if_pos rfl]
    split
    · omega
    · (try split) <;> omega
  · rw [gd] at h
    split at h
    · exact .inl (by simp; omega)
    · simp at h
  · rw [gd, if_pos rfl]
  · rw [gd]
    split
    · omega
    · (try split) <;> omega
theorem far_le {g : List (List Int)} (hg : graphB g = true) {p : Int} (h0 : 0 ≤ p) (h1 : p < (g.length : Int)) : ∀ {k : Nat} {q : Int}, Way g p k q -> 0 ≤ (farP g p).getD q.toNat 0 /\ (farP g p).getD q.toNat 0 ≤ k
  | 0, q, h => by rw [← show p = q from h, (far_bq hg h0 h1).home]; omega
  | k + 1, q, h => by
    obtain ⟨x, hx, hq⟩ := h
    obtain ⟨a, b⟩ := far_le hg h0 h1 hx
    have hr := hx.rng hg h0 h1
    rcases (far_bq hg h0 h1).done x.toNat (by omega) a with c | c
    · simp at c
    · have := c q hq
      omega
theorem far_way {g : List (List Int)} (hg : graphB g = true) {p q : Int} (h0 : 0 ≤ p) (h1 : p < (g.length : Int)) (q0 : 0 ≤ q) (q1 : q < (g.length : Int)) (h : 0 ≤ (farP g p).getD q.toNat 0) : Way g p ((farP g p).getD q.toNat 0).toNat q := by
  have := (far_bq hg h0 h1).way q.toNat (by omega) h
  rwa [show ((q.toNat : Nat) : Int) = q by omega] at this
theorem far_iff {g : List (List Int)} (hg : graphB g = true) {p q : Int} (h0 : 0 ≤ p) (h1 : p < (g.length : Int)) (q0 : 0 ≤ q) (q1 : q < (g.length : Int)) : 0 ≤ (farP g p).getD q.toNat 0 ↔ ∃ k, Way g p k q :=
  ⟨fun h => ⟨_, far_way hg h0 h1 q0 q1 h⟩, fun ⟨k, h⟩ => (far_le hg h0 h1 h).1⟩
def reachL (far : List Int) : Nat -> List Int
  | 0 => []
  | i + 1 => reachL far i ++ (if 0 ≤ far.getD i 0 then [(i : Int)] else [])
def reachP (g : List (List Int)) (p : Int) : List Int := reachL (farP g p) g.length
theorem reachL_len (far : List Int) : ∀ n, (reachL far n).length ≤ n
  | 0 => Nat.le_refl _
  | n + 1 => by have := reachL_len far n; rw [reachL, List.length_append]; split <;> simp <;> omega
theorem reachL_cnt (far : List Int) : ∀ n, n ≤ far.length -> (reachL far n).length = (far.take n).countP (fun x => decide (0 ≤ x))
  | 0, _ => by simp [reachL]
  | n + 1, h => by
    rw [reachL, List.length_append, reachL_cnt far n (by omega), List.take_succ_eq_append_getElem (by omega), List.countP_append, List.countP_singleton, getD_getI (by omega)]
    by_cases h : 0 ≤ far[n]
    · simp [h]
    · simp [h]
theorem k_grReach {S : Nat -> Prop} {h : Heap} {g : Sl} {xss : List (List Int)} (G : RdR S h g xss) (hg : graphB xss = true) {p : Int} (h0 : 0 ≤ p) (h1 : p < (xss.length : Int)) (K : Value -> Heap -> Prop) (HK : ∀ (t : Sl) (h' : Heap), OwI h' (Iv h.size h'.size) t (reachP xss p) -> Fr No h h' -> K t.v h') : callM Tryz.prog 140 #[.agg #[g.v], VI p] h K := by
  refine v140 g p h K fun b1 h1' hb1 f1 hL1 => ?_
  have f1 := f1.in_nil
  have hgl := graph_len hg
  have l1 : b1 < h1'.size := hL1.head.lt
  have z1 := f1.size
  refine k_grFar (G.no f1) hg h0 h1 _ fun w h3 o3 fl f3 => ⟨w, rfl, hL1.of_no f3, ?_⟩
  have z3 := f3.size
  have R3 : RdI (Iv h1'.size h3.size) h3 w _ := Ow.rdI o3
  refine ⟨fun n x i h' => 0 ≤ i /\ i + n = ((farP xss p).length : Int) /\ OwI h' (fun k => h3.size ≤ k) x (reachL (farP xss p) i.toNat) /\ RdI (Iv h1'.size h3.size) h' w (farP xss p) /\ Fr (fun k => h3.size ≤ k) h3 h' /\ h3.size ≤ h'.size, ⟨(farP xss p).length, by omega, by omega, Ow.nil _ _ _ _, R3, Fr.refl _ _, Nat.le_refl _⟩, ?_⟩
  rintro n x i h4 ⟨i0, i1, o4, R4, f4, z4⟩ hL4
  refine ⟨fun e => ?_, fun e => ?_⟩
  · have hi := R4.lt e
    have hci : ((i.toNat : Nat) : Int) = i := by omega
    have est : reachL (farP xss p) (i + 1).toNat = reachL (farP xss p) i.toNat ++ (if 0 ≤ (farP xss p)[i.toNat]'(by omega) then [i] else []) := by rw [toNat_succ i0, reachL, hci, getD_getI (by omega)]
    rw [R4.succ i0 hi]
    refine ⟨R4.inb i0 hi, _, R4.get i0 hi, fun c => ?_, fun c => ?_⟩
    · simp only [decide_eq_true_eq] at c
      refine eop_putI o4 (fun k hk => by omega) hL4 (fun q hq hk => ?_) (by have := reachL_len (farP xss p) i.toNat; omega) (fun t2 h6 => ∃ m : Nat, m < n /\ _) fun y h6 o6 f6 V6 => ?_
      · simp only [List.mem_cons, List.not_mem_nil, or_false] at hq
        subst hq
        simp only at hk
        omega
      · have z6 := f6.size
        exact ⟨n - 1, by omega, by omega, by omega, by rw [est, if_pos c]; exact o6, R4.fr f6 fun k hk hk2 => by have := hk.2; omega, f4.trans f6, by omega⟩
    · simp only [decide_eq_false_iff_not] at c
      exact ⟨n - 1, by omega, by omega, by omega, by rw [est, if_neg c, List.append_nil]; exact o4, R4, f4, z4⟩
  · have hi := R4.ge e
    rw [show i.toNat = xss.length by omega] at o4
    exact HK x h4 (o4.mono fun k hl hk => ⟨by omega, (o4.foot hl).2⟩) ((f1.no_trans f3).fresh f4 fun k hk => by omega)
theorem k_grStrong {S : Nat -> Prop} {h : Heap} {g : Sl} {xss : List (List Int)} (G : RdR S h g xss) (hg : graphB xss = true) : Ret Tryz.prog 102 #[.agg #[g.v]] h (VB (strongB xss)) := by
  intro K HK
  refine v102 g h K fun b1 h1 hb1 f1 hL1 => ?_
  have f1 := f1.in_nil
  have hgl := graph_len hg
  refine ⟨fun n i h' => 0 ≤ i /\ i + n = (xss.length : Int) /\ Fr No h h' /\ ∀ j : Nat, (j : Int) < i -> (farP xss j).countP (fun x => decide (0 ≤ x)) = xss.length, ⟨xss.length, by omega, by omega, f1, fun j hj => by omega⟩, ?_⟩
  rintro n i h2 ⟨i0, i1, f2, hall⟩ hL2
  have G2 := G.no f2
  refine ⟨fun e => ?_, fun e => ?_⟩
  · have hi := G2.lt e
    have hci : ((i.toNat : Nat) : Int) = i := by omega
    refine k_grReach G2 hg i0 hi _ fun t h3 o3 f3 => ⟨t, rfl, hL2.of_no f3, ?_⟩
    have tl : t.n = (reachP xss i).length := RdI.len o3.rdF
    have fl := (far_bq hg i0 hi).len
    have hc : (reachP xss i).length = (farP xss i).countP (fun x => decide (0 ≤ x)) := by rw [reachP, reachL_cnt _ _ (by omega), List.take_of_length_le (by omega)]
    rw [G.len]
    refine ⟨fun e2 => ?_, fun e2 => ?_⟩
    · have e2 := not_t e2
      simp only [decide_eq_false_iff_not] at e2
      have := HK h3 (f2.no_trans f3)
      rw [show strongB xss = false by
        cases hb : strongB xss with
        | false => rfl
        | true =>
          unfold strongB at hb
          rw [range_all] at hb
          have := hb i.toNat (by omega)
          rw [hci, decide_eq_true_eq] at this
          omega] at this
      exact this
    · have e2 := not_f e2
      simp only [decide_eq_true_eq] at e2
      rw [w64_eq _ (by omega) (by omega)]
      refine ⟨n - 1, by omega, by omega, by omega, f2.no_trans f3, fun j hj => ?_⟩
      by_cases h5 : (j : Int) < i
      · exact hall j h5
      · rw [show (j : Int) = i by omega]; omega
  · have hi := G2.ge e
    have := HK h2 f2
    rw [show strongB xss = true by
      unfold strongB
      rw [range_all]
      intro j hj
      rw [decide_eq_true_eq]
      exact hall j (by omega)] at this
    exact this
@[reducible] def tSs : TypeId := 99
theorem rSs : rowC Tryz.prog tSs = some (9, 1, 16, [VS (⟨#[]⟩ : ByteArray)]) := by kernel_rfl
theorem plainVS (xs : List ByteArray) : (xs.map VS).all plainV = true := by simp [List.all_eq_true, plainV]
@[reducible] def OwS (h : Heap) (F : Nat -> Prop) (s : Sl) (xs : List ByteArray) : Prop := Ow h F 9 1 s (xs.map VS)
theorem mk_add (g o j : Nat) : (⟨g, o, none⟩ : Addr).add j = ⟨g, o + j, none⟩ := by
  unfold Addr.add
  by_cases h : j = 0 <;> simp [h]
theorem cell_hc (w : World) (a : Addr) : w.cell? a = hcell w.heap a := rfl
theorem ba_app (a b : List UInt8) : ((⟨a.toArray⟩ : ByteArray) ++ (⟨b.toArray⟩ : ByteArray)) = ⟨(a ++ b).toArray⟩ := by
  apply ByteArray.ext
  simp [ByteArray.data_append]
theorem ba_size (a : List UInt8) : (⟨a.toArray⟩ : ByteArray).size = a.length := by simp [ByteArray.size]
theorem dec_len {n : Nat} (h : n < 100) : (Lib.decDigits n).length ≤ 2 := by
  by_cases h1 : n < 10
  · rw [Lib.decDigits_one h1]; simp
  · rw [Lib.decDigits_two h1 h]; simp
theorem join_len : ∀ (xs : List (List UInt8)), (∀ x, x ∈ xs -> x.length ≤ 2) -> (Lib.join xs [44]).length ≤ 3 * xs.length
  | [], _ => by simp [Lib.join_nil]
  | x :: r, h => by
    rw [Lib.join_length]
    have : ∀ (l : List (List UInt8)), (∀ x, x ∈ l -> x.length ≤ 2) -> Lib.lens l ≤ 2 * l.length := by
      intro l
      induction l with
      | nil => intro _; simp [Lib.lens]
      | cons a l ih =>
        intro hl
        have h1 := ih fun y hy => hl y (List.mem_cons_of_mem _ hy)
        have h2 := hl a (List.mem_cons_self ..)
        simp only [Lib.lens, List.map_cons, List.sum_cons, List.length_cons] at h1 ⊢
        omega
    have := this _ h
    simp only [List.length_cons, List.length_nil] at this ⊢
    omega
def listL (rs : List Int) : List UInt8 := if rs.length = 0 then [45] else Lib.join (rs.map fun x => Lib.decDigits x.toNat) [44]
theorem listL_len {rs : List Int} (h : ∀ x, x ∈ rs -> 0 ≤ x /\ x < 100) : (listL rs).length ≤ 3 * rs.length + 1 := by
  unfold listL
  split
  · simp
  · have := join_len (rs.map fun x => Lib.decDigits x.toNat) fun y hy => by
      obtain ⟨x, hx, rfl⟩ := List.mem_map.1 hy
      exact dec_len (by have := h x hx; omega)
    rw [List.length_map] at this
    omega
theorem k_Itoa {h : Heap} {n : Int} (h0 : 0 ≤ n) (h1 : n < 100) (K : Value -> Heap -> Prop) (HK : K (VS ⟨(Lib.decDigits n.toNat).toArray⟩) h) : callM Tryz.prog 125 #[VI n] h K := by
  obtain ⟨i, rfl⟩ : ∃ i : Nat, n = (i : Int) := ⟨n.toNat, by omega⟩
  refine ⟨fun w hw => .inr ⟨125, _, w, Go.Proofs.enters_of Tryz.func125 (by kernel_rfl) rfl _ _, rfl, ?_⟩⟩
  subst hw
  refine (Tryz.strconv_Itoa_small i (by omega) w).mono ?_
  rintro e w' ⟨rfl, rfl⟩
  rw [Int.toNat_natCast] at HK
  exact ⟨_, rfl, Same.refl _, HK⟩
theorem k_Join {S : Nat -> Prop} {h : Heap} {s : Sl} {ts : List ByteArray} {sep : ByteArray} (H : RdV S h 1 s (ts.map VS)) (hne : ts ≠ []) (hN : ts.length ≤ 1000000) (hl : (Lib.join (ts.map (·.data.toList)) sep.data.toList).length ≤ 1000000) (K : Value -> Heap -> Prop) (HK : ∀ h', Fr No h h' -> K (VS ⟨(Lib.join (ts.map (·.data.toList)) sep.data.toList).toArray⟩) h') : callM Tryz.prog 78 #[s.v, VS sep] h K := by
  refine ⟨fun w hw => .inr ⟨78, _, w, Go.Proofs.enters_of Tryz.func78 (by kernel_rfl) rfl _ _, rfl, ?_⟩⟩
  subst hw
  have hlen := H.len
  simp only [List.length_map, Nat.mul_one] at hlen
  have hcap := H.cap
  have hpos : 0 < ts.length := List.length_pos_iff.2 hne
  obtain ⟨a, ha, _, hc⟩ := RdV.cell H 0 (by simpa using hpos)
  have hsp : a.spot = none := by
    cases hs : a.spot with
    | none => rfl
    | some sp => exfalso; unfold hcell at hc; simp [Addr.add, hs] at hc; split at hc <;> simp at hc
  obtain ⟨g, o, q⟩ := a
  simp only at hsp
  subst hsp
  have hv : s.v = .slice (some ⟨g, o, none⟩) ts.length s.c := by unfold Sl.v; rw [ha, hlen]
  rw [hv]
  refine (Tryz.strings_Join g o s.c ts sep w (fun j x hj => ?_) ?_ (by omega) (by omega) (by omega)).mono ?_
  · have hj2 : j < ts.length := (List.getElem?_eq_some_iff.1 hj).1
    obtain ⟨a', ha', _, hc'⟩ := RdV.cell H j (by simp; omega)
    rw [ha] at ha'
    cases ha'
    rw [mk_add] at hc'
    rw [cell_hc, hc']
    rw [List.getElem?_eq_getElem hj2] at hj
    simp only [Option.some.injEq] at hj
    simp [hj]
  · have := hcell_lt hc; rw [add_block] at this; exact this
  · rintro e w' ⟨rfl, hb⟩
    exact ⟨_, rfl, ⟨hb.os, hb.tape, hb.output⟩, HK _ ⟨hb.size, fun k hk _ => hb.block k hk⟩⟩
theorem eop_putS {L : List (Nat × List Value)} {F : Nat -> Prop} {h : Heap} {o : Sl} {xs : List ByteArray} {x : ByteArray} (O : OwS h F o xs) (hF : ∀ k, h.size ≤ k -> F k) (hL : Vars h L) (hoff : ∀ p, p ∈ L -> ¬ F p.1) (hb : xs.length ≤ 1000000) (R : Sl -> Heap -> Prop) (HR : ∀ t h', OwS h' F t (xs ++ [x]) -> Fr F h h' -> Vars h' L -> R t h') : eop Tryz.prog (Instr.buildSlice tSs 1 #[(0, VS x)]) h fun rv h1 => ∃ t : Sl, rv = t.v /\ Vars h1 L /\ eop Tryz.prog (appS tSs tSs tSs o.v t.v) h1 fun rv2 h2 => ∃ t2 : Sl, rv2 = t2.v /\ Vars h2 L /\ R t2 h2 := by
  refine eop_lit rSs (fun k => h.size ≤ k) (fun _ h => h) 1 (by omega) [VS x] rfl rfl fun t h1 n1 c1 o1 f1 m1 _ => ⟨t, rfl, hL.of_no f1, ?_⟩
  have z1 := f1.size
  have O1 : OwS h1 F o xs := Ow.no O f1
  have on := O1.rd.len
  have tn := o1.rd.len
  simp only [List.length_map, Nat.mul_one, List.length_cons, List.length_nil] at on tn
  refine eop_append rSs O1 (fun k hk => hF k (by omega)) o1.rd (plainVS [x]) (by omega) fun s' h2 n2 o2 f2 d2 => ?_
  have g2 : Fr F h1 h2 := f2.mono fun k _ hk => (O1.foot hk).1
  have V2 : Vars h2 L := (hL.of_no f1).fr g2 hoff
  exact ⟨s', rfl, V2, HR s' h2 (by rw [OwS, List.map_append]; exact o2) (f1.of_no.trans g2) V2⟩
theorem k_listText {S : Nat -> Prop} {h : Heap} {s : Sl} {rs : List Int} (H : RdI S h s rs) (B : ∀ x, x ∈ rs -> 0 ≤ x /\ x < 100) (hn : rs.length ≤ 1000) (K : Value -> Heap -> Prop) (HK : ∀ h', Fr No h h' -> K (VS ⟨(listL rs).toArray⟩) h') : callM Tryz.prog 77 #[s.v] h K := by
  have sn := RdI.len H
  refine v77 s h K ⟨fun e => ?_, fun e => ?_⟩
  · simp only [decide_eq_true_eq] at e
    have := HK h (Fr.refl _ _)
    unfold listL at this
    rw [if_pos (by omega)] at this
    exact this
  simp only [decide_eq_false_iff_not] at e
  refine eop_lit rSs (fun k => h.size ≤ k) (fun _ h => h) 0 (by omega) [] rfl rfl fun o h1 n1 c1 o1 f1 m1 _ => ⟨o, rfl, .nil, ?_⟩
  have z1 := f1.size
  have o1' : OwS h1 (fun k => h.size ≤ k) o [] := o1
  have no_ : ∀ {x : Heap}, Fr (fun k => h.size ≤ k) h x -> Fr No h x := fun f => f.mono fun k hk hk2 => absurd hk2 (by omega)
  refine ⟨fun m x p h' => 0 ≤ p /\ p + m = (rs.length : Int) /\ OwS h' (fun k => h.size ≤ k) x ((rs.take p.toNat).map fun y => (⟨(Lib.decDigits y.toNat).toArray⟩ : ByteArray)) /\ Fr (fun k => h.size ≤ k) h h', ⟨rs.length, by omega, by omega, by simpa using o1', f1.of_no⟩, ?_⟩
  rintro m x p h2 ⟨p0, p1, o2, f2⟩ hL2
  have z2 := f2.size
  have H2 := H.no (no_ f2)
  refine ⟨fun e2 => ?_, fun e2 => ?_⟩
  · have hp := H2.lt e2
    have bx := B _ (List.getElem_mem (show p.toNat < rs.length by omega))
    refine ⟨H2.inb p0 hp, _, H2.get p0 hp, k_Itoa bx.1 bx.2 _ ⟨_, rfl, .nil, ?_⟩⟩
    refine eop_putS o2 (fun k hk => by omega) .nil (fun q hq => by cases hq) (by simp; omega) _ fun t h5 o5 f5 _ => ?_
    rw [H2.succ p0 hp]
    refine ⟨m - 1, by omega, by omega, by omega, ?_, f2.trans f5⟩
    rw [show (p + 1).toNat = p.toNat + 1 by omega, List.take_add_one, List.getElem?_eq_getElem (show p.toNat < rs.length by omega)]
    rw [List.map_append]
    exact o5
  · have hp := H2.ge e2
    rw [List.take_of_length_le (by omega)] at o2
    have hm : ((rs.map fun y => (⟨(Lib.decDigits y.toNat).toArray⟩ : ByteArray)).map (·.data.toList)) = rs.map fun y => Lib.decDigits y.toNat := by simp
    have hjl := join_len (rs.map fun x => Lib.decDigits x.toNat) fun y hy => by
      obtain ⟨x, hx, rfl⟩ := List.mem_map.1 hy
      exact dec_len (by have := B x hx; omega)
    rw [List.length_map] at hjl
    refine k_Join o2.rdF (fun hh => by have := congrArg List.length hh; simp at this; simp [this] at sn; omega) (by simp; omega) (by rw [hm]; show (Lib.join _ [44]).length ≤ _; omega) _ fun h3 f3 => ⟨_, rfl, .nil, ?_⟩
    have := HK h3 ((no_ f2).trans f3)
    unfold listL at this
    rw [if_neg (by omega)] at this
    rw [hm]
    exact this
def MapAt (h : Heap) (b : Nat) (kvs : List (ByteArray × Int)) : Prop := ∃ (es : Array MapEntry) (clock : Nat), h[b]? = some (.map es clock) /\ es.toList.map (fun e => (e.key, e.val)) = kvs.map fun q => (VS q.1, VI q.2)
theorem MapAt.lt {h : Heap} {b : Nat} {kvs : List (ByteArray × Int)} (M : MapAt h b kvs) : b < h.size := by
  obtain ⟨es, c, hb, _⟩ := M
  exact (Array.getElem?_eq_some_iff.1 hb).1
theorem MapAt.fr {h h' : Heap} {b : Nat} {kvs : List (ByteArray × Int)} {T : Nat -> Prop} (M : MapAt h b kvs) (f : Fr T h h') (hT : ¬ T b) : MapAt h' b kvs := by
  have hl := M.lt
  obtain ⟨es, c, hb, e⟩ := M
  exact ⟨es, c, by rw [f.same b hl hT]; exact hb, e⟩
def findS (kvs : List (ByteArray × Int)) (k : ByteArray) : Option Int := match kvs with
  | [] => none
  | q :: r => if q.1 = k then some q.2 else findS r k
theorem eop_makeMap {t : TypeId} {h : Heap} {K : Value -> Heap -> Prop} (HK : ∀ h', MapAt h' h.size [] -> Fr No h h' -> h.size < h'.size -> K (.map (some h.size)) h') : eop Tryz.prog (Instr.makeMap t none) h K := by
  refine ⟨fun w hw => ?_⟩
  subst hw
  refine ⟨_, _, run_makeMap_plain w t, ⟨rfl, rfl, rfl⟩, HK _ ⟨#[], 0, ?_, rfl⟩ (Fr.push w.heap _) ?_⟩
  · show (w.heap.push _)[w.heap.size]? = _
    simp
  · show w.heap.size < (w.heap.push _).size
    simp
theorem findNow_map {k : ByteArray} : ∀ (l : List MapEntry) (kvs : List (ByteArray × Int)) (i : Nat), l.map (fun e => (e.key, e.val)) = kvs.map (fun q => (VS q.1, VI q.2)) -> ∃ r, Instr.findNow .string (VS k) l i = some r /\ r.map (·.2) = (findS kvs k).map VI
  | [], [], i, _ => ⟨none, rfl, rfl⟩
  | [], q :: r, i, h => by simp at h
  | e :: l, [], i, h => by simp at h
  | e :: l, q :: r, i, h => by
    simp only [List.map_cons, List.cons.injEq, Prod.mk.injEq] at h
    obtain ⟨⟨h1, h2⟩, h3⟩ := h
    obtain ⟨x, hx, hy⟩ := findNow_map l r (i + 1) h3
    unfold Instr.findNow findS
    rw [h1]
    by_cases hq : q.1 = k
    · have : Instr.sameNow .string (VS k) (VS q.1) = some true := by
        show some (k == q.1) = some true
        rw [hq, (MapKept.bytes_beq k k).2 rfl]
      rw [this, if_pos hq]
      exact ⟨some (i, e.val), rfl, by simp [h2]⟩
    · have : Instr.sameNow .string (VS k) (VS q.1) = some false := by
        show some (k == q.1) = some false
        have : (k == q.1) = false := by
          cases hb : (k == q.1) with
          | false => rfl
          | true => exact absurd ((MapKept.bytes_beq k q.1).1 hb).symm hq
        rw [this]
      rw [this, if_neg hq]
      exact ⟨x, hx, hy⟩
theorem rop_lookup {t kt et : TypeId} {h : Heap} {b : Nat} {kvs : List (ByteArray × Int)} {k : ByteArray} (hm : Tryz.prog.underlying t = some (.map kt et)) (hk : Tryz.prog.underlying kt = some .string) (hz : zeroC Tryz.prog et = some (VI 0)) (M : MapAt h b kvs) {K : Value -> Prop} (HK : K (.tuple #[VI ((findS kvs k).getD 0), VB (findS kvs k).isSome])) : rop Tryz.prog (Instr.lookup t (.map (some b)) (VS k) true) h K := by
  obtain ⟨es, c, hb, e⟩ := M
  obtain ⟨r, hr, hv⟩ := findNow_map (k := k) es.toList kvs 0 e
  refine ⟨_, fun w hw => ?_, HK⟩
  subst hw
  have hc : (Instr.checkKey es.isEmpty 10000 kt (VS k)).run Tryz.prog w = .ok () w := MapKept.run_checkKey (k := .string k) hk (by simp [MapKept.IsKey]) es.isEmpty 9999
  have hf := MapKept.run_findKey (w := w) hk hr
  have hzr : (zeroValue et).run Tryz.prog w = .ok (VI 0) w := by
    unfold zeroC at hz
    cases hi : Tryz.prog.info? et with
    | none => rw [hi] at hz; simp at hz
    | some i =>
      rw [hi] at hz
      simp only [Option.bind_some] at hz
      unfold zeroValue
      rw [run_bind_ok (run_typeInfo' hi w)]
      simp [hz, pure, Sem.run]
  unfold Instr.lookup
  simp only [Sem.run_bind, run_underlying hm, Result.andThen, MapKept.run_getObj_map hb, hc, hf]
  cases r with
  | none =>
    cases hs : findS kvs k with
    | none => simp [hc, hf, Sem.run, pure, hzr, Result.andThen]
    | some x => rw [hs] at hv; simp at hv
  | some p =>
    cases hs : findS kvs k with
    | none => rw [hs] at hv; simp at hv
    | some x =>
      rw [hs] at hv
      simp only [Option.map_some, Option.some.injEq] at hv
      simp [hc, hf, Sem.run, pure, Result.andThen, hv]
theorem uop_mapUpdate {t kt et : TypeId} {h : Heap} {b : Nat} {kvs : List (ByteArray × Int)} {k : ByteArray} {x : Int} (hm : Tryz.prog.underlying t = some (.map kt et)) (hk : Tryz.prog.underlying kt = some .string) (M : MapAt h b kvs) (hn : findS kvs k = none) {K : Value -> Heap -> Prop} (HK : ∀ v h', MapAt h' b (kvs ++ [(k, x)]) -> Fr (In [b]) h h' -> K v h') : uop Tryz.prog (Instr.mapUpdate t (.map (some b)) (VS k) (VI x)) h K := by
  have hl := M.lt
  obtain ⟨es, c, hb, e⟩ := M
  obtain ⟨r, hr, hv⟩ := findNow_map (k := k) es.toList kvs 0 e
  rw [hn] at hv
  have hr0 : r = none := by cases r with
    | none => rfl
    | some p => simp at hv
  subst hr0
  refine ⟨fun w hw => ?_⟩
  subst hw
  have hc : (Instr.checkKey false 10000 kt (VS k)).run Tryz.prog w = .ok () w := MapKept.run_checkKey (k := .string k) hk (by simp [MapKept.IsKey]) false 9999
  have hf := MapKept.run_findKey (w := w) hk hr
  refine ⟨{ w with heap := w.heap.setIfInBounds b (.map (es.push { key := VS k, val := VI x, born := c }) (c + 1)) }, ?_, ⟨rfl, rfl, rfl⟩, HK _ _ ⟨es.push { key := VS k, val := VI x, born := c }, c + 1, ?_, ?_⟩ ⟨by simp, fun j hj hne => ?_⟩⟩
  · unfold Instr.mapUpdate
    simp only [Sem.run_bind, run_underlying hm, Result.andThen, MapKept.run_getObj_map hb, hc, hf, MapKept.run_setObj_map _ hb]
  · simp only
    rw [Array.getElem?_setIfInBounds, if_pos rfl, if_pos hl]
  · rw [Array.toList_push, List.map_append, List.map_append, e]
    rfl
  · simp only
    rw [Array.getElem?_setIfInBounds, if_neg (fun hh => hne (by simp [In, hh]))]
def walkL (s : St) : List UInt8 := Lib.decDigits s.2.toNat ++ [58] ++ listL s.1
def keyS (s : St) : ByteArray := ⟨(walkL s).toArray⟩
theorem dec_inj {a b : Int} (a0 : 0 ≤ a) (a1 : a < 10) (b0 : 0 ≤ b) (b1 : b < 10) {x y : List UInt8} (h : Lib.decDigits a.toNat ++ x = Lib.decDigits b.toNat ++ y) : a = b /\ x = y := by
  rw [Lib.decDigits_one (show a.toNat < 10 by omega), Lib.decDigits_one (show b.toNat < 10 by omega)] at h
  simp only [List.cons_append, List.nil_append, List.cons.injEq] at h
  obtain ⟨h1, h2⟩ := h
  have h3 := congrArg UInt8.toNat h1
  simp only [UInt8.toNat_ofNat'] at h3
  exact ⟨by omega, h2⟩
theorem tail_inj : ∀ (us vs : List Int), us.length = vs.length -> (∀ x, x ∈ us -> 0 ≤ x /\ x < 10) -> (∀ x, x ∈ vs -> 0 ≤ x /\ x < 10) -> Lib.joinTail [44] (us.map fun x => Lib.decDigits x.toNat) = Lib.joinTail [44] (vs.map fun x => Lib.decDigits x.toNat) -> us = vs
  | [], [], _, _, _, _ => rfl
  | [], _ :: _, h, _, _, _ => by simp at h
  | _ :: _, [], h, _, _, _ => by simp at h
  | a :: us, b :: vs, hl, ha, hb, h => by
    simp only [Lib.joinTail, List.map_cons, List.flatten_cons, List.append_assoc, List.cons_append, List.nil_append, List.cons.injEq, true_and] at h
    have A := ha a (List.mem_cons_self ..)
    have B := hb b (List.mem_cons_self ..)
    obtain ⟨e1, e2⟩ := dec_inj A.1 A.2 B.1 B.2 h
    rw [e1, tail_inj us vs (by simpa using hl) (fun x hx => ha x (List.mem_cons_of_mem _ hx)) (fun x hx => hb x (List.mem_cons_of_mem _ hx)) e2]
theorem list_inj {us vs : List Int} (hl : us.length = vs.length) (ha : ∀ x, x ∈ us -> 0 ≤ x /\ x < 10) (hb : ∀ x, x ∈ vs -> 0 ≤ x /\ x < 10) (h : listL us = listL vs) : us = vs := by
  match us, vs, hl, ha, hb, h with
  | [], [], _, _, _, _ => rfl
  | [], _ :: _, hl, _, _, _ => simp at hl
  | _ :: _, [], hl, _, _, _ => simp at hl
  | a :: us, b :: vs, hl, ha, hb, h =>
    unfold listL at h
    rw [if_neg (by simp), if_neg (by simp)] at h
    simp only [List.map_cons] at h
    rw [Lib.join_cons, Lib.join_cons] at h
    have A := ha a (List.mem_cons_self ..)
    have B := hb b (List.mem_cons_self ..)
    obtain ⟨e1, e2⟩ := dec_inj A.1 A.2 B.1 B.2 h
    rw [e1, tail_inj us vs (by simpa using hl) (fun x hx => ha x (List.mem_cons_of_mem _ hx)) (fun x hx => hb x (List.mem_cons_of_mem _ hx)) e2]
theorem wok_small {g : List (List Int)} {s : St} (W : WOK g s) : (∀ x, x ∈ s.1 -> 0 ≤ x /\ x < 10) /\ 0 ≤ s.2 /\ s.2 < 10 /\ s.1.length ≤ 8 := by
  have hg := graph_len W.graph
  have hl := W.len
  have h0 := W.lo
  have h1 := W.hi
  refine ⟨fun x hx => ?_, h0, by omega, by omega⟩
  obtain ⟨i, hi, rfl⟩ := List.getElem_of_mem hx
  have := W.rot i hi (by omega)
  have hm := (graph_mem W.graph (List.getElem_mem (show i < g.length by omega))).1
  omega
theorem key_inj {g : List (List Int)} {s t : St} (W : WOK g s) (W' : WOK g t) (h : keyS s = keyS t) : s = t := by
  obtain ⟨a1, a2, a3, _⟩ := wok_small W
  obtain ⟨b1, b2, b3, _⟩ := wok_small W'
  have h : walkL s = walkL t := by
    have := congrArg (fun x => x.data.toList) h
    simpa [keyS] using this
  unfold walkL at h
  rw [List.append_assoc, List.append_assoc] at h
  obtain ⟨e1, e2⟩ := dec_inj a2 a3 b2 b3 h
  simp only [List.cons_append, List.nil_append, List.cons.injEq, true_and] at e2
  exact Prod.ext (list_inj (by rw [W.len, W'.len]) a1 b1 e2) e1
def kvL (hs : List St) : List (ByteArray × Int) := hs.zipIdx.map fun q => (keyS q.1, (q.2 : Int))
theorem kvL_snoc (hs : List St) (s : St) : kvL (hs ++ [s]) = kvL hs ++ [(keyS s, (hs.length : Int))] := by
  unfold kvL
  rw [List.zipIdx_append, List.map_append]
  simp
theorem kv_find {g : List (List Int)} {s : St} (W : WOK g s) : ∀ (hs : List St) (k : Nat), (∀ t, t ∈ hs -> WOK g t) -> findS ((hs.zipIdx k).map fun q => (keyS q.1, (q.2 : Int))) (keyS s) = (idxL hs s).map fun m => ((m + k : Nat) : Int)
  | [], k, _ => rfl
  | t :: hs, k, h => by
    rw [List.zipIdx_cons, List.map_cons, findS, idxL]
    by_cases e : t = s
    · rw [if_pos (by rw [e]), if_pos e]; simp
    · rw [if_neg fun hh => e (key_inj (h t (List.mem_cons_self ..)) W hh), if_neg e, kv_find W hs (k + 1) fun t ht => h t (List.mem_cons_of_mem _ ht)]
      cases idxL hs s with
      | none => rfl
      | some m => simp only [Option.map_some, Option.some.injEq]; omega
theorem kvL_find {g : List (List Int)} {s : St} (W : WOK g s) (hs : List St) (h : ∀ t, t ∈ hs -> WOK g t) : findS (kvL hs) (keyS s) = (idxL hs s).map fun m => ((m : Nat) : Int) := kv_find W hs 0 h
theorem k_walkText {S : Nat -> Prop} {h : Heap} {w : Sl} {rs : List Int} {p : Int} (H : RdI S h w rs) (B : ∀ x, x ∈ rs -> 0 ≤ x /\ x < 100) (hn : rs.length ≤ 1000) (p0 : 0 ≤ p) (p1 : p < 100) (K : Value -> Heap -> Prop) (HK : ∀ h', Fr No h h' -> K (VS (keyS (rs, p))) h') : callM Tryz.prog 131 #[.agg #[w.v, VI p]] h K := by
  refine v131 w p h K fun b1 h1 hb1 f1 hL1 => ?_
  have f1 := f1.in_nil
  have d1 := dec_len (show p.toNat < 100 by omega)
  have l1 := listL_len B
  refine k_Itoa p0 p1 _ ⟨_, rfl, hL1, ?_, ?_⟩
  · rw [ba_size]; show _ + 1 ≤ _; omega
  refine k_listText (H.no f1) B hn _ fun h3 f3 => ⟨_, rfl, hL1.of_no f3, ?_, ?_⟩
  · rw [show (⟨#[58]⟩ : ByteArray) = ⟨[58].toArray⟩ from rfl, ba_app, ba_size, ba_size, List.length_append]
    show _ + 1 + _ ≤ _
    omega
  · rw [show (⟨#[58]⟩ : ByteArray) = ⟨[58].toArray⟩ from rfl, ba_app, ba_app]
    exact HK h3 (f1.trans f3)
theorem k_period {S S' : Nat -> Prop} {h : Heap} {g w : Sl} {xss : List (List Int)} {rs : List Int} {p : Int} (G : RdR S h g xss) (H : RdI S' h w rs) (W : WOK xss (rs, p)) (K : Value -> Heap -> Prop) (HK : ∀ h', Fr No h h' -> K (.tuple #[VI (perP xss (rs, p)).1, VI (perP xss (rs, p)).2.1, VB (perP xss (rs, p)).2.2]) h') : callM Tryz.prog 85 #[.agg #[g.v], .agg #[w.v, VI p]] h K := by
  have hm : Tryz.prog.underlying 147 = some (.map 9 3) := by kernel_rfl
  have hk : Tryz.prog.underlying 9 = some .string := by kernel_rfl
  have hz : zeroC Tryz.prog 3 = some (VI 0) := by kernel_rfl
  have wl := W.len
  have ws := wok_small W
  have ws4 : rs.length ≤ 8 := ws.2.2.2
  refine v85 g w p h K fun b1 b2 h2 hb1 hb2 f2 hL2 => ?_
  have f2 := f2.in_nil
  have z2 := f2.size
  have l2 : b2 < h2.size := hL2.head.lt
  have l1 : b1 < h2.size := hL2.tail.head.lt
  refine eop_makeMap fun h3 M3 f3 s3 => ⟨_, rfl, hL2.of_no f3, ?_⟩
  have f03 := f2.trans f3
  refine k_copiedW (H.no f03) p (by omega) _ fun u h4 o4 f4 => ⟨u, p, rfl, (hL2.of_no f3).of_no f4, fun b3 h6 hb3 f6 hL6 => ?_⟩
  have f6 := f6.in_nil
  have z4 := f4.size
  have z6 := f6.size
  have l3 : b3 < h6.size := hL6.head.lt
  have f36 := f4.trans f6
  generalize hF : (fun k => Iv h3.size h4.size k ∨ k = b3) = F
  have F1 : ∀ k, F k -> h2.size < k := fun k hk => by rw [← hF] at hk; rcases hk with hk | hk; exact Nat.lt_of_lt_of_le s3 hk.1; omega
  have F2 : ∀ k, Iv h3.size h4.size k -> F k := fun k hk => by rw [← hF]; exact .inl hk
  have F3 : F b3 := by rw [← hF]; exact .inr rfl
  have o6 : OwI h6 F u rs := (Ow.no o4 f6).mono fun k _ hk => F2 k hk
  have hub : ¬ u.own b3 := fun hk => by have := (o4.foot hk).2; omega
  have no_ : ∀ {x : Heap}, Fr (fun k => h2.size ≤ k) h x -> Fr No h x := fun f => f.mono fun k hk hk2 => absurd hk2 (by omega)
  have G0 : RdR (fun k => S k /\ k < h.size) h g xss := G.lowS
  refine ⟨fun x q h' => perP xss (rs, p) = (0, 0, false) /\ Fr (fun k => h2.size ≤ k) h h', ⟨fun n i x q h' => ∃ (hs : List St) (s : St), i = (hs.length : Int) /\ n + hs.length = 2001 /\ q = s.2 /\ OwI h' F x s.1 /\ ¬ x.own b3 /\ MapAt h' h2.size (kvL hs) /\ (∀ t, t ∈ hs -> WOK xss t) /\ WOK xss s /\ perP xss (rs, p) = perL xss n hs.length s hs /\ Fr (fun k => h2.size ≤ k) h h', ⟨2001, [], (rs, p), rfl, rfl, rfl, o6, hub, M3.fr f36 (fun h => h), fun t ht => (by cases ht), W, rfl, (f03.trans f36).of_no⟩, ?_⟩, ?_⟩
  · rintro n i x q h7 ⟨hs, s, rfl, en, rfl, o7, hx, M7, Wh, Ws, eP, f7⟩ hL7
    have ss := wok_small Ws
    refine ⟨fun e => ?_, fun e => ?_⟩
    · simp only [decide_eq_true_eq] at e
      obtain ⟨n, rfl⟩ : ∃ n', n = n' + 1 := ⟨n - 1, by omega⟩
      rw [perL] at eP
      refine k_walkText (show RdI _ h7 x s.1 from o7.rdF) (fun y hy => by have := ss.1 y hy; omega) (by omega) ss.2.1 (by omega) _ fun h8 f8 => ⟨_, rfl, hL7.of_no f8, ?_⟩
      have M8 := M7.fr f8 (fun h => h)
      refine rop_lookup hm hk hz M8 ⟨_, _, rfl, fun e2 => ?_, fun e2 => ?_⟩
      · rw [kvL_find Ws hs Wh] at e2 ⊢
        cases hi : idxL hs s with
        | none => rw [hi] at e2; cases e2
        | some m =>
          rw [hi] at eP
          simp only at eP
          have hml := (List.getElem?_eq_some_iff.1 (idxL_some hi)).1
          simp only [Option.map_some, Option.getD_some]
          rw [w64_eq _ (by omega) (by omega)]
          have := HK h8 ((no_ f7).trans f8)
          rw [eP] at this
          exact this
      · rw [kvL_find Ws hs Wh] at e2
        cases hi : idxL hs s with
        | some m => rw [hi] at e2; cases e2
        | none =>
          rw [hi] at eP
          simp only at eP
          refine uop_mapUpdate hm hk M8 (by rw [kvL_find Ws hs Wh, hi]; rfl) fun v h9 M9 f9 => ⟨?_, ?_⟩
          · exact (hL7.of_no f8).fr f9 fun q hq hk => by
              simp only [List.mem_cons, List.not_mem_nil, or_false] at hq
              simp only [In, List.mem_cons, List.not_mem_nil, or_false] at hk
              rcases hq with rfl | rfl | rfl <;> simp only at hk <;> omega
          have hL9 : Vars h9 [(b3, [x.v, VI s.2]), (b2, [w.v, VI p]), (b1, [g.v])] := (hL7.of_no f8).fr f9 fun q hq hk => by
              simp only [List.mem_cons, List.not_mem_nil, or_false] at hq
              simp only [In, List.mem_cons, List.not_mem_nil, or_false] at hk
              rcases hq with rfl | rfl | rfl <;> simp only at hk <;> omega
          have f79 : Fr (fun k => h2.size ≤ k) h7 h9 := f8.of_no.trans (f9.mono fun k _ hk => by simp [In] at hk; omega)
          have o9 : OwI h9 F x s.1 := Ow.fr (Ow.no o7 f8) f9 fun k hk hk2 => by have := F1 _ (o7.foot hk).1; simp [In] at hk2; omega
          have f09 := f7.trans f79
          have M9' : MapAt h9 h2.size (kvL (hs ++ [s])) := by rw [kvL_snoc]; exact M9
          have G9 : RdR (fun k => S k /\ k < h.size) h9 g xss := G0.fr f09 fun k hk hk2 => by omega
          refine k_stepF (s := s) G9 hL9.head o9 (fun k hk hk2 => by have := F1 _ hk2; omega) F3 hx Ws _ (fun hn h10 f10 => ⟨x, s.2, false, rfl, hL9.of_no f10, fun _ => ?_, fun e => by cases e⟩) (fun s' hs' h10 o10 V10 f10 => ⟨x, s'.2, true, rfl, ?_, fun e => (by cases e), fun _ => ?_⟩)
          · rw [hn] at eP
            exact ⟨eP, f09.trans f10.of_no⟩
          · exact .cons V10 (hL9.ne) (hL9.tail.fr f10 fun q hq hk => by
              simp only [List.mem_cons, List.not_mem_nil, or_false] at hq
              have := F1 _ hk
              rcases hq with rfl | rfl <;> simp only at this <;> omega)
          · rw [hs'] at eP
            simp only at eP
            refine ⟨n, by omega, hs ++ [s], s', ?_, by simp; omega, rfl, o10, hx, M9'.fr f10 fun hk => by have := F1 _ hk; omega, fun t ht => ?_, Ws.step hs', by rw [eP]; simp, f09.trans (f10.mono fun k _ hk => by have := F1 _ hk; omega)⟩
            · rw [w64_eq _ (by omega) (by omega)]; simp
            · rcases List.mem_append.1 ht with ht | ht
              · exact Wh t ht
              · simp only [List.mem_cons, List.not_mem_nil, or_false] at ht
                rw [ht]; exact Ws
    · simp only [decide_eq_false_iff_not] at e
      have : n = 0 := by omega
      subst this
      exact ⟨eP, f7⟩
  · rintro x q h11 ⟨eP, f11⟩ hL11
    have := HK h11 (no_ f11)
    rw [eP] at this
    exact this
def w86_1 (P : Program) (h_17 : Heap) (b_3 : Nat) (t42_1 : Sl) (t42_2 : Int) (b_10 : Nat) (t36_1 : Sl) (t36_2 : Int) (b_5 : Nat) (x_5 : Sl) (x_6 : Int) (b_4 : Nat) (x_7 : Sl) (x_8 : Int) (w1_1 : Sl) (w1_2 : Int) (b_2 : Nat) (b_1 : Nat) (g0_1 : Sl) (K : Value -> Heap -> Prop) : Prop :=
  ∀ (b_11 : Nat) (h_28 : Heap), h_17.size ≤ b_11 -> Fr (In [b_3]) h_17 h_28 -> Vars h_28 [(b_11, [(Sl.v t42_1), (VI t42_2)]), (b_10, [(Sl.v t36_1), (VI t36_2)]), (b_5, [(Sl.v x_5), (VI x_6)]), (b_4, [(Sl.v x_7), (VI x_8)]), (b_3, [(Sl.v w1_1), (VI w1_2)]), (b_2, [(Sl.v w1_1), (VI w1_2)]), (b_1, [(Sl.v g0_1)])] →
  K (Value.tuple #[(VI 0), (Value.agg #[(Sl.v w1_1), (VI w1_2)]), (VI 0)]) h_28
def w86_3 (P : Program) (start21_1 : Int) (t71_1 : Int) (b_3 : Nat) (h_44 : Heap) (b_14 : Nat) (x_15 : Sl) (x_16 : Int) (b_13 : Nat) (x_17 : Sl) (x_18 : Int) (b_5 : Nat) (x_5 : Sl) (x_6 : Int) (b_4 : Nat) (x_7 : Sl) (x_8 : Int) (w1_1 : Sl) (w1_2 : Int) (b_2 : Nat) (b_1 : Nat) (g0_1 : Sl) (K : Value -> Heap -> Prop) : Prop :=
  ((decide (2000 < (w64 (start21_1 + t71_1)))) = true →
  ∀ (h_49 : Heap), Fr (In [b_3]) h_44 h_49 -> Vars h_49 [(b_14, [(Sl.v x_15), (VI x_16)]), (b_13, [(Sl.v x_17), (VI x_18)]), (b_5, [(Sl.v x_5), (VI x_6)]), (b_4, [(Sl.v x_7), (VI x_8)]), (b_3, [(Sl.v w1_1), (VI w1_2)]), (b_2, [(Sl.v w1_1), (VI w1_2)]), (b_1, [(Sl.v g0_1)])] →
  K (Value.tuple #[(VI 0), (Value.agg #[(Sl.v w1_1), (VI w1_2)]), (VI 0)]) h_49) ∧
  ((decide (2000 < (w64 (start21_1 + t71_1)))) = false →
  ∀ (h_50 : Heap), Fr (In [b_3]) h_44 h_50 -> Vars h_50 [(b_14, [(Sl.v x_15), (VI x_16)]), (b_13, [(Sl.v x_17), (VI x_18)]), (b_5, [(Sl.v x_5), (VI x_6)]), (b_4, [(Sl.v x_7), (VI x_8)]), (b_3, [(Sl.v x_17), (VI x_18)]), (b_2, [(Sl.v w1_1), (VI w1_2)]), (b_1, [(Sl.v g0_1)])] →
  K (Value.tuple #[(VI start21_1), (Value.agg #[(Sl.v x_17), (VI x_18)]), (VI t71_1)]) h_50)
def w86_2 (P : Program) (met9_1 : Bool) (g0_1 : Sl) (x_7 : Sl) (x_8 : Int) (h_13 : Heap) (b_5 : Nat) (x_5 : Sl) (x_6 : Int) (b_4 : Nat) (b_3 : Nat) (b_2 : Nat) (w1_1 : Sl) (w1_2 : Int) (b_1 : Nat) (K : Value -> Heap -> Prop) : Prop :=
  ((!met9_1) = false →
  callM P 89 #[(Value.agg #[(Sl.v g0_1)]), (Value.agg #[(Sl.v x_7), (VI x_8)]), (VI 2000)] h_13 fun rv_5 h_29 => ∃ t71_1 : Int, rv_5 = (VI t71_1) /\ Vars h_29 [(b_5, [(Sl.v x_5), (VI x_6)]), (b_4, [(Sl.v x_7), (VI x_8)]), (b_3, [(Sl.v nilSl), (VI 0)]), (b_2, [(Sl.v w1_1), (VI w1_2)]), (b_1, [(Sl.v g0_1)])] ∧
  ((decide (t71_1 = 0)) = true →
  ∀ (h_30 : Heap), Fr (In [b_3]) h_29 h_30 -> Vars h_30 [(b_5, [(Sl.v x_5), (VI x_6)]), (b_4, [(Sl.v x_7), (VI x_8)]), (b_3, [(Sl.v w1_1), (VI w1_2)]), (b_2, [(Sl.v w1_1), (VI w1_2)]), (b_1, [(Sl.v g0_1)])] →
  K (Value.tuple #[(VI 0), (Value.agg #[(Sl.v w1_1), (VI w1_2)]), (VI 0)]) h_30) ∧
  ((decide (t71_1 = 0)) = false →
  ∃ J_3 : Nat -> Sl -> Int -> Nat -> Sl -> Int -> Heap -> Prop, ((∀ (b_15 : Nat) (h_31 : Heap), h_29.size ≤ b_15 -> Fr (In []) h_29 h_31 -> Vars h_31 [(b_15, [(Sl.v nilSl), (VI 0)]), (b_5, [(Sl.v x_5), (VI x_6)]), (b_4, [(Sl.v x_7), (VI x_8)]), (b_3, [(Sl.v nilSl), (VI 0)]), (b_2, [(Sl.v w1_1), (VI w1_2)]), (b_1, [(Sl.v g0_1)])] →
  ∀ (b_16 : Nat) (h_32 : Heap), h_31.size ≤ b_16 -> Fr (In []) h_31 h_32 -> Vars h_32 [(b_16, [(Sl.v nilSl), (VI 0)]), (b_15, [(Sl.v nilSl), (VI 0)]), (b_5, [(Sl.v x_5), (VI x_6)]), (b_4, [(Sl.v x_7), (VI x_8)]), (b_3, [(Sl.v nilSl), (VI 0)]), (b_2, [(Sl.v w1_1), (VI w1_2)]), (b_1, [(Sl.v g0_1)])] →
  ∀ (h_33 : Heap), Fr (In [b_15]) h_32 h_33 -> Vars h_33 [(b_16, [(Sl.v nilSl), (VI 0)]), (b_15, [(Sl.v w1_1), (VI w1_2)]), (b_5, [(Sl.v x_5), (VI x_6)]), (b_4, [(Sl.v x_7), (VI x_8)]), (b_3, [(Sl.v nilSl), (VI 0)]), (b_2, [(Sl.v w1_1), (VI w1_2)]), (b_1, [(Sl.v g0_1)])] →
  ∀ (h_34 : Heap), Fr (In [b_16]) h_33 h_34 -> Vars h_34 [(b_16, [(Sl.v w1_1), (VI w1_2)]), (b_15, [(Sl.v w1_1), (VI w1_2)]), (b_5, [(Sl.v x_5), (VI x_6)]), (b_4, [(Sl.v x_7), (VI x_8)]), (b_3, [(Sl.v nilSl), (VI 0)]), (b_2, [(Sl.v w1_1), (VI w1_2)]), (b_1, [(Sl.v g0_1)])] →
  J_3 b_15 w1_1 w1_2 b_16 w1_1 w1_2 h_34) ∧
  (∀ (b_17 : Nat) (h_35 : Heap), h_29.size ≤ b_17 -> Fr (In []) h_29 h_35 -> Vars h_35 [(b_17, [(Sl.v nilSl), (VI 0)]), (b_5, [(Sl.v x_5), (VI x_6)]), (b_4, [(Sl.v x_7), (VI x_8)]), (b_3, [(Sl.v nilSl), (VI 0)]), (b_2, [(Sl.v w1_1), (VI w1_2)]), (b_1, [(Sl.v g0_1)])] →
  ∀ (b_18 : Nat) (h_36 : Heap), h_35.size ≤ b_18 -> Fr (In []) h_35 h_36 -> Vars h_36 [(b_18, [(Sl.v nilSl), (VI 0)]), (b_17, [(Sl.v nilSl), (VI 0)]), (b_5, [(Sl.v x_5), (VI x_6)]), (b_4, [(Sl.v x_7), (VI x_8)]), (b_3, [(Sl.v nilSl), (VI 0)]), (b_2, [(Sl.v w1_1), (VI w1_2)]), (b_1, [(Sl.v g0_1)])] →
  ∀ (h_37 : Heap), Fr (In [b_18]) h_36 h_37 -> Vars h_37 [(b_18, [(Sl.v w1_1), (VI w1_2)]), (b_17, [(Sl.v nilSl), (VI 0)]), (b_5, [(Sl.v x_5), (VI x_6)]), (b_4, [(Sl.v x_7), (VI x_8)]), (b_3, [(Sl.v nilSl), (VI 0)]), (b_2, [(Sl.v w1_1), (VI w1_2)]), (b_1, [(Sl.v g0_1)])] →
  ∀ (h_38 : Heap), Fr (In [b_17]) h_37 h_38 -> Vars h_38 [(b_18, [(Sl.v w1_1), (VI w1_2)]), (b_17, [(Sl.v w1_1), (VI w1_2)]), (b_5, [(Sl.v x_5), (VI x_6)]), (b_4, [(Sl.v x_7), (VI x_8)]), (b_3, [(Sl.v nilSl), (VI 0)]), (b_2, [(Sl.v w1_1), (VI w1_2)]), (b_1, [(Sl.v g0_1)])] →
  J_3 b_18 w1_1 w1_2 b_17 w1_1 w1_2 h_38)) ∧
  ∀ (b_13 : Nat) (x_9 : Sl) (x_10 : Int) (b_14 : Nat) (x_11 : Sl) (x_12 : Int) (h_39 : Heap), J_3 b_13 x_9 x_10 b_14 x_11 x_12 h_39 -> Vars h_39 [(b_14, [(Sl.v x_11), (VI x_12)]), (b_13, [(Sl.v x_9), (VI x_10)]), (b_5, [(Sl.v x_5), (VI x_6)]), (b_4, [(Sl.v x_7), (VI x_8)]), (b_3, [(Sl.v nilSl), (VI 0)]), (b_2, [(Sl.v w1_1), (VI w1_2)]), (b_1, [(Sl.v g0_1)])] →
  ∃ J_4 : Nat -> Int -> Sl -> Int -> Heap -> Prop, (∃ n0 : Nat, J_4 n0 0 x_11 x_12 h_39) ∧
  ∀ (n_2 : Nat) (n20_1 : Int) (x_13 : Sl) (x_14 : Int) (h_40 : Heap), J_4 n_2 n20_1 x_13 x_14 h_40 -> Vars h_40 [(b_14, [(Sl.v x_13), (VI x_14)]), (b_13, [(Sl.v x_9), (VI x_10)]), (b_5, [(Sl.v x_5), (VI x_6)]), (b_4, [(Sl.v x_7), (VI x_8)]), (b_3, [(Sl.v nilSl), (VI 0)]), (b_2, [(Sl.v w1_1), (VI w1_2)]), (b_1, [(Sl.v g0_1)])] →
  ((decide (n20_1 < t71_1)) = true →
  callM P 105 #[(Value.agg #[(Sl.v g0_1)]), (Value.agg #[(Sl.v x_13), (VI x_14)])] h_40 fun rv_6 h_41 => ∃ t85_1 : Sl, ∃ t85_2 : Int, ∃ t85_3 : Bool, rv_6 = (Value.tuple #[(Value.agg #[(Sl.v t85_1), (VI t85_2)]), (VB t85_3)]) /\ Vars h_41 [(b_14, [(Sl.v x_13), (VI x_14)]), (b_13, [(Sl.v x_9), (VI x_10)]), (b_5, [(Sl.v x_5), (VI x_6)]), (b_4, [(Sl.v x_7), (VI x_8)]), (b_3, [(Sl.v nilSl), (VI 0)]), (b_2, [(Sl.v w1_1), (VI w1_2)]), (b_1, [(Sl.v g0_1)])] ∧
  ∀ (h_42 : Heap), Fr (In [b_14]) h_41 h_42 -> Vars h_42 [(b_14, [(Sl.v t85_1), (VI t85_2)]), (b_13, [(Sl.v x_9), (VI x_10)]), (b_5, [(Sl.v x_5), (VI x_6)]), (b_4, [(Sl.v x_7), (VI x_8)]), (b_3, [(Sl.v nilSl), (VI 0)]), (b_2, [(Sl.v w1_1), (VI w1_2)]), (b_1, [(Sl.v g0_1)])] →
  ∃ m : Nat, m < n_2 /\ J_4 m (w64 (n20_1 + 1)) t85_1 t85_2 h_42) ∧
  ((decide (n20_1 < t71_1)) = false →
  ∃ J_5 : Nat -> Int -> Sl -> Int -> Sl -> Int -> Heap -> Prop, (∃ n0 : Nat, J_5 n0 0 x_13 x_14 x_9 x_10 h_40) ∧
  ∀ (n_3 : Nat) (start21_1 : Int) (x_15 : Sl) (x_16 : Int) (x_17 : Sl) (x_18 : Int) (h_43 : Heap), J_5 n_3 start21_1 x_15 x_16 x_17 x_18 h_43 -> Vars h_43 [(b_14, [(Sl.v x_15), (VI x_16)]), (b_13, [(Sl.v x_17), (VI x_18)]), (b_5, [(Sl.v x_5), (VI x_6)]), (b_4, [(Sl.v x_7), (VI x_8)]), (b_3, [(Sl.v nilSl), (VI 0)]), (b_2, [(Sl.v w1_1), (VI w1_2)]), (b_1, [(Sl.v g0_1)])] →
  callM P 132 #[(Value.agg #[(Sl.v x_17), (VI x_18)]), (Value.agg #[(Sl.v x_15), (VI x_16)])] h_43 fun rv_7 h_44 => ∃ t90_1 : Bool, rv_7 = (VB t90_1) /\ Vars h_44 [(b_14, [(Sl.v x_15), (VI x_16)]), (b_13, [(Sl.v x_17), (VI x_18)]), (b_5, [(Sl.v x_5), (VI x_6)]), (b_4, [(Sl.v x_7), (VI x_8)]), (b_3, [(Sl.v nilSl), (VI 0)]), (b_2, [(Sl.v w1_1), (VI w1_2)]), (b_1, [(Sl.v g0_1)])] ∧
  ((!t90_1) = true →
  ((decide (start21_1 ≤ 2000)) = true →
  callM P 105 #[(Value.agg #[(Sl.v g0_1)]), (Value.agg #[(Sl.v x_17), (VI x_18)])] h_44 fun rv_8 h_45 => ∃ t99_1 : Sl, ∃ t99_2 : Int, ∃ t99_3 : Bool, rv_8 = (Value.tuple #[(Value.agg #[(Sl.v t99_1), (VI t99_2)]), (VB t99_3)]) /\ Vars h_45 [(b_14, [(Sl.v x_15), (VI x_16)]), (b_13, [(Sl.v x_17), (VI x_18)]), (b_5, [(Sl.v x_5), (VI x_6)]), (b_4, [(Sl.v x_7), (VI x_8)]), (b_3, [(Sl.v nilSl), (VI 0)]), (b_2, [(Sl.v w1_1), (VI w1_2)]), (b_1, [(Sl.v g0_1)])] ∧
  ∀ (h_46 : Heap), Fr (In [b_13]) h_45 h_46 -> Vars h_46 [(b_14, [(Sl.v x_15), (VI x_16)]), (b_13, [(Sl.v t99_1), (VI t99_2)]), (b_5, [(Sl.v x_5), (VI x_6)]), (b_4, [(Sl.v x_7), (VI x_8)]), (b_3, [(Sl.v nilSl), (VI 0)]), (b_2, [(Sl.v w1_1), (VI w1_2)]), (b_1, [(Sl.v g0_1)])] →
  callM P 105 #[(Value.agg #[(Sl.v g0_1)]), (Value.agg #[(Sl.v x_15), (VI x_16)])] h_46 fun rv_9 h_47 => ∃ t105_1 : Sl, ∃ t105_2 : Int, ∃ t105_3 : Bool, rv_9 = (Value.tuple #[(Value.agg #[(Sl.v t105_1), (VI t105_2)]), (VB t105_3)]) /\ Vars h_47 [(b_14, [(Sl.v x_15), (VI x_16)]), (b_13, [(Sl.v t99_1), (VI t99_2)]), (b_5, [(Sl.v x_5), (VI x_6)]), (b_4, [(Sl.v x_7), (VI x_8)]), (b_3, [(Sl.v nilSl), (VI 0)]), (b_2, [(Sl.v w1_1), (VI w1_2)]), (b_1, [(Sl.v g0_1)])] ∧
  ∀ (h_48 : Heap), Fr (In [b_14]) h_47 h_48 -> Vars h_48 [(b_14, [(Sl.v t105_1), (VI t105_2)]), (b_13, [(Sl.v t99_1), (VI t99_2)]), (b_5, [(Sl.v x_5), (VI x_6)]), (b_4, [(Sl.v x_7), (VI x_8)]), (b_3, [(Sl.v nilSl), (VI 0)]), (b_2, [(Sl.v w1_1), (VI w1_2)]), (b_1, [(Sl.v g0_1)])] →
  ∃ m : Nat, m < n_3 /\ J_5 m (w64 (start21_1 + 1)) t105_1 t105_2 t99_1 t99_2 h_48) ∧
  ((decide (start21_1 ≤ 2000)) = false →
  w86_3 P start21_1 t71_1 b_3 h_44 b_14 x_15 x_16 b_13 x_17 x_18 b_5 x_5 x_6 b_4 x_7 x_8 w1_1 w1_2 b_2 b_1 g0_1 K)) ∧
  ((!t90_1) = false →
  w86_3 P start21_1 t71_1 b_3 h_44 b_14 x_15 x_16 b_13 x_17 x_18 b_5 x_5 x_6 b_4 x_7 x_8 w1_1 w1_2 b_2 b_1 g0_1 K))))
def w86 (P : Program) (g0_1 : Sl) (w1_1 : Sl) (w1_2 : Int) (h : Heap) (K : Value -> Heap -> Prop) : Prop :=
  ∀ (b_1 : Nat) (b_2 : Nat) (b_3 : Nat) (h_3 : Heap), h.size ≤ b_1 -> h.size ≤ b_2 -> h.size ≤ b_3 -> Fr (In []) h h_3 -> Vars h_3 [(b_3, [(Sl.v nilSl), (VI 0)]), (b_2, [(Sl.v w1_1), (VI w1_2)]), (b_1, [(Sl.v g0_1)])] →
  ∃ J_1 : Nat -> Sl -> Int -> Nat -> Sl -> Int -> Heap -> Prop, ((∀ (b_6 : Nat) (h_4 : Heap), h_3.size ≤ b_6 -> Fr (In []) h_3 h_4 -> Vars h_4 [(b_6, [(Sl.v nilSl), (VI 0)]), (b_3, [(Sl.v nilSl), (VI 0)]), (b_2, [(Sl.v w1_1), (VI w1_2)]), (b_1, [(Sl.v g0_1)])] →
  ∀ (b_7 : Nat) (h_5 : Heap), h_4.size ≤ b_7 -> Fr (In []) h_4 h_5 -> Vars h_5 [(b_7, [(Sl.v nilSl), (VI 0)]), (b_6, [(Sl.v nilSl), (VI 0)]), (b_3, [(Sl.v nilSl), (VI 0)]), (b_2, [(Sl.v w1_1), (VI w1_2)]), (b_1, [(Sl.v g0_1)])] →
  ∀ (h_6 : Heap), Fr (In [b_6]) h_5 h_6 -> Vars h_6 [(b_7, [(Sl.v nilSl), (VI 0)]), (b_6, [(Sl.v w1_1), (VI w1_2)]), (b_3, [(Sl.v nilSl), (VI 0)]), (b_2, [(Sl.v w1_1), (VI w1_2)]), (b_1, [(Sl.v g0_1)])] →
  ∀ (h_7 : Heap), Fr (In [b_7]) h_6 h_7 -> Vars h_7 [(b_7, [(Sl.v w1_1), (VI w1_2)]), (b_6, [(Sl.v w1_1), (VI w1_2)]), (b_3, [(Sl.v nilSl), (VI 0)]), (b_2, [(Sl.v w1_1), (VI w1_2)]), (b_1, [(Sl.v g0_1)])] →
  J_1 b_6 w1_1 w1_2 b_7 w1_1 w1_2 h_7) ∧
  (∀ (b_8 : Nat) (h_8 : Heap), h_3.size ≤ b_8 -> Fr (In []) h_3 h_8 -> Vars h_8 [(b_8, [(Sl.v nilSl), (VI 0)]), (b_3, [(Sl.v nilSl), (VI 0)]), (b_2, [(Sl.v w1_1), (VI w1_2)]), (b_1, [(Sl.v g0_1)])] →
  ∀ (b_9 : Nat) (h_9 : Heap), h_8.size ≤ b_9 -> Fr (In []) h_8 h_9 -> Vars h_9 [(b_9, [(Sl.v nilSl), (VI 0)]), (b_8, [(Sl.v nilSl), (VI 0)]), (b_3, [(Sl.v nilSl), (VI 0)]), (b_2, [(Sl.v w1_1), (VI w1_2)]), (b_1, [(Sl.v g0_1)])] →
  ∀ (h_10 : Heap), Fr (In [b_9]) h_9 h_10 -> Vars h_10 [(b_9, [(Sl.v w1_1), (VI w1_2)]), (b_8, [(Sl.v nilSl), (VI 0)]), (b_3, [(Sl.v nilSl), (VI 0)]), (b_2, [(Sl.v w1_1), (VI w1_2)]), (b_1, [(Sl.v g0_1)])] →
  ∀ (h_11 : Heap), Fr (In [b_8]) h_10 h_11 -> Vars h_11 [(b_9, [(Sl.v w1_1), (VI w1_2)]), (b_8, [(Sl.v w1_1), (VI w1_2)]), (b_3, [(Sl.v nilSl), (VI 0)]), (b_2, [(Sl.v w1_1), (VI w1_2)]), (b_1, [(Sl.v g0_1)])] →
  J_1 b_9 w1_1 w1_2 b_8 w1_1 w1_2 h_11)) ∧
  ∀ (b_4 : Nat) (x_1 : Sl) (x_2 : Int) (b_5 : Nat) (x_3 : Sl) (x_4 : Int) (h_12 : Heap), J_1 b_4 x_1 x_2 b_5 x_3 x_4 h_12 -> Vars h_12 [(b_5, [(Sl.v x_3), (VI x_4)]), (b_4, [(Sl.v x_1), (VI x_2)]), (b_3, [(Sl.v nilSl), (VI 0)]), (b_2, [(Sl.v w1_1), (VI w1_2)]), (b_1, [(Sl.v g0_1)])] →
  ∃ J_2 : Nat -> Bool -> Int -> Sl -> Int -> Sl -> Int -> Heap -> Prop, (∃ n0 : Nat, J_2 n0 false 1 x_3 x_4 x_1 x_2 h_12) ∧
  ∀ (n_1 : Nat) (met9_1 : Bool) (n10_1 : Int) (x_5 : Sl) (x_6 : Int) (x_7 : Sl) (x_8 : Int) (h_13 : Heap), J_2 n_1 met9_1 n10_1 x_5 x_6 x_7 x_8 h_13 -> Vars h_13 [(b_5, [(Sl.v x_5), (VI x_6)]), (b_4, [(Sl.v x_7), (VI x_8)]), (b_3, [(Sl.v nilSl), (VI 0)]), (b_2, [(Sl.v w1_1), (VI w1_2)]), (b_1, [(Sl.v g0_1)])] →
  ((decide ((w64 (2 * n10_1)) ≤ 4000)) = true →
  ((!met9_1) = true →
  callM P 105 #[(Value.agg #[(Sl.v g0_1)]), (Value.agg #[(Sl.v x_7), (VI x_8)])] h_13 fun rv_1 h_14 => ∃ t36_1 : Sl, ∃ t36_2 : Int, ∃ t36_3 : Bool, rv_1 = (Value.tuple #[(Value.agg #[(Sl.v t36_1), (VI t36_2)]), (VB t36_3)]) /\ Vars h_14 [(b_5, [(Sl.v x_5), (VI x_6)]), (b_4, [(Sl.v x_7), (VI x_8)]), (b_3, [(Sl.v nilSl), (VI 0)]), (b_2, [(Sl.v w1_1), (VI w1_2)]), (b_1, [(Sl.v g0_1)])] ∧
  ∀ (b_10 : Nat) (h_16 : Heap), h_14.size ≤ b_10 -> Fr (In []) h_14 h_16 -> Vars h_16 [(b_10, [(Sl.v t36_1), (VI t36_2)]), (b_5, [(Sl.v x_5), (VI x_6)]), (b_4, [(Sl.v x_7), (VI x_8)]), (b_3, [(Sl.v nilSl), (VI 0)]), (b_2, [(Sl.v w1_1), (VI w1_2)]), (b_1, [(Sl.v g0_1)])] →
  callM P 105 #[(Value.agg #[(Sl.v g0_1)]), (Value.agg #[(Sl.v x_5), (VI x_6)])] h_16 fun rv_2 h_17 => ∃ t42_1 : Sl, ∃ t42_2 : Int, ∃ t42_3 : Bool, rv_2 = (Value.tuple #[(Value.agg #[(Sl.v t42_1), (VI t42_2)]), (VB t42_3)]) /\ Vars h_17 [(b_10, [(Sl.v t36_1), (VI t36_2)]), (b_5, [(Sl.v x_5), (VI x_6)]), (b_4, [(Sl.v x_7), (VI x_8)]), (b_3, [(Sl.v nilSl), (VI 0)]), (b_2, [(Sl.v w1_1), (VI w1_2)]), (b_1, [(Sl.v g0_1)])] ∧
  ((!t36_3) = true →
  w86_1 P h_17 b_3 t42_1 t42_2 b_10 t36_1 t36_2 b_5 x_5 x_6 b_4 x_7 x_8 w1_1 w1_2 b_2 b_1 g0_1 K) ∧
  ((!t36_3) = false →
  ((!t42_3) = true →
  w86_1 P h_17 b_3 t42_1 t42_2 b_10 t36_1 t36_2 b_5 x_5 x_6 b_4 x_7 x_8 w1_1 w1_2 b_2 b_1 g0_1 K) ∧
  ((!t42_3) = false →
  ∀ (b_11 : Nat) (h_19 : Heap), h_17.size ≤ b_11 -> Fr (In []) h_17 h_19 -> Vars h_19 [(b_11, [(Sl.v t42_1), (VI t42_2)]), (b_10, [(Sl.v t36_1), (VI t36_2)]), (b_5, [(Sl.v x_5), (VI x_6)]), (b_4, [(Sl.v x_7), (VI x_8)]), (b_3, [(Sl.v nilSl), (VI 0)]), (b_2, [(Sl.v w1_1), (VI w1_2)]), (b_1, [(Sl.v g0_1)])] →
  callM P 105 #[(Value.agg #[(Sl.v g0_1)]), (Value.agg #[(Sl.v t42_1), (VI t42_2)])] h_19 fun rv_3 h_21 => ∃ t55_1 : Sl, ∃ t55_2 : Int, ∃ t55_3 : Bool, rv_3 = (Value.tuple #[(Value.agg #[(Sl.v t55_1), (VI t55_2)]), (VB t55_3)]) /\ Vars h_21 [(b_11, [(Sl.v t42_1), (VI t42_2)]), (b_10, [(Sl.v t36_1), (VI t36_2)]), (b_5, [(Sl.v x_5), (VI x_6)]), (b_4, [(Sl.v x_7), (VI x_8)]), (b_3, [(Sl.v nilSl), (VI 0)]), (b_2, [(Sl.v w1_1), (VI w1_2)]), (b_1, [(Sl.v g0_1)])] ∧
  ((!t55_3) = true →
  ∀ (b_12 : Nat) (h_24 : Heap), h_21.size ≤ b_12 -> Fr (In [b_3]) h_21 h_24 -> Vars h_24 [(b_12, [(Sl.v t55_1), (VI t55_2)]), (b_11, [(Sl.v t42_1), (VI t42_2)]), (b_10, [(Sl.v t36_1), (VI t36_2)]), (b_5, [(Sl.v x_5), (VI x_6)]), (b_4, [(Sl.v x_7), (VI x_8)]), (b_3, [(Sl.v w1_1), (VI w1_2)]), (b_2, [(Sl.v w1_1), (VI w1_2)]), (b_1, [(Sl.v g0_1)])] →
  K (Value.tuple #[(VI 0), (Value.agg #[(Sl.v w1_1), (VI w1_2)]), (VI 0)]) h_24) ∧
  ((!t55_3) = false →
  ∀ (b_12 : Nat) (h_26 : Heap), h_21.size ≤ b_12 -> Fr (In [b_5, b_4]) h_21 h_26 -> Vars h_26 [(b_12, [(Sl.v t55_1), (VI t55_2)]), (b_11, [(Sl.v t42_1), (VI t42_2)]), (b_10, [(Sl.v t36_1), (VI t36_2)]), (b_5, [(Sl.v t55_1), (VI t55_2)]), (b_4, [(Sl.v t36_1), (VI t36_2)]), (b_3, [(Sl.v nilSl), (VI 0)]), (b_2, [(Sl.v w1_1), (VI w1_2)]), (b_1, [(Sl.v g0_1)])] →
  callM P 132 #[(Value.agg #[(Sl.v t36_1), (VI t36_2)]), (Value.agg #[(Sl.v t55_1), (VI t55_2)])] h_26 fun rv_4 h_27 => ∃ t65_1 : Bool, rv_4 = (VB t65_1) /\ Vars h_27 [(b_12, [(Sl.v t55_1), (VI t55_2)]), (b_11, [(Sl.v t42_1), (VI t42_2)]), (b_10, [(Sl.v t36_1), (VI t36_2)]), (b_5, [(Sl.v t55_1), (VI t55_2)]), (b_4, [(Sl.v t36_1), (VI t36_2)]), (b_3, [(Sl.v nilSl), (VI 0)]), (b_2, [(Sl.v w1_1), (VI w1_2)]), (b_1, [(Sl.v g0_1)])] ∧
  ∃ m : Nat, m < n_1 /\ J_2 m t65_1 (w64 (n10_1 + 1)) t55_1 t55_2 t36_1 t36_2 h_27)))) ∧
  w86_2 P met9_1 g0_1 x_7 x_8 h_13 b_5 x_5 x_6 b_4 b_3 b_2 w1_1 w1_2 b_1 K) ∧
  ((decide ((w64 (2 * n10_1)) ≤ 4000)) = false →
  ((!met9_1) = true →
  ∀ (h_53 : Heap), Fr (In [b_3]) h_13 h_53 -> Vars h_53 [(b_5, [(Sl.v x_5), (VI x_6)]), (b_4, [(Sl.v x_7), (VI x_8)]), (b_3, [(Sl.v w1_1), (VI w1_2)]), (b_2, [(Sl.v w1_1), (VI w1_2)]), (b_1, [(Sl.v g0_1)])] →
  K (Value.tuple #[(VI 0), (Value.agg #[(Sl.v w1_1), (VI w1_2)]), (VI 0)]) h_53) ∧
  w86_2 P met9_1 g0_1 x_7 x_8 h_13 b_5 x_5 x_6 b_4 b_3 b_2 w1_1 w1_2 b_1 K)
theorem x86 (g0_1 : Sl) (w1_1 : Sl) (w1_2 : Int) (h : Heap) (K : Value -> Heap -> Prop) (H : w86 Tryz.prog g0_1 w1_1 w1_2 h K) : callM Tryz.prog 86 #[(Value.agg #[(Sl.v g0_1)]), (Value.agg #[(Sl.v w1_1), (VI w1_2)])] h K := v86 g0_1 w1_1 w1_2 h K H
end Go.Proofs.YtkjkfjkapbpgiaaGreatDoor
