import Derived.Test.YtkjkfjkapbpgiaaDoorWalksTurnK0
set_option linter.unusedVariables false
set_option linter.unusedSimpArgs false
namespace Go.Proofs.YtkjkfjkapbpgiaaDoor
open Go Go.Mx
theorem sq_wok {g : List (List Int)} {s : St} (W : WOK g s) : ∀ {n : Nat} {t : St}, sq g s n = some t → WOK g t
  | 0, t, h => by simp only [sq, Option.some.injEq] at h; rw [← h]; exact W
  | n + 1, t, h => by
    rw [sq] at h
    cases hn : sq g s n with
    | none => rw [hn] at h; cases h
    | some u => rw [hn] at h; exact (sq_wok W hn).step h
def degN (g : List (List Int)) (p : Nat) : Nat := (g.getD p []).length
section
variable {g : List (List Int)} {s : St}
end
def cyN (r d : Nat) : Nat → Nat → Nat
  | 0, _ => 0
  | c + 1, k => cyN r d c k + (if (r + c + 1) % d = k then 1 else 0)
theorem cyN_sum {r d : Nat} (hd : 0 < d) : ∀ c, sumN (cyN r d c) d = c
  | 0 => by
    have : ∀ n, sumN (cyN r d 0) n = 0 := by
      intro n
      induction n with
      | zero => rfl
      | succ n ih => rw [sumN, ih]; rfl
    exact this d
  | c + 1 => by
    have := sumN_one (f := cyN r d c) (f' := cyN r d (c + 1)) (p := (r + c + 1) % d) (d := 1) (by rw [cyN, if_pos rfl]) (fun i hi => by rw [cyN, if_neg (Ne.symm hi)]; rfl) d
    rw [this, cyN_sum hd c, if_pos (Nat.mod_lt _ hd)]
theorem mod_two {x d : Nat} (h : x < 2 * d) : x % d = if x < d then x else x - d := by
  split
  · exact Nat.mod_eq_of_lt (by assumption)
  · rw [Nat.mod_eq_sub_mod (by omega), Nat.mod_eq_of_lt (by omega)]
theorem div_step {c d : Nat} (hd : 0 < d) : (c + 1) / d = (if c % d + 1 = d then c / d + 1 else c / d) ∧ (c + 1) % d = (if c % d + 1 = d then 0 else c % d + 1) := by
  have h1 := Nat.div_add_mod c d
  have h2 := Nat.mod_lt c hd
  apply (Nat.div_mod_unique hd).2
  split
  · rw [Nat.mul_add]; omega
  · omega
theorem cyN_eq {r d k : Nat} (hk : k < d) : ∀ c, cyN r d c k = c / d + (if (k + (d - (r + 1) % d)) % d < c % d then 1 else 0)
  | 0 => by
    rw [cyN, Nat.zero_div, Nat.zero_mod, if_neg (by omega)]
  | c + 1 => by
    have hd : 0 < d := by omega
    obtain ⟨s1, s2⟩ := div_step (c := c) hd
    have a1 := Nat.mod_lt (r + 1) hd
    have a2 := Nat.mod_lt c hd
    have m1 : (r + c + 1) % d = (((r + 1) % d) + (c % d)) % d := by rw [← Nat.add_mod]; congr 1; omega
    rw [cyN, cyN_eq hk c, s1, s2, m1, mod_two (x := (r + 1) % d + c % d) (by omega), mod_two (x := k + (d - (r + 1) % d)) (by omega)]
    generalize (r + 1) % d = a at *
    generalize c % d = e at *
    generalize c / d = q at *
    (repeat' split) <;> omega
theorem cyN_bal {r d c k : Nat} (hk : k < d) : c / d ≤ cyN r d c k ∧ cyN r d c k ≤ c / d + 1 := by
  rw [cyN_eq hk c]
  split <;> omega
theorem cyN_le {r d : Nat} (k : Nat) : ∀ c, cyN r d c k ≤ c
  | 0 => Nat.le_refl _
  | c + 1 => by
    have := cyN_le (r := r) (d := d) k c
    rw [cyN]
    split <;> omega
def vN (g : List (List Int)) (r c : Nat → Nat) (q : Nat) : Nat := sumN (fun p => sumN (fun k => if (g.getD p []).getD k 0 = (q : Int) then cyN (r p) (degN g p) (c p) k else 0) (degN g p)) g.length
structure GL (g : List (List Int)) (s0 : St) (n : Nat) (w : Rn) (c : Nat → Nat) : Prop where
  use : ∀ p, p < g.length → ∀ k, k < degN g p → (w.us.getD p []).getD k 0 = (cyN (s0.1.getD p 0).toNat (degN g p) (c p) k : Int)
  rot : ∀ p, p < g.length → degN g p ≠ 0 → w.s.1.getD p 0 = ((((s0.1.getD p 0).toNat + c p) % degN g p : Nat) : Int)
  zero : ∀ p, p < g.length → degN g p = 0 → c p = 0
  sum : sumN c g.length = n
  vis : ∀ q, q < g.length → w.vs.getD q 0 = (vN g (fun p => (s0.1.getD p 0).toNat) c q : Int)
theorem bump_get {l : List Int} {i : Nat} (hi : i < l.length) (j : Nat) : (bump l i).getD j 0 = l.getD j 0 + (if i = j then 1 else 0) := by
  unfold bump
  by_cases e : i = j
  · subst e
    rw [getD_getI (by simpa using hi), List.getElem_set_self, if_pos rfl]
  · rw [if_neg e, Int.add_zero]
    simp [List.getD, List.getElem?_set, e]
theorem setR_get {α : Type} {l : List (List α)} {i : Nat} {x : List α} (hi : i < l.length) (j : Nat) : (l.set i x).getD j [] = if i = j then x else l.getD j [] := by
  by_cases e : i = j
  · subst e
    rw [if_pos rfl]
    simp [List.getD, List.getElem?_set, hi]
  · rw [if_neg e]
    simp [List.getD, List.getElem?_set, e]
theorem setI_get {l : List Int} {i : Nat} {x : Int} (hi : i < l.length) (j : Nat) : (l.set i x).getD j 0 = if i = j then x else l.getD j 0 := by
  by_cases e : i = j
  · subst e
    rw [if_pos rfl]
    simp [List.getD, List.getElem?_set, hi]
  · rw [if_neg e]
    simp [List.getD, List.getElem?_set, e]
theorem zeroI (l : Nat) (k : Nat) : (List.replicate l (0 : Int)).getD k 0 = 0 := by
  by_cases h : k < l
  · rw [getD_getI (by simpa using h)]; simp
  · simp [List.getD, h]
theorem GL.start {g : List (List Int)} {s0 : St} (W : WOK g s0) : GL g s0 0 (go0 g s0) fun _ => 0 := by
  have hl := W.len
  refine ⟨fun p hp k hk => ?_, fun p hp hd => ?_, fun _ _ _ => rfl, ?_, fun q hq => ?_⟩
  · have : (go0 g s0).us.getD p [] = List.replicate (g[p]).length 0 := by
      show (zerosR g).getD p [] = _
      unfold zerosR
      rw [getD_get (by simpa using hp)]
      simp
    rw [this, zeroI]; rfl
  · show s0.1.getD p 0 = _
    have r := W.rot p (by omega) hp
    rw [getD_getI (by omega)]
    have hd' : g[p].length ≠ 0 := by rw [← getD_get hp]; exact hd
    have : degN g p = g[p].length := by unfold degN; rw [getD_get hp]
    rw [this, Nat.add_zero, Nat.mod_eq_of_lt (by omega)]
    omega
  · have : ∀ n, sumN (fun _ => 0) n = 0 := by
      intro n
      induction n with
      | zero => rfl
      | succ n ih => rw [sumN, ih]
    exact this _
  · show (List.replicate g.length (0 : Int)).getD q 0 = _
    rw [zeroI]
    have z : ∀ (f : Nat → Nat), (∀ i, f i = 0) → ∀ n, sumN f n = 0 := by
      intro f hf n
      induction n with
      | zero => rfl
      | succ n ih => rw [sumN, ih, hf]
    have : vN g (fun p => (s0.1.getD p 0).toNat) (fun _ => 0) q = 0 := z _ (fun p => z _ (fun k => by simp [cyN]) _) _
    rw [this]; rfl
theorem GL.step {g : List (List Int)} {s0 : St} {n : Nat} {w : Rn} {c : Nat → Nat} (H : GL g s0 n w c) (R : RnOK g n w) {s' : St} (hs : stepP g w.s = some s') : GL g s0 (n + 1) (nextR w s') (fun p => if p = w.s.2.toNat then c p + 1 else c p) := by
  have W := R.w
  have hl := W.len
  have h0 := W.lo
  have h1 := W.hi
  obtain ⟨P, hP⟩ : ∃ P, w.s.2.toNat = P := ⟨_, rfl⟩
  rw [hP]
  have hp : P < g.length := by omega
  unfold stepP at hs
  rw [hP] at hs
  have hd : degN g P ≠ 0 := fun e => by rw [if_pos (show (g.getD P []).length = 0 from e)] at hs; cases hs
  rw [if_neg (show ¬ (g.getD P []).length = 0 from hd)] at hs
  have hs := (Option.some.inj hs).symm
  have hdeg : degN g P = (g[P]).length := by unfold degN; rw [getD_get hp]
  have hrot := H.rot P hp hd
  have hmod : ∀ x y m : Nat, ((x + y) % m + 1) % m = (x + y + 1) % m := fun x y m => by rw [Nat.mod_add_mod]
  have e1 : s'.1 = w.s.1.set P ((((s0.1.getD P 0).toNat + c P + 1) % degN g P : Nat) : Int) := by
    rw [hs]
    simp only
    rw [hrot, Int.toNat_natCast]
    show w.s.1.set P (((((s0.1.getD P 0).toNat + c P) % degN g P + 1) % degN g P : Nat) : Int) = _
    rw [hmod]
  have e3 : s'.1.getD P 0 = ((((s0.1.getD P 0).toNat + c P + 1) % degN g P : Nat) : Int) := by
    rw [e1, setI_get (by omega), if_pos rfl]
  have rlt : ((s0.1.getD P 0).toNat + c P + 1) % degN g P < degN g P := Nat.mod_lt _ (by omega)
  have e2 : s'.2 = (g.getD P []).getD (((s0.1.getD P 0).toNat + c P + 1) % degN g P) 0 := by
    rw [hs]
    simp only
    rw [hrot, Int.toNat_natCast]
    show (g.getD P []).getD ((((s0.1.getD P 0).toNat + c P) % degN g P + 1) % degN g P) 0 = _
    rw [hmod]
  generalize hρ : ((s0.1.getD P 0).toNat + c P + 1) % degN g P = ρ at *
  have ul := R.us
  have urow : (w.us.getD P []).length = degN g P := by rw [getD_get (by omega), R.row P (by omega) hp, hdeg]
  have vl := R.vs
  have W' : 0 ≤ s'.2 ∧ s'.2 < (g.length : Int) := by
    have hm := (graph_mem W.graph (List.getElem_mem hp)).2 _ (List.getElem_mem (show ρ < (g[P]'hp).length by omega))
    rw [e2, getD_get hp, getD_getI (by omega)]
    exact hm
  refine ⟨fun p hpl k hk => ?_, fun p hpl hd' => ?_, fun p hpl hd' => ?_, ?_, fun q hq => ?_⟩
  · show ((w.us.set w.s.2.toNat (bump (w.us.getD w.s.2.toNat []) (s'.1.getD w.s.2.toNat 0).toNat)).getD p []).getD k 0 = _
    rw [hP, e3, Int.toNat_natCast, setR_get (by omega)]
    by_cases e : P = p
    · subst e
      rw [if_pos rfl, if_pos rfl, bump_get (by omega), H.use P hpl k hk, cyN, hρ]
      split <;> simp
    · rw [if_neg e, if_neg (Ne.symm e)]
      exact H.use p hpl k hk
  · show s'.1.getD p 0 = _
    rw [e1, setI_get (by omega)]
    by_cases e : P = p
    · subst e
      rw [if_pos rfl, if_pos rfl, ← hρ]
      rfl
    · rw [if_neg e, if_neg (Ne.symm e)]
      exact H.rot p hpl hd'
  · by_cases e : p = P
    · subst e; omega
    · rw [if_neg e]; exact H.zero p hpl hd'
  · rw [sumN_one (f := c) (p := P) (d := 1) (by rw [if_pos rfl]) (fun i hi => if_neg hi), H.sum, if_pos hp]
  · show (bump w.vs s'.2.toNat).getD q 0 = _
    rw [bump_get (by omega), H.vis q hq]
    have key : vN g (fun p => (s0.1.getD p 0).toNat) (fun p => if p = P then c p + 1 else c p) q = vN g (fun p => (s0.1.getD p 0).toNat) c q + (if s'.2.toNat = q then 1 else 0) := by
      unfold vN
      rw [sumN_one (p := P) (d := if s'.2.toNat = q then 1 else 0) (f := fun p => sumN (fun k => if (g.getD p []).getD k 0 = (q : Int) then cyN (s0.1.getD p 0).toNat (degN g p) (c p) k else 0) (degN g p)) ?_ ?_ g.length, if_pos hp]
      · simp only [if_true]
        rw [sumN_one (p := ρ) (d := if s'.2.toNat = q then 1 else 0) (f := fun k => if (g.getD P []).getD k 0 = (q : Int) then cyN (s0.1.getD P 0).toNat (degN g P) (c P) k else 0) ?_ ?_ (degN g P), if_pos rlt]
        · rw [cyN, hρ, if_pos rfl, ← e2]
          by_cases e : s'.2 = (q : Int)
          · rw [if_pos e, if_pos e, if_pos (by omega)]
          · rw [if_neg e, if_neg e, if_neg (by omega)]
        · intro k hk
          rw [cyN, hρ, if_neg (Ne.symm hk)]
          rfl
      · intro i hi
        simp only [if_neg hi]
    rw [key]
    split <;> simp
theorem GL.run {g : List (List Int)} {s0 : St} (W : WOK g s0) : ∀ (n m : Nat) (w w' : Rn) (c : Nat → Nat), GL g s0 m w c → RnOK g m w → goP g n w = some w' → ∃ c', GL g s0 (m + n) w' c' ∧ RnOK g (m + n) w'
  | 0, m, w, w', c, H, R, h => by
    simp only [goP, Option.some.injEq] at h
    rw [← h]; exact ⟨c, H, R⟩
  | n + 1, m, w, w', c, H, R, h => by
    rw [goP] at h
    split at h
    · cases h
    · rename_i s' hs
      have := GL.run W n (m + 1) _ _ _ (H.step R hs) (R.step hs) h
      rw [show m + (n + 1) = m + 1 + n by omega]
      exact this
theorem GL.of {g : List (List Int)} {s0 : St} (W : WOK g s0) {n : Nat} {w : Rn} (h : goP g n (go0 g s0) = some w) : ∃ c, GL g s0 n w c ∧ RnOK g n w := by
  have := GL.run W n 0 _ _ _ (GL.start W) (go0_ok W) h
  rw [Nat.zero_add] at this
  exact this
theorem goP_ok {g : List (List Int)} : ∀ (n m : Nat) (r r' : Rn), RnOK g m r → goP g n r = some r' → RnOK g (m + n) r'
  | 0, m, r, r', R, h => by
    simp only [goP, Option.some.injEq] at h
    rw [← h]; exact R
  | n + 1, m, r, r', R, h => by
    rw [goP] at h
    split at h
    · cases h
    · rename_i s' hs
      have := goP_ok n (m + 1) _ _ (R.step hs) h
      rw [show m + (n + 1) = m + 1 + n by omega]
      exact this
theorem use_ok {g : List (List Int)} {s : St} (W : WOK g s) (m : Nat) (t : List (List Int)) (s' : St) (h : runT g useU m (zerosR g) s = some (t, s')) : ∃ r, RnOK g m r ∧ t = r.us ∧ s' = r.s := by
  have h2 := go_run g Rn.us useU (fun _ _ => rfl) m (go0 g s)
  rw [show (go0 g s).us = zerosR g from rfl, show (go0 g s).s = s from rfl, h] at h2
  cases hg : goP g m (go0 g s) with
  | none => rw [hg] at h2; cases h2
  | some r =>
    rw [hg] at h2
    simp only [Option.map_some, Option.some.injEq, Prod.mk.injEq] at h2
    exact ⟨r, by have := goP_ok m 0 _ _ (go0_ok W) hg; simpa using this, h2.1, h2.2⟩
theorem k_spec_UsesOf {S S' : Nat → Prop} {h : Heap} {g w : Sl} {xss : List (List Int)} {rs : List Int} (G : RdR S h g xss) (H : RdI S' h w rs) (p n : Int) (K : Value → Heap → Prop) (HK : ∀ t h', RdR (Iv h.size h'.size) h' t (useP xss rs p n).1 → Fr No h h' → K (.tuple #[t.v, VB (useP xss rs p n).2]) h') : callM Tryd.prog 23 #[.agg #[g.v], .agg #[w.v, VI p], VI n] h K := by
  refine v23 g w p n h K fun b1 b2 h2 hb1 hb2 f2 hL2 => ?_
  have f2 := f2.in_nil
  have no : useP xss rs p n = ([], false) → ∀ h', Fr No h h' → K (.tuple #[nilSl.v, VB false]) h' := fun e h' f => by
    have := HK nilSl h' (by rw [e]; exact ⟨[], rfl, RdV.nil _ _ _, fun i h1 => by simp at h1⟩) f
    rw [e] at this
    exact this
  refine k_waAsked (G.no f2) (H.no f2) p n _ fun h3 f3 => ⟨_, rfl, hL2.of_no f3, fun e => ?_, fun e => ?_⟩
  · exact no (by unfold useP; rw [if_neg (by rw [not_t e]; simp)]) _ (f2.no_trans f3)
  have e := not_f e
  have f03 := f2.no_trans f3
  have hL3 := hL2.of_no f3
  have e2 : useP xss rs p n = match runT xss useU n.toNat (zerosR xss) (rs, p) with
    | none => ([], false)
    | some (t, _) => (t, true) := by unfold useP; exact if_pos e
  rw [show runT xss useU n.toNat (zerosR xss) (rs, p) = _ from go_run xss Rn.us useU (fun _ _ => rfl) n.toNat (go0 xss (rs, p))] at e2
  rw [Bool.and_eq_true, inR_iff] at e
  have z03 := f03.size
  refine k_waGo (G.no f03) (H.no f03) p n (wok_of e.1) e.2.1 e.2.2 _ (fun hr h6 f6 => ⟨nilSl, 0, nilSl, nilSl, nilSl, false, rfl, hL3.of_no f6, fun b3 h7 hb3 f7 hL7 => ?_⟩) fun r hr ok e' ps vs us h6 r1 r2 r3 r4 f6 => ⟨e', r.s.2, ps, vs, us, true, rfl, hL3.of_no f6, fun b3 h7 hb3 f7 hL7 => ?_⟩
  · rw [hr] at e2
    exact no e2 _ ((f03.no_trans f6).no_trans f7.in_nil)
  · rw [hr] at e2
    have z7 := f7.in_nil.size
    have := HK us h7 (by rw [e2]; exact (r4.lowS.mono fun k hk => ⟨by have := hk.1; omega, by have := hk.2; omega⟩ : RdR _ h6 us _).no f7.in_nil) ((f03.no_trans f6).no_trans f7.in_nil)
    rw [e2] at this
    exact this
theorem k_zeros {S : Nat → Prop} {h : Heap} {g : Sl} {xss : List (List Int)} (G : RdR S h g xss) (hn : xss.length + totR xss ≤ 1000000000) (K : Value → Heap → Prop) (HK : ∀ t h', OwX h' (Iv h.size h'.size) t (zerosR xss) → Fr No h h' → K t.v h') : callM Tryd.prog 70 #[.agg #[g.v]] h K := by
  refine v70 g h K fun b1 h1 hb1 f1 hL1 => ?_
  have f1 := f1.in_nil
  have z1 := f1.size
  have l1 : b1 < h1.size := hL1.head.lt
  refine eop_lit rIss (fun k => h1.size ≤ k) (fun _ h => h) 0 (by omega) [] rfl rfl fun t0 h2 n2 c2 o2 f2 m2 _ => ⟨t0, rfl, hL1.of_no f2, ?_⟩
  have o2 : OwX h2 (fun k => h1.size ≤ k) t0 [] := ⟨[], rfl, o2, fun i a => by simp at a, fun i j a => by simp at a, fun i a => by simp at a⟩
  refine ⟨fun n x i h' => 0 ≤ i ∧ i + n = (xss.length : Int) ∧ OwX h' (fun k => h1.size ≤ k) x (zerosR (xss.take i.toNat)) ∧ Fr No h h' ∧ h1.size ≤ h'.size, ⟨xss.length, by omega, by omega, by simpa [zerosR] using o2, f1.no_trans f2, f2.size⟩, ?_⟩
  rintro n x i h3 ⟨i0, i1, o3, f3, z3⟩ hL3
  have G3 := G.no f3
  refine ⟨fun e => ?_, fun e => ?_⟩
  · have hi := G3.lt e
    obtain ⟨si, c1, r1⟩ := G3.get i0 hi
    have hsi := short_of_tot (xss[i.toNat]'(by omega)) (List.getElem_mem (by omega))
    refine ⟨G3.inb i0 hi, si, c1, ?_⟩
    refine eop_make rIs (fun k => h3.size ≤ k) (fun _ h => h) .i64 .i64 si.n si.n (Nat.le_refl _) (by have := r1.len; omega) fun t h4 n4 c4 o4 f4 m4 _ => ⟨t, rfl, hL3.of_no f4, ?_⟩
    have o4 : OwI h4 (fun k => h3.size ≤ k) t (List.replicate (xss[i.toNat]'(by omega)).length 0) := by
      have e : (List.replicate si.n [VI 0]).flatten = (List.replicate (xss[i.toNat]'(by omega)).length (0 : Int)).map VI := by rw [r1.len]; simp [List.flatten_replicate_singleton]
      rw [e] at o4; exact o4
    refine eop_lit rIss (fun k => h4.size ≤ k) (fun _ h => h) 1 (by omega) [t.v] rfl rfl fun u h5 n5 c5 o5 f5 m5 _ => ⟨u, rfl, (hL3.of_no f4).of_no f5, ?_⟩
    have z4 := f4.size
    have z5 := f5.size
    refine OwR.snoc rIss ((o3.toIv.no f4).no f5) (F' := fun k => h1.size ≤ k) (fun k _ hk => hk.1) (fun k hk => by omega) ((Ow.no o4 f5).mono fun k _ hk => Nat.le_trans z3 hk) (fun k hk hk2 => by have := (o4.foot hk).1; have := hk2.2; omega) o5.rd (by simp [zerosR]; omega) fun y h6 o6 f6 => ⟨y, rfl, ((hL3.of_no f4).of_no f5).iv f6 ⟨.inl l1, trivial⟩, ?_⟩
    have z6 := f6.size
    rw [G3.succ i0 hi]
    refine ⟨n - 1, by omega, by omega, by omega, ?_, ((f3.no_trans f4).no_trans f5).ivFresh f6 (by omega), by omega⟩
    rw [take_snoc xss i0 hi]
    have : zerosR (xss.take i.toNat ++ [xss[i.toNat]'(by omega)]) = zerosR (xss.take i.toNat) ++ [List.replicate (xss[i.toNat]'(by omega)).length 0] := by simp only [zerosR, List.map_append, List.map_cons, List.map_nil]
    rw [this]
    exact o6
  · have hi := G3.ge e
    rw [List.take_of_length_le (by omega)] at o3
    exact HK x h3 (o3.toIv.ivs z1 (Nat.le_refl _)) f3
theorem k_use1 {F F' : Nat → Prop} {b b' : Nat} {h : Heap} {o w : Sl} {us : List (List Int)} {rs : List Int} {q : Int} (V : IsVar h b [o.v]) (V' : IsVar h b' [w.v, VI q]) (hbb : b' ≠ b) (O : OwX h F o us) (R : OwI h F' w rs) (hb : ¬ F b) (hb' : ¬ F b') (x : Int) (h0 : 0 ≤ x) (h1 : x < (us.length : Int)) (h2 : x < (rs.length : Int))
    (r0 : 0 ≤ rs.getD x.toNat 0) (r1 : rs.getD x.toNat 0 < ((us.getD x.toNat []).length : Int)) (hv : ∀ y, y ∈ us.getD x.toNat [] → 0 ≤ y ∧ y ≤ 1000000) (K : Value → Heap → Prop)
    (HK : ∀ h' v, IsVar h' b [o.v] → OwX h' F o (us.set x.toNat (bump (us.getD x.toNat []) (rs.getD x.toNat 0).toNat)) → Fr F h h' → K v h') : callV Tryd.prog (.func (.func 72) #[] #[VP b 0, VP b' 0]) [VI x] h K := by
  have RR : RdI F' h w rs := R.rdF
  rw [getD_get (by omega)] at r1 hv HK
  rw [getD_getI (by omega)] at r0 r1 HK
  obtain ⟨si, c1, c2, c3⟩ := O.inner h0 h1
  have RS : RdI F h si _ := c2.rdF
  have hm := hv _ (List.getElem_mem (show (rs[x.toNat]'(by omega)).toNat < (us[x.toNat]'(by omega)).length by omega))
  refine v72 x b o b' w q h K (.cons V (by simpa using hbb) (.cons V' (by simp) .nil)) ⟨O.rd.inb h0 h1, si, c1, RR.inb h0 h2, _, RR.get h0 h2, RS.inb r0 r1, _, RS.get r0 r1, RS.inb r0 r1, ?_⟩
  rw [w64_eq _ (by omega) (by omega)]
  obtain ⟨w1, w2, w3⟩ := c2.store1 r0 (by have := RS.len; omega) (VI ((us[x.toNat]'(by omega))[(rs[x.toNat]'(by omega)).toNat]'(by omega) + 1))
  have w3' : Fr F h _ := w3.mono fun k _ hk => (c2.foot hk).1
  have hL : Vars _ [(b, [o.v]), (b', [w.v, VI q])] := .cons (V.fr w3' hb) (by simpa using hbb) (.cons (V'.fr w3' hb') (by simp) .nil)
  refine ⟨w1, hL, fun h2 e2 _ => ?_⟩
  subst e2
  rw [← List.map_set] at w2
  have w2 := c3 _ _ w3 w2
  have e : (us[x.toNat]'(by omega)).set (rs[x.toNat]'(by omega)).toNat ((us[x.toNat]'(by omega))[(rs[x.toNat]'(by omega)).toNat]'(by omega) + 1) = bump (us[x.toNat]'(by omega)) (rs[x.toNat]'(by omega)).toNat := by unfold bump; rw [getD_getI (by omega)]
  rw [e] at w2
  exact HK _ _ hL.head w2 w3'
theorem k_UsesOf {S S' : Nat → Prop} {h : Heap} {g w : Sl} {xss : List (List Int)} {rs : List Int} (G : RdR S h g xss) (H : RdI S' h w rs) (p n : Int) (K : Value → Heap → Prop) (HK : ∀ t h', OwX h' (Iv h.size h'.size) t (useP xss rs p n).1 → Fr No h h' → K (.tuple #[t.v, VB (useP xss rs p n).2]) h') : callM Tryd.prog 22 #[.agg #[g.v], .agg #[w.v, VI p], VI n] h K := by
  refine v22 g w p n h K fun b1 b2 h2 hb1 hb2 f2 hL2 => ?_
  have f2 := f2.in_nil
  have no : useP xss rs p n = ([], false) → ∀ h', Fr No h h' → K (.tuple #[nilSl.v, VB false]) h' := fun e h' f => by
    have := HK nilSl h' (by rw [e]; exact OwR.nil _ _ _ _) f
    rw [e] at this
    exact this
  refine k_isRun (G.no f2) (H.no f2) p n 2000 _ fun h3 f3 => ⟨_, rfl, hL2.of_no f3, fun e => ?_, fun e => ?_⟩
  · exact no (by unfold useP; rw [if_neg (by rw [not_t e]; simp)]) _ (f2.no_trans f3)
  have e := not_f e
  have e2 : useP xss rs p n = match runT xss useU n.toNat (zerosR xss) (rs, p) with
    | none => ([], false)
    | some (t, _) => (t, true) := by unfold useP; exact if_pos e
  rw [Bool.and_eq_true, inR_iff] at e
  have W := wok_of e.1
  have hgl := graph_len W.graph
  have hgt := graph_tot W.graph
  have f03 := f2.no_trans f3
  have z03 := f03.size
  have hL := hL2.of_no f3
  have l2 : b2 < h3.size := hL.head.lt
  have l1 : b1 < h3.size := hL.tail.head.lt
  have fj : Fr No h3 h3 := Fr.refl _ _
  have cp : ∀ {h1 : Heap} {K : Value → Heap → Prop}, Fr No h3 h1 → (∀ t h2, OwI h2 (Iv h1.size h2.size) t rs → Fr No h1 h2 → K (.agg #[t.v, VI p]) h2) → callM Tryd.prog 69 #[.agg #[w.v, VI p]] h1 K := fun f HK => k_copiedW ((H.no f03).no f) p (by have := W.len; simp only at this; omega) _ HK
  have zr : ∀ {h1 : Heap} {K : Value → Heap → Prop}, Fr No h3 h1 → (∀ t h2, OwX h2 (Iv h1.size h2.size) t (zerosR xss) → Fr No h1 h2 → K t.v h2) → callM Tryd.prog 70 #[.agg #[g.v]] h1 K := fun f HK => k_zeros ((G.no f03).no f) (by omega) _ HK
  refine ⟨fun bN xw xp bO xo h' => xp = p ∧ ∃ i1 j1 i2 j2, OwI h' (Iv i1 j1) xw rs ∧ OwX h' (Iv i2 j2) xo (zerosR xss) ∧ (j1 ≤ i2 ∨ j2 ≤ i1) ∧ (bN < i1 ∨ j1 ≤ bN) ∧ (bN < i2 ∨ j2 ≤ bN) ∧ (bO < i1 ∨ j1 ≤ bO) ∧ (bO < i2 ∨ j2 ≤ bO) ∧ h3.size ≤ i1 ∧ h3.size ≤ i2 ∧ h3.size ≤ bN ∧ h3.size ≤ bO ∧ j1 ≤ h'.size ∧ j2 ≤ h'.size ∧ bN ≠ bO ∧ Fr No h3 h', ?_, ?_⟩
  · refine ⟨?_, ?_, ?_⟩
    · refine cp fj fun u_1 h_4 o_1 f_1 => ⟨u_1, _, rfl, hL.of_no f_1, ?_⟩
      replace hL := hL.of_no f_1
      have z_f_1 := f_1.size
      replace fj := fj.no_trans f_1
      refine ⟨?_, ?_, ?_⟩
      · refine zr fj fun u_2 h_5 o_2 f_2 => ⟨u_2, rfl, hL.of_no f_2, ?_⟩
        replace hL := hL.of_no f_2
        have z_f_2 := f_2.size
        replace o_1 := o_1.no f_2
        replace fj := fj.no_trans f_2
        refine ⟨?_, ?_⟩
        · intro b_5 b_6 h_9 hb_b_5 hb_b_6 f_3 hL
          have lt_b_5 : b_5 < h_9.size := (hL.tail).head.lt
          have lt_b_6 : b_6 < h_9.size := (hL).head.lt
          have ne_b_5 : b_5 ≠ b_6 := hL.ne (b_5, _) List.mem_cons_self
          replace f_3 := f_3.in_nil
          have z_f_3 := f_3.size
          replace o_1 := o_1.no f_3
          replace o_2 := o_2.no f_3
          replace fj := fj.no_trans f_3
          exact ⟨rfl, h3.size, h_4.size, h_4.size, h_5.size, o_1, o_2, by omega, by omega, by omega, by omega, by omega, by omega, by omega, by omega, by omega, by omega, by omega, by omega, fj⟩
        · intro b_7 b_8 h_13 hb_b_7 hb_b_8 f_4 hL
          have lt_b_7 : b_7 < h_13.size := (hL.tail).head.lt
          have lt_b_8 : b_8 < h_13.size := (hL).head.lt
          have ne_b_7 : b_7 ≠ b_8 := hL.ne (b_7, _) List.mem_cons_self
          replace f_4 := f_4.in_nil
          have z_f_4 := f_4.size
          replace o_1 := o_1.no f_4
          replace o_2 := o_2.no f_4
          replace fj := fj.no_trans f_4
          exact ⟨rfl, h3.size, h_4.size, h_4.size, h_5.size, o_1, o_2, by omega, by omega, by omega, by omega, by omega, by omega, by omega, by omega, by omega, by omega, by omega, by omega, fj⟩
      · intro b_9 h_14 hb_b_9 f_5 hL
        have lt_b_9 : b_9 < h_14.size := (hL).head.lt
        replace f_5 := f_5.in_nil
        have z_f_5 := f_5.size
        replace o_1 := o_1.no f_5
        replace fj := fj.no_trans f_5
        refine ⟨?_, ?_⟩
        · refine zr fj fun u_6 h_15 o_6 f_6 => ⟨u_6, rfl, hL.of_no f_6, ?_⟩
          replace hL := hL.of_no f_6
          have z_f_6 := f_6.size
          replace o_1 := o_1.no f_6
          replace fj := fj.no_trans f_6
          intro b_10 h_18 hb_b_10 f_7 hL
          have lt_b_10 : b_10 < h_18.size := (hL).head.lt
          replace f_7 := f_7.inIv (lo := h_4.size) (hi := h_14.size) ⟨⟨by omega, by omega⟩, trivial⟩
          have z_f_7 := f_7.size
          replace o_1 := o_1.iv f_7 (by omega)
          replace o_6 := o_6.iv f_7 (by omega)
          replace fj := fj.ivFresh f_7 (by omega)
          exact ⟨rfl, h3.size, h_4.size, h_14.size, h_15.size, o_1, o_6, by omega, by omega, by omega, by omega, by omega, by omega, by omega, by omega, by omega, by omega, by omega, by omega, fj⟩
        · intro b_11 h_19 hb_b_11 f_8 hL
          have lt_b_11 : b_11 < h_19.size := (hL).head.lt
          replace f_8 := f_8.in_nil
          have z_f_8 := f_8.size
          replace o_1 := o_1.no f_8
          replace fj := fj.no_trans f_8
          refine zr fj fun u_9 h_20 o_9 f_9 => ⟨u_9, rfl, hL.of_no f_9, ?_⟩
          replace hL := hL.of_no f_9
          have z_f_9 := f_9.size
          replace o_1 := o_1.no f_9
          replace fj := fj.no_trans f_9
          intro  h_22  f_10 hL
          have z_f_10 := f_10.size
          replace o_1 := o_1.fr f_10 fun k hk hk2 => by have h1 := (o_1.foot hk).1; have h2 := h1.1; have h3 := h1.2; simp only [In, List.mem_cons, List.not_mem_nil, or_false] at hk2; omega
          replace o_9 := o_9.fr f_10 fun k hk h1 hk2 => by have h2 := h1.1; have h3 := h1.2; simp only [In, List.mem_cons, List.not_mem_nil, or_false] at hk2; omega
          replace fj := fj.fresh f_10 fun k hk => by simp only [In, List.mem_cons, List.not_mem_nil, or_false] at hk; omega
          exact ⟨rfl, h3.size, h_4.size, h_19.size, h_20.size, o_1, o_9, by omega, by omega, by omega, by omega, by omega, by omega, by omega, by omega, by omega, by omega, by omega, by omega, fj⟩
      · intro b_12 h_23 hb_b_12 f_11 hL
        have lt_b_12 : b_12 < h_23.size := (hL).head.lt
        replace f_11 := f_11.in_nil
        have z_f_11 := f_11.size
        replace o_1 := o_1.no f_11
        replace fj := fj.no_trans f_11
        refine ⟨?_, ?_⟩
        · refine zr fj fun u_12 h_24 o_12 f_12 => ⟨u_12, rfl, hL.of_no f_12, ?_⟩
          replace hL := hL.of_no f_12
          have z_f_12 := f_12.size
          replace o_1 := o_1.no f_12
          replace fj := fj.no_trans f_12
          intro b_13 h_27 hb_b_13 f_13 hL
          have lt_b_13 : b_13 < h_27.size := (hL).head.lt
          replace f_13 := f_13.inIv (lo := h_4.size) (hi := h_23.size) ⟨⟨by omega, by omega⟩, trivial⟩
          have z_f_13 := f_13.size
          replace o_1 := o_1.iv f_13 (by omega)
          replace o_12 := o_12.iv f_13 (by omega)
          replace fj := fj.ivFresh f_13 (by omega)
          exact ⟨rfl, h3.size, h_4.size, h_23.size, h_24.size, o_1, o_12, by omega, by omega, by omega, by omega, by omega, by omega, by omega, by omega, by omega, by omega, by omega, by omega, fj⟩
        · intro b_14 h_28 hb_b_14 f_14 hL
          have lt_b_14 : b_14 < h_28.size := (hL).head.lt
          replace f_14 := f_14.in_nil
          have z_f_14 := f_14.size
          replace o_1 := o_1.no f_14
          replace fj := fj.no_trans f_14
          refine zr fj fun u_15 h_29 o_15 f_15 => ⟨u_15, rfl, hL.of_no f_15, ?_⟩
          replace hL := hL.of_no f_15
          have z_f_15 := f_15.size
          replace o_1 := o_1.no f_15
          replace fj := fj.no_trans f_15
          intro  h_31  f_16 hL
          have z_f_16 := f_16.size
          replace o_1 := o_1.fr f_16 fun k hk hk2 => by have h1 := (o_1.foot hk).1; have h2 := h1.1; have h3 := h1.2; simp only [In, List.mem_cons, List.not_mem_nil, or_false] at hk2; omega
          replace o_15 := o_15.fr f_16 fun k hk h1 hk2 => by have h2 := h1.1; have h3 := h1.2; simp only [In, List.mem_cons, List.not_mem_nil, or_false] at hk2; omega
          replace fj := fj.fresh f_16 fun k hk => by simp only [In, List.mem_cons, List.not_mem_nil, or_false] at hk; omega
          exact ⟨rfl, h3.size, h_4.size, h_28.size, h_29.size, o_1, o_15, by omega, by omega, by omega, by omega, by omega, by omega, by omega, by omega, by omega, by omega, by omega, by omega, fj⟩
    · intro b_15 h_32 hb_b_15 f_17 hL
      have lt_b_15 : b_15 < h_32.size := (hL).head.lt
      replace f_17 := f_17.in_nil
      have z_f_17 := f_17.size
      replace fj := fj.no_trans f_17
      refine ⟨?_, ?_⟩
      · refine cp fj fun u_18 h_33 o_18 f_18 => ⟨u_18, _, rfl, hL.of_no f_18, ?_⟩
        replace hL := hL.of_no f_18
        have z_f_18 := f_18.size
        replace fj := fj.no_trans f_18
        refine ⟨?_, ?_⟩
        · refine zr fj fun u_19 h_34 o_19 f_19 => ⟨u_19, rfl, hL.of_no f_19, ?_⟩
          replace hL := hL.of_no f_19
          have z_f_19 := f_19.size
          replace o_18 := o_18.no f_19
          replace fj := fj.no_trans f_19
          intro b_16 h_37 hb_b_16 f_20 hL
          have lt_b_16 : b_16 < h_37.size := (hL).head.lt
          replace f_20 := f_20.inIv (lo := h3.size) (hi := h_32.size) ⟨⟨by omega, by omega⟩, trivial⟩
          have z_f_20 := f_20.size
          replace o_18 := o_18.iv f_20 (by omega)
          replace o_19 := o_19.iv f_20 (by omega)
          replace fj := fj.ivFresh f_20 (by omega)
          exact ⟨rfl, h_32.size, h_33.size, h_33.size, h_34.size, o_18, o_19, by omega, by omega, by omega, by omega, by omega, by omega, by omega, by omega, by omega, by omega, by omega, by omega, fj⟩
        · intro b_17 h_38 hb_b_17 f_21 hL
          have lt_b_17 : b_17 < h_38.size := (hL).head.lt
          replace f_21 := f_21.in_nil
          have z_f_21 := f_21.size
          replace o_18 := o_18.no f_21
          replace fj := fj.no_trans f_21
          refine zr fj fun u_22 h_39 o_22 f_22 => ⟨u_22, rfl, hL.of_no f_22, ?_⟩
          replace hL := hL.of_no f_22
          have z_f_22 := f_22.size
          replace o_18 := o_18.no f_22
          replace fj := fj.no_trans f_22
          intro  h_41  f_23 hL
          have z_f_23 := f_23.size
          replace o_18 := o_18.fr f_23 fun k hk hk2 => by have h1 := (o_18.foot hk).1; have h2 := h1.1; have h3 := h1.2; simp only [In, List.mem_cons, List.not_mem_nil, or_false] at hk2; omega
          replace o_22 := o_22.fr f_23 fun k hk h1 hk2 => by have h2 := h1.1; have h3 := h1.2; simp only [In, List.mem_cons, List.not_mem_nil, or_false] at hk2; omega
          replace fj := fj.fresh f_23 fun k hk => by simp only [In, List.mem_cons, List.not_mem_nil, or_false] at hk; omega
          exact ⟨rfl, h_32.size, h_33.size, h_38.size, h_39.size, o_18, o_22, by omega, by omega, by omega, by omega, by omega, by omega, by omega, by omega, by omega, by omega, by omega, by omega, fj⟩
      · intro b_18 h_42 hb_b_18 f_24 hL
        have lt_b_18 : b_18 < h_42.size := (hL).head.lt
        replace f_24 := f_24.in_nil
        have z_f_24 := f_24.size
        replace fj := fj.no_trans f_24
        refine cp fj fun u_25 h_43 o_25 f_25 => ⟨u_25, _, rfl, hL.of_no f_25, ?_⟩
        replace hL := hL.of_no f_25
        have z_f_25 := f_25.size
        replace fj := fj.no_trans f_25
        refine zr fj fun u_26 h_44 o_26 f_26 => ⟨u_26, rfl, hL.of_no f_26, ?_⟩
        replace hL := hL.of_no f_26
        have z_f_26 := f_26.size
        replace o_25 := o_25.no f_26
        replace fj := fj.no_trans f_26
        intro  h_46  f_27 hL
        have z_f_27 := f_27.size
        replace o_25 := o_25.fr f_27 fun k hk hk2 => by have h1 := (o_25.foot hk).1; have h2 := h1.1; have h3 := h1.2; simp only [In, List.mem_cons, List.not_mem_nil, or_false] at hk2; omega
        replace o_26 := o_26.fr f_27 fun k hk h1 hk2 => by have h2 := h1.1; have h3 := h1.2; simp only [In, List.mem_cons, List.not_mem_nil, or_false] at hk2; omega
        replace fj := fj.fresh f_27 fun k hk => by simp only [In, List.mem_cons, List.not_mem_nil, or_false] at hk; omega
        exact ⟨rfl, h_42.size, h_43.size, h_43.size, h_44.size, o_25, o_26, by omega, by omega, by omega, by omega, by omega, by omega, by omega, by omega, by omega, by omega, by omega, by omega, fj⟩
    · intro b_19 h_47 hb_b_19 f_28 hL
      have lt_b_19 : b_19 < h_47.size := (hL).head.lt
      replace f_28 := f_28.in_nil
      have z_f_28 := f_28.size
      replace fj := fj.no_trans f_28
      refine ⟨?_, ?_⟩
      · refine cp fj fun u_29 h_48 o_29 f_29 => ⟨u_29, _, rfl, hL.of_no f_29, ?_⟩
        replace hL := hL.of_no f_29
        have z_f_29 := f_29.size
        replace fj := fj.no_trans f_29
        refine ⟨?_, ?_⟩
        · refine zr fj fun u_30 h_49 o_30 f_30 => ⟨u_30, rfl, hL.of_no f_30, ?_⟩
          replace hL := hL.of_no f_30
          have z_f_30 := f_30.size
          replace o_29 := o_29.no f_30
          replace fj := fj.no_trans f_30
          intro b_20 h_52 hb_b_20 f_31 hL
          have lt_b_20 : b_20 < h_52.size := (hL).head.lt
          replace f_31 := f_31.inIv (lo := h3.size) (hi := h_47.size) ⟨⟨by omega, by omega⟩, trivial⟩
          have z_f_31 := f_31.size
          replace o_29 := o_29.iv f_31 (by omega)
          replace o_30 := o_30.iv f_31 (by omega)
          replace fj := fj.ivFresh f_31 (by omega)
          exact ⟨rfl, h_47.size, h_48.size, h_48.size, h_49.size, o_29, o_30, by omega, by omega, by omega, by omega, by omega, by omega, by omega, by omega, by omega, by omega, by omega, by omega, fj⟩
        · intro b_21 h_53 hb_b_21 f_32 hL
          have lt_b_21 : b_21 < h_53.size := (hL).head.lt
          replace f_32 := f_32.in_nil
          have z_f_32 := f_32.size
          replace o_29 := o_29.no f_32
          replace fj := fj.no_trans f_32
          refine zr fj fun u_33 h_54 o_33 f_33 => ⟨u_33, rfl, hL.of_no f_33, ?_⟩
          replace hL := hL.of_no f_33
          have z_f_33 := f_33.size
          replace o_29 := o_29.no f_33
          replace fj := fj.no_trans f_33
          intro  h_56  f_34 hL
          have z_f_34 := f_34.size
          replace o_29 := o_29.fr f_34 fun k hk hk2 => by have h1 := (o_29.foot hk).1; have h2 := h1.1; have h3 := h1.2; simp only [In, List.mem_cons, List.not_mem_nil, or_false] at hk2; omega
          replace o_33 := o_33.fr f_34 fun k hk h1 hk2 => by have h2 := h1.1; have h3 := h1.2; simp only [In, List.mem_cons, List.not_mem_nil, or_false] at hk2; omega
          replace fj := fj.fresh f_34 fun k hk => by simp only [In, List.mem_cons, List.not_mem_nil, or_false] at hk; omega
          exact ⟨rfl, h_47.size, h_48.size, h_53.size, h_54.size, o_29, o_33, by omega, by omega, by omega, by omega, by omega, by omega, by omega, by omega, by omega, by omega, by omega, by omega, fj⟩
      · intro b_22 h_57 hb_b_22 f_35 hL
        have lt_b_22 : b_22 < h_57.size := (hL).head.lt
        replace f_35 := f_35.in_nil
        have z_f_35 := f_35.size
        replace fj := fj.no_trans f_35
        refine cp fj fun u_36 h_58 o_36 f_36 => ⟨u_36, _, rfl, hL.of_no f_36, ?_⟩
        replace hL := hL.of_no f_36
        have z_f_36 := f_36.size
        replace fj := fj.no_trans f_36
        refine zr fj fun u_37 h_59 o_37 f_37 => ⟨u_37, rfl, hL.of_no f_37, ?_⟩
        replace hL := hL.of_no f_37
        have z_f_37 := f_37.size
        replace o_36 := o_36.no f_37
        replace fj := fj.no_trans f_37
        intro  h_61  f_38 hL
        have z_f_38 := f_38.size
        replace o_36 := o_36.fr f_38 fun k hk hk2 => by have h1 := (o_36.foot hk).1; have h2 := h1.1; have h3 := h1.2; simp only [In, List.mem_cons, List.not_mem_nil, or_false] at hk2; omega
        replace o_37 := o_37.fr f_38 fun k hk h1 hk2 => by have h2 := h1.1; have h3 := h1.2; simp only [In, List.mem_cons, List.not_mem_nil, or_false] at hk2; omega
        replace fj := fj.fresh f_38 fun k hk => by simp only [In, List.mem_cons, List.not_mem_nil, or_false] at hk; omega
        exact ⟨rfl, h_57.size, h_58.size, h_58.size, h_59.size, o_36, o_37, by omega, by omega, by omega, by omega, by omega, by omega, by omega, by omega, by omega, by omega, by omega, by omega, fj⟩
  rintro bN x1 x2 bO x3 h134 ⟨rfl, i1, j1, i2, j2, o1, o2, d12, dN1, dN2, dO1, dO2, e1, e2', e3, e4, e5, e6, hne, f134⟩ hL134
  have f0 := f03.no_trans f134
  have z134 := f134.size
  have lO : bO < h134.size := hL134.head.lt
  have lN : bN < h134.size := hL134.tail.head.lt
  have G134 : RdR (fun k => k < h3.size) h134 g xss := (G.no f03).low.no f134
  have xN : ¬ x1.own bN := fun hk => by have h1 := (o1.foot hk).1.1; have h2 := (o1.foot hk).1.2; omega
  have x1O : ¬ x1.own bO := fun hk => by have h1 := (o1.foot hk).1.1; have h2 := (o1.foot hk).1.2; omega
  have x13 : ∀ k, x1.own k → ¬ Iv i2 j2 k := fun k h1 h3 => by have a1 := (o1.foot h1).1.1; have a2 := (o1.foot h1).1.2; have a3 := h3.1; have a4 := h3.2; omega
  have x1g : ∀ k, x1.own k → h3.size ≤ k ∧ k < h134.size := fun k hk => ⟨by have := (o1.foot hk).1.1; omega, (o1.foot hk).2⟩
  have x3g : ∀ k, Iv i2 j2 k → h3.size ≤ k ∧ k < h134.size := fun k hk => ⟨by have := hk.1; omega, by have := hk.2; omega⟩
  have offV : ∀ k, (k = bN ∨ x1.own k) ∨ (k = bO ∨ Iv i2 j2 k) → h3.size ≤ k := fun k hk => by
    rcases hk with (rfl | hk) | (rfl | hk)
    · omega
    · exact (x1g k hk).1
    · omega
    · exact (x3g k hk).1
  have ob : ¬ Iv i2 j2 bO := fun hk => by have a3 := hk.1; have a4 := hk.2; omega
  have ob' : ¬ Iv i2 j2 bN := fun hk => by have a3 := hk.1; have a4 := hk.2; omega
  refine k_run (s0 := (rs, x2)) (F := fun k => k = bN ∨ x1.own k) (S := fun k => k < h3.size) useU
    (fun N t h' => IsVar h' bO [x3.v] ∧ OwX h' (Iv i2 j2) x3 t) (fun k => k = bO ∨ Iv i2 j2 k)
    G134 hL134.tail.head (o1.mono fun k hk _ => .inr hk) (fun k hk => ⟨fun h => by have := offV k (.inl h); omega, fun h => by have := offV k (.inr h); omega⟩) (.inl rfl) xN W n (by omega) (by omega) _ (zerosR xss)
    (fun k hk => by rcases hk with rfl | hk; exact lN; exact (x1g k hk).2)
    (fun k hk => ⟨fun h => by
      rcases hk with rfl | hk <;> rcases h with rfl | h
      · exact hne rfl
      · exact x1O h
      · exact ob' hk
      · exact x13 k h hk, by rcases hk with rfl | hk; exact lO; exact (x3g k hk).2⟩)
    (fun N hN => ⟨hL134.head, o2⟩)
    (fun N t h1 h2 U ⟨v1, v2⟩ f hU => ⟨v1.fr f fun h => (hU _ h).1 (.inl rfl), v2.fr f fun k hk hk1 hk2 => (hU k hk2).1 (.inr hk1)⟩)
    (fun N t s s' h1 K hN hN2 ⟨v1, v2⟩ V O W hs hm HK => ?_) _ (fun hr N t h9 q hN ⟨v1, v2⟩ v9 f9 => ?_) fun t' s' hr N h9 hN ⟨v1, v2⟩ o9 W9 v9 f9 => ?_
  · obtain ⟨m, hm, hr⟩ := hm
    obtain ⟨r, R, rfl, rfl⟩ := use_ok (s := (rs, x2)) ‹_› _ _ _ hr
    have W' := W.step hs
    have hlo := W.lo
    have hhi := W.hi
    have hus := R.us
    have hul : r.s.2.toNat < r.us.length := by omega
    have hTl : r.s.2.toNat < s'.1.length := by rw [W'.len]; omega
    have hrot := W'.rot _ hTl (by omega)
    have hne2 : (xss[r.s.2.toNat]'(by omega)).length ≠ 0 := fun h0 => by rw [stepP_none W (by omega) h0] at hs; cases hs
    have hrow := R.row _ hul (by omega)
    refine k_use1 v1 V hne v2 O ob ob' r.s.2 hlo (by omega) (by omega) (by rw [getD_getI hTl]; exact hrot.1) (by rw [getD_getI hTl, getD_get hul]; omega) (fun y hy => by rw [getD_get hul] at hy; have := R.ub _ (List.getElem_mem hul) y hy; omega) K fun h2 v w1 w2 w4 => HK h2 v ⟨w1, w2⟩ (w4.mono fun k _ hk => .inl (.inr hk))
  · have hL9 : Vars h9 [(bO, [x3.v]), (bN, [x1.v, VI q]), (b2, [w.v, VI x2]), (b1, [g.v])] := .cons v1 (fun p hp => by
      simp only [List.mem_cons, List.not_mem_nil, or_false] at hp
      rcases hp with rfl | rfl | rfl <;> simp only <;> omega) (.cons v9 (fun p hp => by
      simp only [List.mem_cons, List.not_mem_nil, or_false] at hp
      rcases hp with rfl | rfl <;> simp only <;> omega) (hL134.tail.tail.fr f9 fun p hp hk => by
      have := offV _ hk
      simp only [List.mem_cons, List.not_mem_nil, or_false] at hp
      rcases hp with rfl | rfl <;> simp only at this <;> omega))
    refine ⟨x3, x1, q, false, rfl, hL9, fun _ => ?_, fun e => by simp at e⟩
    rw [hr] at e2
    exact no e2 h9 (f0.fresh f9 fun k hk => by have := offV k hk; omega)
  · have hL9 : Vars h9 [(bO, [x3.v]), (bN, [x1.v, VI s'.2]), (b2, [w.v, VI x2]), (b1, [g.v])] := .cons v1 (fun p hp => by
      simp only [List.mem_cons, List.not_mem_nil, or_false] at hp
      rcases hp with rfl | rfl | rfl <;> simp only <;> omega) (.cons v9 (fun p hp => by
      simp only [List.mem_cons, List.not_mem_nil, or_false] at hp
      rcases hp with rfl | rfl <;> simp only <;> omega) (hL134.tail.tail.fr f9 fun p hp hk => by
      have := offV _ hk
      simp only [List.mem_cons, List.not_mem_nil, or_false] at hp
      rcases hp with rfl | rfl <;> simp only at this <;> omega))
    refine ⟨x3, x1, s'.2, true, rfl, hL9, fun e => by simp at e, fun _ => ?_⟩
    rw [hr] at e2
    have z9 := f9.size
    have := HK x3 h9 (by rw [e2]; exact v2.ivs (by omega) (by omega)) (f0.fresh f9 fun k hk => by have := offV k hk; omega)
    rw [e2] at this
    exact this
theorem walk_to2 {g : List (List Int)} {rs : List Int} {p : Int} (W : WOK g (rs, p)) : walkB g rs p = true := by
  unfold walkB
  have h1 := W.lo
  have h2 := W.hi
  have h3 := W.len
  simp only at h1 h2 h3
  rw [W.graph, inR_iff.2 ⟨h1, by omega⟩, decide_eq_true h3, Bool.true_and, Bool.true_and, Bool.true_and, List.all_eq_true]
  intro x hx
  obtain ⟨i, hi, rfl⟩ := List.mem_iff_getElem.1 hx
  rw [List.length_zip] at hi
  have := W.rot i (by simp only; omega) (by omega)
  rw [List.getElem_zip]
  unfold rotB
  rw [inR_iff]
  exact this
theorem sumN_mono {f : Nat → Nat} {m : Nat} : ∀ {n : Nat}, m ≤ n → sumN f m ≤ sumN f n
  | 0, h => by rw [Nat.le_zero.1 h]; exact Nat.le_refl _
  | n + 1, h => by
    by_cases e : m = n + 1
    · rw [e]; exact Nat.le_refl _
    · have := sumN_mono (f := f) (m := m) (n := n) (by omega)
      rw [sumN]; omega
theorem bump_sum : ∀ (l : List Int) (i : Nat), i < l.length → (bump l i).sum = l.sum + 1
  | [], i, h => by simp at h
  | x :: l, 0, _ => by
    unfold bump
    simp [List.getD]
    omega
  | x :: l, i + 1, h => by
    have := bump_sum l i (by simpa using h)
    unfold bump at this ⊢
    have e : (x :: l).getD (i + 1) 0 = l.getD i 0 := by simp [List.getD]
    rw [e, List.set_cons_succ, List.sum_cons, this, List.sum_cons]
    omega
theorem vs_sum {g : List (List Int)} : ∀ (n m : Nat) (w w' : Rn), RnOK g m w → w.vs.sum = (m : Int) → goP g n w = some w' → w'.vs.sum = ((m + n : Nat) : Int)
  | 0, m, w, w', R, hs, h => by
    simp only [goP, Option.some.injEq] at h
    rw [← h]; exact hs
  | n + 1, m, w, w', R, hs, h => by
    rw [goP] at h
    split at h
    · cases h
    · rename_i s' he
      have R' := R.step he
      have h1 := R'.w.lo
      have h2 := R'.w.hi
      simp only at h1 h2
      have := vs_sum n (m + 1) _ w' R' (by
        simp only
        rw [bump_sum _ _ (by rw [R.vs]; omega), hs]
        simp) h
      rw [show m + (n + 1) = m + 1 + n by omega]
      exact this
theorem vs_sum0 {g : List (List Int)} {s0 : St} (W : WOK g s0) {n : Nat} {w : Rn} (h : goP g n (go0 g s0) = some w) : w.vs.sum = (n : Int) := by
  have := vs_sum n 0 _ _ (go0_ok W) (by
    show (List.replicate g.length (0 : Int)).sum = 0
    have : ∀ k, (List.replicate k (0 : Int)).sum = 0 := by
      intro k
      induction k with
      | zero => rfl
      | succ k ih => rw [List.replicate_succ, List.sum_cons, ih]; rfl
    exact this _) h
  rwa [Nat.zero_add] at this
theorem sum_sumN {l : List Int} {f : Nat → Nat} : ∀ n, n ≤ l.length → (∀ k, k < n → l.getD k 0 = (f k : Int)) → (l.take n).sum = (sumN f n : Int)
  | 0, _, _ => by simp [sumN]
  | n + 1, hn, h => by
    rw [List.take_add_one, List.getElem?_eq_getElem (show n < l.length by omega), Option.toList_some, List.sum_append, sum_sumN n (by omega) (fun k hk => h k (by omega)), sumN]
    have := h n (by omega)
    rw [getD_getI (by omega)] at this
    rw [this]
    simp
theorem sum_le2 : ∀ (xs : List Int), (∀ x, x ∈ xs → 0 ≤ x ∧ x ≤ 100000) → 0 ≤ xs.sum ∧ xs.sum ≤ 100000 * (xs.length : Int)
  | [], _ => by simp
  | x :: xs, h => by
    have := sum_le2 xs fun y hy => h y (List.mem_cons_of_mem _ hy)
    have h2 := h x (List.mem_cons_self ..)
    simp only [List.sum_cons, List.length_cons]
    omega
theorem run_all {g : List (List Int)} {rs : List Int} {p n : Int} (hw : walkB g rs p = true) (hn : inR 0 2000 n = true) : useP g rs p n = (match goP g n.toNat (go0 g (rs, p)) with | none => ([], false) | some r => (r.us, true)) ∧ visP g rs p n = (match goP g n.toNat (go0 g (rs, p)) with | none => ([], false) | some r => (r.vs, true)) ∧ runOfP g rs p n = (match goP g n.toNat (go0 g (rs, p)) with | none => (([], 0), false) | some r => (r.s, true)) ∧ (inR 0 200 n = true → passP g rs p n = (match goP g n.toNat (go0 g (rs, p)) with | none => ([], false) | some r => (r.ps, true))) := by
  have a1 := go_run g Rn.us useU (fun _ _ => rfl) n.toNat (go0 g (rs, p))
  have a2 := go_run g Rn.vs visU (fun _ _ => rfl) n.toNat (go0 g (rs, p))
  have a3 := go_run g (fun _ => ()) (fun (_ : Unit) _ _ => ()) (fun _ _ => rfl) n.toNat (go0 g (rs, p))
  have a4 := go_run g Rn.ps passU (fun _ _ => rfl) n.toNat (go0 g (rs, p))
  rw [show (go0 g (rs, p)).us = zerosR g from rfl, show (go0 g (rs, p)).s = (rs, p) from rfl] at a1
  rw [show (go0 g (rs, p)).vs = List.replicate g.length 0 from rfl, show (go0 g (rs, p)).s = (rs, p) from rfl] at a2
  rw [show (go0 g (rs, p)).s = (rs, p) from rfl] at a3
  rw [show (go0 g (rs, p)).ps = [p] from rfl, show (go0 g (rs, p)).s = (rs, p) from rfl] at a4
  refine ⟨?_, ?_, ?_, fun h2 => ?_⟩
  · unfold useP; rw [hw, hn, a1]; cases goP g n.toNat (go0 g (rs, p)) <;> rfl
  · unfold visP; rw [hw, hn, a2]; cases goP g n.toNat (go0 g (rs, p)) <;> rfl
  · unfold runOfP; rw [hw, hn, a3]; cases goP g n.toNat (go0 g (rs, p)) <;> rfl
  · unfold passP; rw [hw, h2, a4]; cases goP g n.toNat (go0 g (rs, p)) <;> rfl
theorem run_no {g : List (List Int)} {rs : List Int} {p n : Int} (h : (walkB g rs p && inR 0 2000 n) = false) : useP g rs p n = ([], false) ∧ visP g rs p n = ([], false) ∧ runOfP g rs p n = (([], 0), false) ∧ passP g rs p n = ([], false) := by
  refine ⟨by unfold useP; rw [h]; rfl, by unfold visP; rw [h]; rfl, by unfold runOfP; rw [h]; rfl, ?_⟩
  unfold passP
  rw [if_neg]
  intro hc
  rw [Bool.and_eq_true, inR_iff] at hc
  rw [hc.1, Bool.true_and] at h
  rw [inR_iff.2 (by omega)] at h
  cases h
theorem k_wSum2 {S : Nat → Prop} {h : Heap} {a : Sl} {xs : List Int} (H : RdI S h a xs) (hb : ∀ x, x ∈ xs → 0 ≤ x ∧ x ≤ 100000) (hn : xs.length ≤ 1000) (K : Value → Heap → Prop) (HK : K (VI xs.sum) h) : callM Tryd.prog 33 #[a.v] h K := by
  have an := RdI.len H
  refine v33 a h K ⟨fun m s p h' => h' = h ∧ 0 ≤ p ∧ p + m = (xs.length : Int) ∧ s = (xs.take p.toNat).sum, ⟨xs.length, rfl, by omega, by omega, by simp⟩, ?_⟩
  rintro m s p h1 ⟨rfl, p0, p1, rfl⟩ hL1
  refine ⟨fun e => ?_, fun e => ?_⟩
  · simp only [decide_eq_true_eq] at e
    have hp : p.toNat < xs.length := by omega
    have e1 : (xs.take (p.toNat + 1)).sum = (xs.take p.toNat).sum + xs[p.toNat] := by rw [List.take_add_one, List.getElem?_eq_getElem hp]; simp only [Option.toList_some, List.sum_append, List.sum_cons, List.sum_nil, Int.add_zero]
    have b1 := sum_le2 (xs.take (p.toNat + 1)) fun x hx => hb x (List.mem_of_mem_take hx)
    have l1 : (xs.take (p.toNat + 1)).length ≤ 1000 := by simp; omega
    refine ⟨H.inb p0 (by omega), _, H.get p0 (by omega), m - 1, by omega, rfl, ?_, ?_, ?_⟩
    · rw [w64_eq _ (by omega) (by omega)]; omega
    · rw [w64_eq _ (by omega) (by omega)]; omega
    · rw [w64_eq (p + 1) (by omega) (by omega), w64_eq _ (by omega) (by omega), show (p + 1).toNat = p.toNat + 1 by omega, e1]
  · simp only [decide_eq_false_iff_not] at e
    rw [List.take_of_length_le (by omega)]
    exact HK
structure CurD (a n : Nat) (h : Heap) (c : Sl) (i : Int) : Prop where
  code : ∃ vs, RdV (fun k => k < a) h 1 c vs ∧ ∀ v, v ∈ vs → ∃ m : Int, v = Value.int .u8 m ∧ 0 ≤ m ∧ m ≤ 255
  lo : 0 ≤ i
  hi : i ≤ (n : Int)
theorem CurD.fr {a n : Nat} {h h' : Heap} {c : Sl} {i : Int} {T : Nat → Prop} (D : CurD a n h c i) (f : Fr T h h') (hT : ∀ k, k < a → ¬ T k) : CurD a n h' c i := by
  obtain ⟨vs, h1, h2⟩ := D.code
  exact ⟨⟨vs, h1.fr f hT, h2⟩, D.lo, D.hi⟩
theorem CurD.no {a n : Nat} {h h' : Heap} {c : Sl} {i : Int} (D : CurD a n h c i) (f : Fr No h h') : CurD a n h' c i := D.fr f fun _ _ h => h
theorem CurD.up {a n m : Nat} {h : Heap} {c : Sl} {i : Int} (D : CurD a n h c i) (hm : n ≤ m) : CurD a m h c i := ⟨D.code, D.lo, by have := D.hi; omega⟩
theorem u64_rng (x : Int) : 0 ≤ IntKind.wrap .u64 x ∧ IntKind.wrap .u64 x < 18446744073709551616 := by
  rw [IntKind.wrap_u64]; omega
theorem and255 {x : Int} (h0 : 0 ≤ x) (h1 : x < 18446744073709551616) : 0 ≤ bits .and .u64 x 255 ∧ bits .and .u64 x 255 ≤ 255 := by
  have e := u64_and_nat x.toNat 255 (by omega) (by omega)
  rw [show ((x.toNat : Nat) : Int) = x by omega] at e
  have : x.toNat &&& 255 ≤ 255 := Nat.and_le_right
  rw [show ((255 : Nat) : Int) = 255 from rfl] at e
  rw [e]; omega
theorem vcur {h h' : Heap} {L : List (Nat × List Value)} (H : Vars h L) (i : Nat) {b : Nat} {cs cs' : List Value} (hi : nthL L i = some (b, cs)) (f : Fr (In [b]) h h') (V : IsVar h' b cs') : Vars h' (setL L i cs') :=
  H.set hi (f.mono fun k _ hk => by simpa [In] using hk) V
theorem k_next_ {a n b : Nat} {h : Heap} {c : Sl} {i sd : Int} (V : IsVar h b [c.v, VI i, .int .u64 sd]) (hb : a ≤ b) (D : CurD a n h c i) (hn : n ≤ 1000000000000) (K : Value → Heap → Prop) (HK : ∀ (x i' sd' : Int) h', 0 ≤ x → x ≤ 255 → IsVar h' b [c.v, VI i', .int .u64 sd'] → CurD a (n + 1) h' c i' → Fr (In [b]) h h' → K (VI x) h') : callM Tryd.prog 129 #[VP b 0] h K := by
  have h0 := D.lo
  have h1 := D.hi
  have lb := V.lt
  have fin : ∀ (x i' sd' : Int) (h1 h2 h' : Heap), 0 ≤ x → x ≤ 255 → 0 ≤ i' → i' ≤ (n : Int) + 1 → Fr No h h1 → Fr (In [b]) h1 h2 → Fr (In [b]) h2 h' → IsVar h' b [c.v, VI i', .int .u64 sd'] → K (VI x) h' := fun x i' sd' h1 h2 h' x0 x1 i0 i1 f1 f2 f3 V' => by
    have f := (f1.of_no.trans f2).trans f3
    obtain ⟨vs, d1, d2⟩ := D.code
    exact HK x i' sd' h' x0 x1 V' ⟨⟨vs, d1.fr f fun k hk hk2 => by simp [In] at hk2; omega, d2⟩, i0, by omega⟩ f
  refine v129 b c i sd h K (.cons V (by simp) .nil) ⟨fun x h' => 0 ≤ x ∧ x ≤ 255 ∧ h' = h, ⟨fun e => ?_, fun e => ⟨by omega, by omega, rfl⟩⟩, ?_⟩
  · obtain ⟨vs, d1, d2⟩ := D.code
    have hl := d1.len
    simp only [decide_eq_true_eq] at e
    have hi : i < (vs.length : Int) := by omega
    obtain ⟨m, e1, m0, m1⟩ := d2 _ (List.getElem_mem (show i.toNat < vs.length by omega))
    refine ⟨d1.inb h0 hi, m, by rw [d1.get h0 hi, e1], rop_conv (show Tryd.prog.underlying _ = some (.int .u8) from by kernel_rfl) (show Tryd.prog.underlying _ = some (.int .i64) from by kernel_rfl) m ⟨m, ?_, m0, m1, rfl⟩⟩
    show Value.int .i64 (w64 m) = VI m
    rw [w64_eq _ (by omega) (by omega)]
  · rintro x hh ⟨x0, x1, rfl⟩ hL h2 f2 hL2
    rw [w64_eq (i + 1) (by omega) (by omega)]
    refine rop_conv (show Tryd.prog.underlying _ = some (.int .i64) from by kernel_rfl) (show Tryd.prog.underlying _ = some (.int .u64) from by kernel_rfl) x ⟨_, rfl, fun e h3 f3 hL3 => ?_, fun e => ?_⟩
    · exact fin x _ _ hh h2 h3 x0 x1 (by omega) (by omega) (Fr.refl _ _) f2 f3 hL3.head
    · refine pop_shr .u64 _ 40 (by omega) ⟨_, rfl, pop_and .u64 _ 255 ⟨_, rfl, fun h3 f3 hL3 => ?_⟩⟩
      have hw := u64_rng (IntKind.wrap .u64 (IntKind.wrap .u64 (sd * 6364136223846793005) + IntKind.wrap .u64 x) + 1442695040888963407)
      have hd : 0 ≤ (IntKind.wrap .u64 (IntKind.wrap .u64 (IntKind.wrap .u64 (sd * 6364136223846793005) + IntKind.wrap .u64 x) + 1442695040888963407)).fdiv (2 ^ (min (40 : Int).toNat IntKind.u64.bits)) ∧ (IntKind.wrap .u64 (IntKind.wrap .u64 (IntKind.wrap .u64 (sd * 6364136223846793005) + IntKind.wrap .u64 x) + 1442695040888963407)).fdiv (2 ^ (min (40 : Int).toNat IntKind.u64.bits)) < 18446744073709551616 := by
        rw [show (2 : Int) ^ (min (40 : Int).toNat IntKind.u64.bits) = 1099511627776 from rfl, Int.fdiv_eq_ediv_of_nonneg _ (by omega)]
        omega
      have ha := and255 hd.1 hd.2
      refine rop_conv (show Tryd.prog.underlying _ = some (.int .u64) from by kernel_rfl) (show Tryd.prog.underlying _ = some (.int .i64) from by kernel_rfl) _ ⟨_, rfl, ?_⟩
      rw [show IntKind.i64.wrap (bits .and .u64 ((IntKind.wrap .u64 (IntKind.wrap .u64 (IntKind.wrap .u64 (sd * 6364136223846793005) + IntKind.wrap .u64 x) + 1442695040888963407)).fdiv (2 ^ (min (40 : Int).toNat IntKind.u64.bits))) 255) = bits .and .u64 ((IntKind.wrap .u64 (IntKind.wrap .u64 (IntKind.wrap .u64 (sd * 6364136223846793005) + IntKind.wrap .u64 x) + 1442695040888963407)).fdiv (2 ^ (min (40 : Int).toNat IntKind.u64.bits))) 255 from w64_eq _ (by omega) (by omega)]
      exact fin _ _ _ hh h2 h3 ha.1 ha.2 (by omega) (by omega) (Fr.refl _ _) f2 f3 hL3.head
theorem k_pick {a n b : Nat} {h : Heap} {c : Sl} {i sd : Int} (V : IsVar h b [c.v, VI i, .int .u64 sd]) (hb : a ≤ b) (D : CurD a n h c i) (hn : n ≤ 100000000000) (m : Int) (K : Value → Heap → Prop) (HK : ∀ (x i' sd' : Int) h', 0 ≤ x → (1 ≤ m → x < m) → IsVar h' b [c.v, VI i', .int .u64 sd'] → CurD a (n + 2) h' c i' → Fr (In [b]) h h' → K (VI x) h') : callM Tryd.prog 119 #[VP b 0, VI m] h K := by
  refine v119 b c i sd m h K (.cons V (by simp) .nil) ⟨fun e => ?_, fun e => ?_⟩
  · simp only [decide_eq_true_eq] at e
    exact HK 0 i sd h (by omega) (fun _ => by omega) V (D.up (by omega)) (Fr.refl _ _)
  simp only [decide_eq_false_iff_not] at e
  refine k_next_ V hb D (by omega) _ fun x i1 sd1 h1 x0 x1 V1 D1 f1 => ⟨c, i1, sd1, x, rfl, .cons V1 (by simp) .nil, fun y d i2 sd2 h2 => 0 ≤ y ∧ d = c ∧ CurD a (n + 2) h2 c i2 ∧ Fr (In [b]) h h2, ⟨fun e2 => ?_, fun e2 => ⟨x0, rfl, D1.up (by omega), f1⟩⟩, ?_⟩
  · refine k_next_ V1 hb D1 (by omega) _ fun x' i2 sd2 h2 x0' x1' V2 D2 f2 => ⟨c, i2, sd2, x', rfl, .cons V2 (by simp) .nil, ?_⟩
    rw [w64_eq (x * 256) (by omega) (by omega), w64_eq _ (by omega) (by omega)]
    exact ⟨by omega, rfl, D2, f1.trans f2⟩
  · rintro y d i2 sd2 h2 ⟨y0, rfl, D2, f2⟩ hL2
    exact ⟨by omega, HK _ i2 sd2 h2 (Int.tmod_nonneg _ y0) (fun _ => Int.tmod_lt_of_pos _ (by omega)) hL2.head D2 f2⟩
theorem k_one {a n b : Nat} {h : Heap} {c : Sl} {i sd : Int} (V : IsVar h b [c.v, VI i, .int .u64 sd]) (hb : a ≤ b) (D : CurD a n h c i) (hn : n ≤ 100000000000) (m : Int) (K : Value → Heap → Prop) (HK : ∀ (x : Bool) (i' sd' : Int) h', IsVar h' b [c.v, VI i', .int .u64 sd'] → CurD a (n + 2) h' c i' → Fr (In [b]) h h' → K (VB x) h') : callM Tryd.prog 121 #[VP b 0, VI m] h K := by
  refine v121 b c i sd m h K (.cons V (by simp) .nil) ?_
  exact k_pick V hb D hn m _ fun x i1 sd1 h1 x0 x1 V1 D1 f1 => ⟨c, i1, sd1, x, rfl, .cons V1 (by simp) .nil, HK _ i1 sd1 h1 V1 D1 f1⟩
theorem k_among {a n b : Nat} {h : Heap} {c : Sl} {i sd : Int} (V : IsVar h b [c.v, VI i, .int .u64 sd]) (hb : a ≤ b) (D : CurD a n h c i) (hn : n ≤ 100000000000) {S : Nat → Prop} {s : Sl} {xs : List Int} (R : RdI S h s xs) (hS : ¬ S b) (hne : xs ≠ []) (K : Value → Heap → Prop) (HK : ∀ (x i' sd' : Int) h', x ∈ xs → IsVar h' b [c.v, VI i', .int .u64 sd'] → CurD a (n + 2) h' c i' → Fr (In [b]) h h' → K (VI x) h') : callM Tryd.prog 120 #[VP b 0, s.v] h K := by
  refine v120 b c i sd s h K (.cons V (by simp) .nil) ?_
  have hl := R.len
  have hp := List.length_pos_iff.2 hne
  refine k_pick V hb D hn _ _ fun x i1 sd1 h1 x0 x1 V1 D1 f1 => ⟨c, i1, sd1, x, rfl, .cons V1 (by simp) .nil, ?_⟩
  have R1 := R.fr f1 fun k hk hk2 => by simp [In] at hk2; subst hk2; exact hS hk
  have hx : x < (xs.length : Int) := by have := x1 (by omega); omega
  exact ⟨R1.inb x0 hx, _, R1.get x0 hx, HK _ i1 sd1 h1 (List.getElem_mem _) V1 D1 f1⟩
theorem eop_put {L : List (Nat × List Value)} {lo : Nat} {h : Heap} {o : Sl} {xs : List Int} {x : Int} (O : OwI h (fun k => lo ≤ k) o xs) (hlo : lo ≤ h.size) (hL : Vars h L) (hoff : ∀ p, p ∈ L → p.1 < lo) (hb : xs.length ≤ 1000000) (R : Sl → Heap → Prop) (HR : ∀ t h', OwI h' (fun k => lo ≤ k) t (xs ++ [x]) → Fr (fun k => lo ≤ k) h h' → Vars h' L → R t h') : eop Tryd.prog (Instr.buildSlice tIs 1 #[(0, VI x)]) h fun rv h1 => ∃ t : Sl, rv = t.v ∧ Vars h1 L ∧ eop Tryd.prog (appS tIs tIs tIs o.v t.v) h1 fun rv2 h2 => ∃ t2 : Sl, rv2 = t2.v ∧ Vars h2 L ∧ R t2 h2 := by
  refine eop_lit rIs (fun k => h.size ≤ k) (fun _ h => h) 1 (by omega) [VI x] rfl rfl fun t h1 n1 c1 o1 f1 m1 _ => ⟨t, rfl, hL.of_no f1, ?_⟩
  have z1 := f1.size
  have O1 : OwI h1 (fun k => lo ≤ k) o xs := Ow.no O f1
  have on := O1.rd.len
  have tn := o1.rd.len
  simp only [List.length_map, Nat.mul_one, List.length_cons, List.length_nil] at on tn
  refine eop_append rIs O1 (fun k hk => by omega) o1.rd (plainVI [x]) (by omega) fun s' h2 n2 o2 f2 d2 => ?_
  have g2 : Fr (fun k => lo ≤ k) h1 h2 := f2.mono fun k _ hk => (O1.foot hk).1
  have V2 : Vars h2 L := (hL.of_no f1).fr g2 fun p hp hk => by have := hoff p hp; omega
  exact ⟨s', rfl, V2, HR s' h2 (by rw [OwI, List.map_append]; exact o2) (f1.of_no.trans g2) V2⟩
theorem eop_putR {L : List (Nat × List Value)} {lo m : Nat} {h : Heap} {s x : Sl} {xss : List (List Int)} {ys : List Int} (O : OwX h (Iv lo m) s xss) (X : OwI h (fun k => m ≤ k) x ys) (hlo : lo ≤ m) (hm : m ≤ h.size) (hL : Vars h L) (hoff : ∀ p, p ∈ L → p.1 < lo) (hb : xss.length ≤ 1000000) (R : Sl → Heap → Prop) (HR : ∀ t h', OwX h' (fun k => lo ≤ k) t (xss ++ [ys]) → Fr (fun k => lo ≤ k) h h' → Vars h' L → R t h') : eop Tryd.prog (Instr.buildSlice tIss 1 #[(0, x.v)]) h fun rv h1 => ∃ t : Sl, rv = t.v ∧ Vars h1 L ∧ eop Tryd.prog (appS tIss tIss tIss s.v t.v) h1 fun rv2 h2 => ∃ t2 : Sl, rv2 = t2.v ∧ Vars h2 L ∧ R t2 h2 := by
  refine eop_lit rIss (fun k => h.size ≤ k) (fun _ h => h) 1 (by omega) [x.v] rfl rfl fun t h1 n1 c1 o1 f1 m1 _ => ⟨t, rfl, hL.of_no f1, ?_⟩
  have z1 := f1.size
  refine OwR.snoc rIss (OwR.no O f1) (F' := fun k => lo ≤ k) (fun k _ hk => hk.1) (fun k hk => by omega) ((Ow.no X f1).mono fun k _ hk => Nat.le_trans hlo hk) (fun k hk hk2 => by have := (X.foot hk).1; have := hk2.2; omega) o1.rd (by omega) fun y h2 o2 f2 => ?_
  have g2 : Fr (fun k => lo ≤ k) h1 h2 := f2.mono fun k _ hk => hk.1
  have V2 : Vars h2 L := (hL.of_no f1).fr g2 fun p hp hk => by have := hoff p hp; omega
  exact ⟨y, rfl, V2, HR y h2 o2 (f1.of_no.trans g2) V2⟩
def cycR (n : Int) (both : Bool) (p : Int) : List Int := [(p + 1).tmod n] ++ (if both then [(p + n - 1).tmod n] else [])
def cycL' (n : Int) (both : Bool) : Nat → List (List Int)
  | 0 => []
  | p + 1 => cycL' n both p ++ [cycR n both p]
theorem cycL_length (n : Int) (both : Bool) : ∀ p, (cycL' n both p).length = p
  | 0 => rfl
  | p + 1 => by rw [cycL', List.length_append, cycL_length n both p]; rfl
def cycP (n : Nat) (both : Bool) : List (List Int) := cycL' n both n
theorem k_grCycle {h : Heap} (n : Nat) (hn : n ≤ 1000) (both : Bool) (K : Value → Heap → Prop) (HK : ∀ t h', OwX h' (Iv h.size h'.size) t (cycP n both) → Fr No h h' → K (.agg #[t.v]) h') : callM Tryd.prog 135 #[VI n, VB both] h K := by
  refine v135 n both h K fun b1 b2 h3 hb1 hb2 f3 hL3 => ?_
  have f3 := f3.in_nil
  have z3 := f3.size
  have l2 : b2 < h3.size := hL3.head.lt
  have l1 : b1 < h3.size := hL3.tail.head.lt
  refine ⟨fun m p x h' => 0 ≤ p ∧ p + m = (n : Int) ∧ OwX h' (fun k => h3.size ≤ k) x (cycL' n both p.toNat) ∧ Fr (fun k => h.size ≤ k) h h' ∧ h3.size ≤ h'.size, ⟨n, by omega, by omega, OwR.nil _ _ _ _, f3.of_no, Nat.le_refl _⟩, ?_⟩
  rintro m p x h4 ⟨p0, p1, o4, f4, z4⟩ hL4
  refine ⟨fun e => ?_, fun e => ?_⟩
  · simp only [decide_eq_true_eq] at e
    refine ⟨by omega, ?_⟩
    rw [w64_eq (p + 1) (by omega) (by omega), w64_eq (p + n) (by omega) (by omega), w64_eq (p + n - 1) (by omega) (by omega)]
    have o4i := OwR.toIv o4
    refine eop_lit rIs (fun k => h4.size ≤ k) (fun _ h => h) 1 (by omega) [VI ((p + 1).tmod n)] rfl rfl fun t h5 n5 c5 o5 f5 m5 _ => ⟨t, rfl, hL4.of_no f5, fun y h' => OwI h' (fun k => h4.size ≤ k) y (cycR n both p) ∧ OwX h' (Iv h3.size h4.size) x (cycL' n both p.toNat) ∧ Fr (fun k => h.size ≤ k) h h' ∧ h4.size ≤ h'.size, ⟨fun eb => ⟨by omega, ?_⟩, fun eb => ⟨?_, OwR.no o4i f5, f4.trans f5.of_no, f5.size⟩⟩, ?_⟩
    · refine eop_put (lo := h4.size) (xs := [(p + 1).tmod n]) o5 f5.size (hL4.of_no f5) (fun q hq => by
        simp only [List.mem_cons, List.not_mem_nil, or_false] at hq
        rcases hq with rfl | rfl <;> simp only <;> omega) (by simp) _ fun u h6 o6 f6 V6 => ⟨?_, OwR.fr (OwR.no o4i f5) f6 fun k hk hk2 hk3 => by have := hk2.2; omega, (f4.trans f5.of_no).trans (f6.mono fun k _ hk => by have := f4.size; omega), by have := f5.size; have := f6.size; omega⟩
      unfold cycR
      rw [if_pos eb]; exact o6
    · unfold cycR
      rw [if_neg (by rw [eb]; simp)]
      exact o5
    rintro y h8 ⟨o8, q8, f8, z8⟩ hL8
    refine eop_putR (lo := h3.size) (m := h4.size) q8 o8 z4 z8 hL8 (fun q hq => by
      simp only [List.mem_cons, List.not_mem_nil, or_false] at hq
      rcases hq with rfl | rfl <;> simp only <;> omega) (by rw [cycL_length]; omega) _ fun u h10 o10 f10 V10 h11 f11 hL11 => ?_
    refine ⟨m - 1, by omega, by omega, by omega, ?_, (f8.trans (f10.mono fun k _ hk => by omega)).trans (f11.mono fun k _ hk => by simp [In] at hk; omega), by have := f10.size; have := f11.size; omega⟩
    have ep : (p + 1).toNat = p.toNat + 1 := by omega
    rw [ep, cycL', show ((p.toNat : Nat) : Int) = p by omega]
    exact OwR.fr o10 f11 fun k hk hk2 hk3 => by simp [In] at hk3; omega
  · simp only [decide_eq_false_iff_not] at e
    intro h12 f12 hL12
    have ep : p.toNat = n := by omega
    rw [ep] at o4
    have g12 : Fr (fun k => h.size ≤ k) h4 h12 := f12.mono fun k _ hk => by simp [In] at hk; omega
    have o12 : OwX h12 (fun k => h3.size ≤ k) x (cycL' n both n) := OwR.fr o4 f12 fun k hk hk2 hk3 => by simp [In] at hk3; omega
    exact HK x h12 (OwR.ivs (OwR.toIv o12) z3 (Nat.le_refl _)) ((f4.trans g12).mono fun k hk hk2 => absurd hk2 (by omega))
theorem row_put {L : List (Nat × List Value)} {lo : Nat} {h : Heap} {s : Sl} {xss : List (List Int)} {i : Int} (O : OwX h (fun k => lo ≤ k) s xss) (hlo : lo ≤ h.size) (h0 : 0 ≤ i) (h1 : i < (xss.length : Int)) (hL : Vars h L) (hoff : ∀ p, p ∈ L → p.1 < lo) (hb : (xss[i.toNat]'(by omega)).length ≤ 1000000) (x : Int) : ∃ si : Sl, hcell h (s.at i 1) = some si.v ∧ ∀ R : Heap → Prop, (∀ h', OwX h' (fun k => lo ≤ k) s (xss.set i.toNat (xss[i.toNat]'(by omega) ++ [x])) → Fr (fun k => lo ≤ k) h h' → Vars h' L → R h') → eop Tryd.prog (Instr.buildSlice tIs 1 #[(0, VI x)]) h fun rv h1 => ∃ t : Sl, rv = t.v ∧ Vars h1 L ∧ hcell h1 (s.at i 1) = some si.v ∧ eop Tryd.prog (appS tIs tIs tIs si.v t.v) h1 fun rv2 h2 => ∃ t2 : Sl, rv2 = t2.v ∧ Vars h2 L ∧ InB s i ∧ Writable h2 (s.at i 1) ∧ Vars (hset h2 (s.at i 1) t2.v) L ∧ ∀ h3, h3 = hset h2 (s.at i 1) t2.v → Vars h3 L → R h3 := by
  have Oi := OwR.toIv O
  obtain ⟨si, c1, c2, _⟩ := Oi.inner h0 h1
  refine ⟨si, c1, fun R HR => ?_⟩
  refine eop_lit rIs (fun k => h.size ≤ k) (fun _ h => h) 1 (by omega) [VI x] rfl rfl fun t h9 n9 c9 o9 f9 m9 _ => ⟨t, rfl, hL.of_no f9, hcell_fr c1 f9 (fun h => h), ?_⟩
  have s9 := f9.size
  have O9 := OwR.no Oi f9
  have c2' : OwI h9 (fun k => lo ≤ k) si (xss[i.toNat]'(by omega)) := (Ow.no c2 f9).mono fun k _ hk => hk.1
  have on := c2'.rd.len
  have tn := o9.rd.len
  simp only [List.length_map, Nat.mul_one, List.length_cons, List.length_nil] at on tn
  refine eop_append rIs c2' (fun k hk => by omega) o9.rd (plainVI [x]) (by omega) fun w h10 n10 o10 f10 d10 => ?_
  have g10 : Fr (fun k => lo ≤ k) h9 h10 := f10.mono fun k _ hk => (c2'.foot hk).1
  have V10 : Vars h10 L := (hL.of_no f9).fr g10 fun p hp hk => by have := hoff p hp; omega
  have o10' : OwI h10 (fun k => lo ≤ k) w (xss[i.toNat]'(by omega) ++ [x]) := by rw [OwI, List.map_append]; exact o10
  obtain ⟨i11, w11, o11, f11⟩ := O9.outer2 h0 h1 (hcell_fr c1 f9 fun h => h) f10 (F' := fun k => lo ≤ k) o10' (fun k _ hk => hk.1) fun k hk => (d10 k hk).imp id fun hk2 hk3 => by have := hk3.2; omega
  have g11 : Fr (fun k => lo ≤ k) h10 _ := (O9.ownF f11).mono fun k _ hk => hk.1
  have V11 := V10.fr g11 fun p hp hk => by have := hoff p hp; omega
  exact ⟨w, rfl, V10, i11, w11, V11, fun h3 e3 V3 => HR h3 (by rw [e3]; exact o11) (by rw [e3]; exact (f9.of_no.trans g10).trans g11) V3⟩
def GR (N : Int) (q : Nat) (xss : List (List Int)) : Prop := ∀ l, l ∈ xss → l.length ≤ q ∧ ∀ x, x ∈ l → 0 ≤ x ∧ x < N
theorem GR.nil (N : Int) (q : Nat) : GR N q [] := fun l hl => by cases hl
theorem GR.snoc {N : Int} {q : Nat} {xss : List (List Int)} {l : List Int} (H : GR N q xss) (h1 : l.length ≤ q) (h2 : ∀ x, x ∈ l → 0 ≤ x ∧ x < N) : GR N q (xss ++ [l]) := fun y hy => by
  rcases List.mem_append.1 hy with a | a
  · exact H y a
  · simp only [List.mem_cons, List.not_mem_nil, or_false] at a; rw [a]; exact ⟨h1, h2⟩
theorem GR.set {N : Int} {q : Nat} {xss : List (List Int)} {l : List Int} (H : GR N q xss) (i : Nat) (h1 : l.length ≤ q) (h2 : ∀ x, x ∈ l → 0 ≤ x ∧ x < N) : GR N q (xss.set i l) := fun y hy => by
  rcases List.mem_or_eq_of_mem_set hy with a | a
  · exact H y a
  · rw [a]; exact ⟨h1, h2⟩
theorem GR.up {N : Int} {q r : Nat} {xss : List (List Int)} (H : GR N q xss) (h : q ≤ r) : GR N r xss := fun l hl => ⟨Nat.le_trans (H l hl).1 h, (H l hl).2⟩
theorem GR.graph {q : Nat} {xss : List (List Int)} (H : GR xss.length q xss) (hq : q ≤ 5) (h1 : 1 ≤ xss.length) (h2 : xss.length ≤ 8) : graphB xss = true := by
  rw [graphB_eq (inR_iff.2 ⟨by omega, by omega⟩), List.all_eq_true]
  intro l hl
  have := H l hl
  rw [Bool.and_eq_true, Bool.not_eq_true', decide_eq_false_iff_not, List.all_eq_true]
  exact ⟨by omega, fun x hx => inR_iff.2 (by have := this.2 x hx; omega)⟩
theorem cyc_GR {n : Nat} (hn : 1 ≤ n) (both : Bool) : GR n 2 (cycP n both) := by
  have key : ∀ p, GR n 2 (cycL' n both p) := by
    intro p
    induction p with
    | zero => exact GR.nil _ _
    | succ p ih =>
      rw [cycL']
      refine ih.snoc ?_ ?_
      · unfold cycR; split <;> simp
      · intro x hx
        unfold cycR at hx
        rcases List.mem_append.1 hx with a | a
        · simp only [List.mem_cons, List.not_mem_nil, or_false] at a
          rw [a]; exact ⟨Int.tmod_nonneg _ (by omega), Int.tmod_lt_of_pos _ (by omega)⟩
        · split at a
          · simp only [List.mem_cons, List.not_mem_nil, or_false] at a
            rw [a]; exact ⟨Int.tmod_nonneg _ (by omega), Int.tmod_lt_of_pos _ (by omega)⟩
          · cases a
  exact key n
theorem k_sureGraph {a n b : Nat} {h : Heap} {c : Sl} {i sd : Int} (V : IsVar h b [c.v, VI i, .int .u64 sd]) (hb : a ≤ b) (D : CurD a n h c i) (hn : n ≤ 1000000000) {most : Int} (hm1 : 1 ≤ most) (hm2 : most ≤ 8) (K : Value → Heap → Prop) (HK : ∀ (t : Sl) (xss : List (List Int)) (i' sd' : Int) h', OwX h' (Iv h.size h'.size) t xss → GR xss.length 4 xss → 1 ≤ xss.length → (xss.length : Int) ≤ most → IsVar h' b [c.v, VI i', .int .u64 sd'] → CurD a (n + 100) h' c i' → Fr (In [b]) h h' → K (.agg #[t.v]) h') : callM Tryd.prog 128 #[VP b 0, VI most] h K := by
  have lb := V.lt
  refine v128 b c i sd most h K (.cons V (by simp) .nil) fun b2 h1 hb2 f1 hL1 => ?_
  have f1 := f1.in_nil
  have z1 := f1.size
  have l2 : b2 < h1.size := hL1.head.lt
  have fin : ∀ (h' : Heap), Fr (fun k => k = b ∨ h.size ≤ k) h h' → Fr (In [b]) h h' := fun h' f => f.mono fun k hk hk2 => by
    rcases hk2 with e | e
    · simp [In, e]
    · omega
  have inb : ∀ {x y : Heap}, Fr (In [b]) x y → Fr (fun k => k = b ∨ h.size ≤ k) x y := fun f => f.mono fun k _ hk => .inl (by simpa [In] using hk)
  refine k_pick hL1.tail.head hb (D.no f1) (by omega) most _ fun r i2 sd2 h2 r0 r1 V2 D2 f2 => ⟨c, i2, sd2, r, rfl, vcur hL1 1 rfl f2 V2, ?_⟩
  have hr := r1 hm1
  rw [w64_eq (1 + r) (by omega) (by omega)]
  have hL2 := vcur hL1 1 rfl f2 V2
  refine k_one V2 hb D2 (by omega) _ _ fun q i3 sd3 h3 V3 D3 f3 => ⟨c, i3, sd3, q, rfl, vcur hL2 1 rfl f3 V3, fun eq => ?_, fun eq => ?_⟩
  · have hL3 := vcur hL2 1 rfl f3 V3
    refine k_one V3 hb D3 (by omega) _ _ fun q4 i4 sd4 h4 V4 D4 f4 => ⟨c, i4, sd4, q4, rfl, vcur hL3 1 rfl f4 V4, ?_⟩
    have hL4 := vcur hL3 1 rfl f4 V4
    have en : (1 + r) = (((1 + r).toNat : Nat) : Int) := by omega
    rw [en]
    refine k_grCycle (1 + r).toNat (by omega) q4 _ fun t h5 o5 f5 => ⟨t, rfl, hL4.of_no f5, fun h6 f6 hL6 => ?_⟩
    have z2 := f2.size
    have z3 := f3.size
    have z4 := f4.size
    have z5 := f5.size
    have o6 : OwX h6 (Iv h4.size h5.size) t (cycP (1 + r).toNat q4) := OwR.fr o5 f6 fun k hk hk2 hk3 => by simp [In] at hk3; have := hk2.1; omega
    have z6 := f6.size
    have hl : (cycP (1 + r).toNat q4).length = (1 + r).toNat := cycL_length _ _ _
    refine HK t _ i4 sd4 h6 (OwR.ivs o6 (by omega) z6) ?_ (by omega) (by omega) hL6.tail.head ?_ (fin h6 ?_)
    · rw [hl]; exact (cyc_GR (by omega) q4).up (by omega)
    · exact (((D4.no f5).fr f6 fun k hk hk2 => by simp [In] at hk2; omega)).up (by omega)
    · exact ((((f1.of_no.trans (inb f2)).trans (inb f3)).trans (inb f4)).trans f5.of_no).trans (f6.mono fun k _ hk => .inr (by simp [In] at hk; omega))
  · intro b3 h8 hb3 f8 hL8
    have f8 := f8.in_nil
    have z2 := f2.size
    have z3 := f3.size
    have z8 := f8.size
    have l3 : b3 < h8.size := hL8.head.lt
    have f08 : Fr (fun k => k = b ∨ h.size ≤ k) h h8 := ((f1.of_no.trans (inb f2)).trans (inb f3)).trans f8.of_no
    refine ⟨fun m p x d i' sd' h' => 0 ≤ p ∧ p + m = 1 + r ∧ d = c ∧ CurD a (n + 4 + 10 * p.toNat) h' c i' ∧ (∃ rows, OwX h' (fun k => h8.size ≤ k) x rows ∧ GR (1 + r) 3 rows ∧ rows.length = p.toNat) ∧ Fr (fun k => k = b ∨ h.size ≤ k) h h' ∧ h8.size ≤ h'.size, ⟨(1 + r).toNat, by omega, by omega, rfl, (D3.no f8).up (by omega), ⟨[], OwR.nil _ _ _ _, GR.nil _ _, rfl⟩, f08, Nat.le_refl _⟩, ?_⟩
    rintro m p x d i9 sd9 h9 ⟨p0, p1, rfl, D9, ⟨rows, o9, g9, e9⟩, f9, z9⟩ hL9
    have hoff : ∀ (A B C : List Value) (q : Nat × List Value), q ∈ [(b3, A), (b2, B), (b, C)] → q.1 < h8.size := fun A B C q hq => by
      simp only [List.mem_cons, List.not_mem_nil, or_false] at hq
      rcases hq with rfl | rfl | rfl <;> simp only <;> omega
    refine ⟨fun e => ?_, fun e => ?_⟩
    · simp only [decide_eq_true_eq] at e
      refine k_pick hL9.tail.tail.head hb D9 (by omega) 3 _ fun y i10 sd10 h10 y0 y1 V10 D10 f10 => ⟨d, i10, sd10, y, rfl, vcur hL9 2 rfl f10 V10, ?_⟩
      have y1 := y1 (by omega)
      rw [w64_eq (1 + y) (by omega) (by omega)]
      have z10 := f10.size
      have o10 := OwR.fr (OwR.toIv o9) f10 fun k hk hk2 hk3 => by simp [In] at hk3; have := hk2.1; omega
      refine ⟨fun m l k d' i' sd' h' => m = k.toNat ∧ 0 ≤ k ∧ d' = d ∧ CurD a (n + 6 + 10 * p.toNat + 2 * (3 - k).toNat) h' d i' ∧ (∃ ys, OwI h' (fun k => h9.size ≤ k) l ys ∧ (∀ x, x ∈ ys → 0 ≤ x ∧ x < 1 + r) ∧ (ys.length : Int) + k ≤ 3) ∧ OwX h' (Iv h8.size h9.size) x rows ∧ Fr (fun k => k = b ∨ h.size ≤ k) h h' ∧ h9.size ≤ h'.size, ⟨(1 + y).toNat, rfl, by omega, rfl, D10.up (by omega), ⟨[], Ow.nil _ _ _ _, by simp, by simp; omega⟩, o10, f9.trans (inb f10), z10⟩, ?_⟩
      rintro m2 l k d' i11 sd11 h11 ⟨rfl, k0, rfl, D11, ⟨ys, q11, r11, e11⟩, o11, f11, z11⟩ hL11
      refine ⟨fun ek => ?_, fun ek => ?_⟩
      · simp only [decide_eq_true_eq] at ek
        refine k_pick hL11.tail.tail.head hb D11 (by omega) (1 + r) _ fun w i12 sd12 h12 w0 w1 V12 D12 f12 => ⟨d', i12, sd12, w, rfl, vcur hL11 2 rfl f12 V12, ?_⟩
        have w1 := w1 (by omega)
        have z12 := f12.size
        have q12 : OwI h12 (fun k => h9.size ≤ k) l ys := Ow.fr q11 f12 fun k hk hk3 => by have := (q11.foot hk).1; simp [In] at hk3; omega
        have hL12 := vcur hL11 2 rfl f12 V12
        refine eop_put (lo := h9.size) q12 (by omega) hL12 (fun q hq => by have := hoff _ _ _ q hq; omega) (by omega) _ fun u h14 o14 f14 V14 => ?_
        rw [w64_eq (k - 1) (by omega) (by omega)]
        have z14 := f14.size
        refine ⟨(k - 1).toNat, by omega, rfl, by omega, rfl, ?_, ⟨ys ++ [w], o14, ?_, by simp; omega⟩, ?_, ?_, by omega⟩
        · exact (D12.fr f14 fun k hk hk2 => by omega).up (by omega)
        · intro v hv
          rcases List.mem_append.1 hv with a | a
          · exact r11 v a
          · simp only [List.mem_cons, List.not_mem_nil, or_false] at a; omega
        · refine OwR.fr (OwR.fr o11 f12 fun k hk hk2 hk3 => by simp [In] at hk3; have := hk2.1; omega) f14 fun k hk hk2 hk3 => by have := hk2.2; omega
        · exact (f11.trans (inb f12)).trans (f14.mono fun k _ hk => .inr (by have := f9.size; omega))
      · simp only [decide_eq_false_iff_not] at ek
        have ek0 : k = 0 := by omega
        subst ek0
        refine ⟨fun y2 d2 i2' sd2' h' => d2 = d' ∧ (∃ zs, OwI h' (fun k => h9.size ≤ k) y2 zs ∧ (∀ x, x ∈ zs → 0 ≤ x ∧ x < 1 + r) ∧ zs.length ≤ 3) ∧ OwX h' (Iv h8.size h9.size) x rows ∧ CurD a (n + 14 + 10 * p.toNat) h' d' i2' ∧ Fr (fun k => k = b ∨ h.size ≤ k) h h' ∧ h9.size ≤ h'.size, ?_, ?_⟩
        · refine k_one hL11.tail.tail.head hb D11 (by omega) 8 _ fun q15 i15 sd15 h15 V15 D15 f15 => ⟨d', i15, sd15, q15, rfl, vcur hL11 2 rfl f15 V15, fun _ => ?_, fun _ => ?_⟩
          · exact ⟨rfl, ⟨[], Ow.nil _ _ _ _, by simp, by simp⟩, OwR.fr o11 f15 fun k hk hk2 hk3 => by simp [In] at hk3; have := hk2.1; omega, D15.up (by omega), f11.trans (inb f15), by have := f15.size; omega⟩
          · exact ⟨rfl, ⟨ys, Ow.fr q11 f15 fun k hk hk3 => by have := (q11.foot hk).1; simp [In] at hk3; omega, r11, by omega⟩, OwR.fr o11 f15 fun k hk hk2 hk3 => by simp [In] at hk3; have := hk2.1; omega, D15.up (by omega), f11.trans (inb f15), by have := f15.size; omega⟩
        rintro y2 d2 i16 sd16 h16 ⟨rfl, ⟨zs, q16, r16, e16⟩, o16, D16, f16, z16⟩ hL16
        refine eop_putR (lo := h8.size) (m := h9.size) o16 q16 z9 z16 hL16 (fun q hq => hoff _ _ _ q hq) (by omega) _ fun u h18 o18 f18 V18 h19 f19 hL19 => ?_
        rw [w64_eq (p + 1) (by omega) (by omega)]
        have z18 := f18.size
        have z19 := f19.size
        refine ⟨m - 1, by omega, by omega, by omega, rfl, ?_, ⟨rows ++ [zs], OwR.fr o18 f19 fun k hk hk2 hk3 => by simp [In] at hk3; omega, g9.snoc e16 r16, by simp; omega⟩, ?_, by omega⟩
        · exact ((D16.fr f18 fun k hk hk2 => by omega).fr f19 fun k hk hk2 => by simp [In] at hk2; omega).up (by omega)
        · exact (f16.trans (f18.mono fun k _ hk => .inr (by omega))).trans (f19.mono fun k _ hk => .inr (by simp [In] at hk; omega))
    · simp only [decide_eq_false_iff_not] at e
      have hrl : (rows.length : Int) = 1 + r := by omega
      refine k_one hL9.tail.tail.head hb D9 (by omega) 2 _ fun q20 i20 sd20 h20 V20 D20 f20 => ⟨d, i20, sd20, q20, rfl, vcur hL9 2 rfl f20 V20, fun _ => ?_, fun _ => ?_⟩
      · have z20 := f20.size
        have o20 : OwX h20 (fun k => h8.size ≤ k) x rows := OwR.fr o9 f20 fun k hk hk2 hk3 => by simp [In] at hk3; omega
        have hL20 := vcur hL9 2 rfl f20 V20
        refine ⟨fun m2 j h' => 0 ≤ j ∧ j + m2 = 1 + r ∧ CurD a (n + 100) h' d i20 ∧ (∃ rs, OwX h' (fun k => h8.size ≤ k) x rs ∧ GR (1 + r) 4 rs ∧ (rs.length : Int) = 1 + r ∧ ∀ k (hk : k < rs.length), j ≤ (k : Int) → rs[k].length ≤ 3) ∧ Fr (fun k => k = b ∨ h.size ≤ k) h h' ∧ h8.size ≤ h'.size, ⟨(1 + r).toNat, by omega, by omega, D20.up (by omega), ⟨rows, o20, g9.up (by omega), hrl, fun k hk _ => (g9 _ (List.getElem_mem hk)).1⟩, f9.trans (inb f20), by omega⟩, ?_⟩
        rintro m2 j h21 ⟨j0, j1, D21, ⟨rs, o21, g21, e21, s21⟩, f21, z21⟩ hL21
        have hxn : (x.n : Int) = 1 + r := by have := OwR.len o21; omega
        refine ⟨fun ej => ?_, fun ej => ?_⟩
        · simp only [decide_eq_true_eq] at ej
          have hj : j < (rs.length : Int) := by omega
          have hsj := s21 j.toNat (by omega) (by omega)
          obtain ⟨si, c1, c2⟩ := row_put o21 z21 j0 hj hL21 (fun q hq => hoff _ _ _ q hq) (by omega) ((w64 (j + 1)).tmod (1 + r))
          refine ⟨(OwR.rd o21).inb j0 hj, si, c1, by omega, c2 _ fun h24 o24 f24 V24 => ?_⟩
          rw [w64_eq (j + 1) (by omega) (by omega)] at o24 ⊢
          refine ⟨m2 - 1, by omega, by omega, by omega, D21.fr f24 fun k hk hk2 => by omega, ⟨_, o24, g21.set _ (by simp; omega) ?_, by simp; omega, fun k hk hk2 => ?_⟩, f21.trans (f24.mono fun k _ hk => .inr (by omega)), by have := f24.size; omega⟩
          · intro v hv
            rcases List.mem_append.1 hv with a | a
            · exact (g21 _ (List.getElem_mem _)).2 v a
            · simp only [List.mem_cons, List.not_mem_nil, or_false] at a
              rw [a]; exact ⟨Int.tmod_nonneg _ (by omega), Int.tmod_lt_of_pos _ (by omega)⟩
          · rw [List.getElem_set, if_neg (by omega)]
            exact s21 k (by simpa using hk) (by omega)
        · intro h25 f25 hL25
          have o25 : OwX h25 (fun k => h8.size ≤ k) x rs := OwR.fr o21 f25 fun k hk hk2 hk3 => by simp [In] at hk3; omega
          refine HK x rs i20 sd20 h25 (OwR.ivs (OwR.toIv o25) (by omega) (Nat.le_refl _)) (by rw [e21]; exact g21) (by omega) (by omega) hL25.tail.tail.head (D21.fr f25 fun k hk hk2 => by simp [In] at hk2; omega) (fin _ (f21.trans (f25.mono fun k _ hk => .inr (by simp [In] at hk; omega))))
      · intro h26 f26 hL26
        have z20 := f20.size
        have o26 : OwX h26 (fun k => h8.size ≤ k) x rows := OwR.fr (OwR.fr o9 f20 fun k hk hk2 hk3 => by simp [In] at hk3; omega) f26 fun k hk hk2 hk3 => by simp [In] at hk3; omega
        refine HK x rows i20 sd20 h26 (OwR.ivs (OwR.toIv o26) (by omega) (Nat.le_refl _)) (by rw [hrl]; exact g9.up (by omega)) (by omega) (by omega) hL26.tail.tail.head ((D20.fr f26 fun k hk hk2 => by simp [In] at hk2; omega).up (by omega)) (fin _ ((f9.trans (inb f20)).trans (f26.mono fun k _ hk => .inr (by simp [In] at hk; omega))))
theorem row_set {L : List (Nat × List Value)} {F : Nat → Prop} {m : Nat} {h : Heap} {s x : Sl} {xss : List (List Int)} {ys : List Int} {i : Int} (O : OwX h (fun k => F k ∧ k < m) s xss) (X : OwI h (fun k => m ≤ k) x ys) (hF : ∀ k, m ≤ k → F k) (h0 : 0 ≤ i) (h1 : i < (xss.length : Int)) (hL : Vars h L) (hoff : ∀ p, p ∈ L → ¬ F p.1) (R : Heap → Prop) (HR : ∀ h', OwX h' F s (xss.set i.toNat ys) → Fr F h h' → Vars h' L → R h') : InB s i ∧ Writable h (s.at i 1) ∧ Vars (hset h (s.at i 1) x.v) L ∧ ∀ h3, h3 = hset h (s.at i 1) x.v → Vars h3 L → R h3 := by
  obtain ⟨si, c1, c2, _⟩ := O.inner h0 h1
  obtain ⟨i11, w11, o11, f11⟩ := O.outer2 h0 h1 c1 (Fr.refl _ _) (F' := F) (X.mono fun k _ hk => hF k hk) (fun k _ hk => hk.1) fun k hk => .inr fun hk2 => by have := (X.foot hk).1; have := hk2.2; omega
  have g11 : Fr F h _ := (O.ownF f11).mono fun k _ hk => hk.1
  have V11 := hL.fr g11 hoff
  exact ⟨i11, w11, V11, fun h3 e3 V3 => HR h3 (by rw [e3]; exact o11) (by rw [e3]; exact g11) V3⟩
theorem k_sureWalk {a n b : Nat} {h : Heap} {c : Sl} {i sd : Int} (V : IsVar h b [c.v, VI i, .int .u64 sd]) (hb : a ≤ b) (D : CurD a n h c i) (hn : n ≤ 1000000000) {S : Nat → Prop} {g : Sl} {xss : List (List Int)} (G : RdR S h g xss) (hS : ¬ S b) (hl : xss.length ≤ 1000) (K : Value → Heap → Prop) (HK : ∀ (t : Sl) (rs : List Int) (p i' sd' : Int) h', OwI h' (Iv h.size h'.size) t rs → rs.length = xss.length → IsVar h' b [c.v, VI i', .int .u64 sd'] → CurD a (n + 2 + 2 * xss.length) h' c i' → Fr (In [b]) h h' → K (.agg #[t.v, VI p]) h') : callM Tryd.prog 118 #[VP b 0, .agg #[g.v]] h K := by
  have lb := V.lt
  refine v118 b c i sd g h K (.cons V (by simp) .nil) fun b2 b3 h2 hb2 hb3 f2 hL2 => ?_
  have f2 := f2.in_nil
  have z2 := f2.size
  have l3 : b3 < h2.size := hL2.head.lt
  have l2 : b2 < h2.size := hL2.tail.head.lt
  have fin : ∀ (h' : Heap), Fr (fun k => k = b ∨ h.size ≤ k) h h' → Fr (In [b]) h h' := fun h' f => f.mono fun k hk hk2 => by
    rcases hk2 with e | e
    · simp [In, e]
    · omega
  have inb : ∀ {x y : Heap}, Fr (In [b]) x y → Fr (fun k => k = b ∨ h.size ≤ k) x y := fun f => f.mono fun k _ hk => .inl (by simpa [In] using hk)
  have G0 : RdR (fun k => S k ∧ k < h.size) h g xss := G.lowS
  have gT : ∀ k, (S k ∧ k < h.size) → ¬ (k = b ∨ h.size ≤ k) := fun k hk hk2 => by
    rcases hk2 with e | e
    · subst e; exact hS hk.1
    · omega
  refine k_pick hL2.tail.tail.head hb (D.no f2) (by omega) _ _ fun r i3 sd3 h3 r0 r1 V3 D3 f3 => ⟨c, i3, sd3, r, rfl, vcur hL2 2 rfl f3 V3, fun b4 h5 hb4 f5 hL5 => ?_⟩
  have f5 := f5.in_nil
  have z3 := f3.size
  have z5 := f5.size
  have l4 : b4 < h5.size := hL5.head.lt
  have gn := G.len
  refine ⟨fun m p x y d i' sd' h' => 0 ≤ p ∧ p + m = (xss.length : Int) ∧ y = r ∧ d = c ∧ CurD a (n + 2 + 2 * p.toNat) h' c i' ∧ (∃ rs, OwI h' (fun k => h5.size ≤ k) x rs ∧ rs.length = p.toNat) ∧ Fr (fun k => k = b ∨ h.size ≤ k) h h' ∧ h5.size ≤ h'.size, ⟨xss.length, by omega, by omega, rfl, rfl, (D3.no f5).up (by omega), ⟨[], Ow.nil _ _ _ _, rfl⟩, (f2.of_no.trans (inb f3)).trans f5.of_no, Nat.le_refl _⟩, ?_⟩
  rintro m p x y d i6 sd6 h6 ⟨p0, p1, rfl, rfl, D6, ⟨rs, o6, e6⟩, f6, z6⟩ hL6
  have G6 := G0.fr f6 gT
  refine ⟨fun e => ?_, fun e => ?_⟩
  · simp only [decide_eq_true_eq] at e
    obtain ⟨si, c1, r6⟩ := G6.get p0 (by omega)
    refine ⟨G6.inb p0 (by omega), si, c1, fun w d2 i' sd' h' => d2 = d ∧ CurD a (n + 2 + 2 * p.toNat + 2) h' d i' ∧ OwI h' (fun k => h5.size ≤ k) x rs ∧ Fr (fun k => k = b ∨ h.size ≤ k) h h' ∧ h5.size ≤ h'.size, ⟨fun _ => ?_, fun _ => ⟨rfl, D6.up (by omega), o6, f6, z6⟩⟩, ?_⟩
    · refine k_pick hL6.tail.tail.tail.head hb D6 (by omega) _ _ fun w i7 sd7 h7 w0 w1 V7 D7 f7 => ⟨d, i7, sd7, w, rfl, vcur hL6 3 rfl f7 V7, rfl, D7, Ow.fr o6 f7 fun k hk hk3 => by have := (o6.foot hk).1; simp [In] at hk3; omega, f6.trans (inb f7), by have := f7.size; omega⟩
    rintro w d2 i8 sd8 h8 ⟨rfl, D8, o8, f8, z8⟩ hL8
    refine eop_put (lo := h5.size) o8 z8 hL8 (fun q hq => by
      simp only [List.mem_cons, List.not_mem_nil, or_false] at hq
      rcases hq with rfl | rfl | rfl | rfl <;> simp only <;> omega) (by omega) _ fun u h10 o10 f10 V10 h11 f11 hL11 => ?_
    rw [w64_eq (p + 1) (by omega) (by omega)]
    have z10 := f10.size
    have z11 := f11.size
    refine ⟨m - 1, by omega, by omega, by omega, rfl, rfl, ?_, ⟨rs ++ [w], Ow.fr o10 f11 fun k hk hk3 => by have := (o10.foot hk).1; simp [In] at hk3; omega, by simp; omega⟩, ?_, by omega⟩
    · exact ((D8.fr f10 fun k hk hk2 => by omega).fr f11 fun k hk hk2 => by simp [In] at hk2; omega).up (by omega)
    · exact (f8.trans (f10.mono fun k _ hk => .inr (by omega))).trans (f11.mono fun k _ hk => .inr (by simp [In] at hk; omega))
  · simp only [decide_eq_false_iff_not] at e
    intro h12 f12 hL12
    have o12 : OwI h12 (fun k => h5.size ≤ k) x rs := Ow.fr o6 f12 fun k hk hk3 => by have := (o6.foot hk).1; simp [In] at hk3; omega
    refine HK x rs y i6 sd6 h12 (Ow.ivs (Ow.toIv o12) (by omega) (Nat.le_refl _)) (by omega) hL12.tail.tail.tail.head ?_ (fin _ (f6.trans (f12.mono fun k _ hk => .inr (by simp [In] at hk; omega))))
    exact (D6.fr f12 fun k hk hk2 => by simp [In] at hk2; omega).up (by omega)
theorem int_set {L : List (Nat × List Value)} {F : Nat → Prop} {h : Heap} {s : Sl} {xs : List Int} {i : Int} {v : Int} (O : OwI h F s xs) (h0 : 0 ≤ i) (h1 : i < (xs.length : Int)) (hL : Vars h L) (hoff : ∀ p, p ∈ L → ¬ F p.1) (R : Heap → Prop) (HR : ∀ h', OwI h' F s (xs.set i.toNat v) → Fr F h h' → Vars h' L → R h') : InB s i ∧ Writable h (s.at i 1) ∧ Vars (hset h (s.at i 1) (VI v)) L ∧ ∀ h3, h3 = hset h (s.at i 1) (VI v) → Vars h3 L → R h3 := by
  have on := O.rd.len
  simp only [List.length_map, Nat.mul_one] at on
  obtain ⟨w1, w2, w3⟩ := O.store1 h0 (by omega) (VI v)
  have g : Fr F h _ := w3.mono fun k _ hk => (O.foot hk).1
  have V := hL.fr g hoff
  exact ⟨O.rd.inb h0 (by simp; omega), w1, V, fun h3 e3 V3 => HR h3 (by rw [e3, OwI, List.map_set]; exact w2) (by rw [e3]; exact g) V3⟩
theorem k_big (s t : Sl) (h : Heap) (K : Value → Heap → Prop) (HK : ∀ b, K (VB b) h) : callM Tryd.prog 20 #[s.v, t.v] h K :=
  v20 s t h K ⟨fun _ => HK true, fun _ => HK _⟩
theorem cell_keep {S T : Nat → Prop} {h h' : Heap} {s : Sl} {xss : List (List Int)} {i : Int} (R : RdR S h s xss) (h0 : 0 ≤ i) (h1 : i < (xss.length : Int)) (f : Fr T h h') (hd : ∀ k, S k → ¬ T k) {v : Value} (c : hcell h (s.at i 1) = some v) : hcell h' (s.at i 1) = some v := by
  obtain ⟨ss, e, V, _⟩ := R.out
  obtain ⟨a, ha, hs, _⟩ := V.cell i.toNat (by simp; omega)
  refine hcell_fr c f ?_
  rw [at_one ha, add_block]
  exact hd _ hs
theorem slv_inj {a b : Sl} (h : some a.v = some b.v) : a = b := by
  cases a; cases b; simp [Sl.v] at h; simp [h]
theorem row_putF {L : List (Nat × List Value)} {F : Nat → Prop} {h : Heap} {s si : Sl} {xss : List (List Int)} {i : Int} (O : OwX h F s xss) (hF : ∀ k, h.size ≤ k → F k) (h0 : 0 ≤ i) (h1 : i < (xss.length : Int)) (c0 : hcell h (s.at i 1) = some si.v) (hL : Vars h L) (hoff : ∀ p, p ∈ L → ¬ F p.1) (hb : (xss[i.toNat]'(by omega)).length ≤ 1000000) (x : Int) (R : Heap → Prop) (HR : ∀ h', OwX h' F s (xss.set i.toNat (xss[i.toNat]'(by omega) ++ [x])) → Fr F h h' → Vars h' L → R h') : eop Tryd.prog (Instr.buildSlice tIs 1 #[(0, VI x)]) h fun rv h1 => ∃ t : Sl, rv = t.v ∧ Vars h1 L ∧ hcell h1 (s.at i 1) = some si.v ∧ eop Tryd.prog (appS tIs tIs tIs si.v t.v) h1 fun rv2 h2 => ∃ t2 : Sl, rv2 = t2.v ∧ Vars h2 L ∧ InB s i ∧ Writable h2 (s.at i 1) ∧ Vars (hset h2 (s.at i 1) t2.v) L ∧ ∀ h3, h3 = hset h2 (s.at i 1) t2.v → Vars h3 L → R h3 := by
  have Oi : OwX h (fun k => F k ∧ k < h.size) s xss := O.mono fun k hk hk2 => ⟨hk2, hk⟩
  obtain ⟨sj, c1, c2, _⟩ := Oi.inner h0 h1
  have : sj = si := slv_inj (c1.symm.trans c0)
  subst this
  refine eop_lit rIs (fun k => h.size ≤ k) (fun _ h => h) 1 (by omega) [VI x] rfl rfl fun t h9 n9 c9 o9 f9 m9 _ => ⟨t, rfl, hL.of_no f9, hcell_fr c1 f9 (fun h => h), ?_⟩
  have s9 := f9.size
  have O9 := OwR.no Oi f9
  have c2' : OwI h9 F sj (xss[i.toNat]'(by omega)) := (Ow.no c2 f9).mono fun k _ hk => hk.1
  have on := c2'.rd.len
  have tn := o9.rd.len
  simp only [List.length_map, Nat.mul_one, List.length_cons, List.length_nil] at on tn
  refine eop_append rIs c2' (fun k hk => hF k (by omega)) o9.rd (plainVI [x]) (by omega) fun w h10 n10 o10 f10 d10 => ?_
  have g10 : Fr F h9 h10 := f10.mono fun k _ hk => (c2'.foot hk).1
  have V10 : Vars h10 L := (hL.of_no f9).fr g10 hoff
  have o10' : OwI h10 F w (xss[i.toNat]'(by omega) ++ [x]) := by rw [OwI, List.map_append]; exact o10
  obtain ⟨i11, w11, o11, f11⟩ := O9.outer2 h0 h1 (hcell_fr c1 f9 fun h => h) f10 (F' := F) o10' (fun k _ hk => hk.1) fun k hk => (d10 k hk).imp id fun hk2 hk3 => by have := hk3.2; omega
  have g11 : Fr F h10 _ := (O9.ownF f11).mono fun k _ hk => hk.1
  have V11 := V10.fr g11 hoff
  exact ⟨w, rfl, V10, i11, w11, V11, fun h3 e3 V3 => HR h3 (by rw [e3]; exact o11) (by rw [e3]; exact (f9.of_no.trans g10).trans g11) V3⟩
theorem eop_putF {L : List (Nat × List Value)} {F : Nat → Prop} {m : Nat} {h : Heap} {s x : Sl} {xss : List (List Int)} {ys : List Int} (O : OwX h (fun k => F k ∧ k < m) s xss) (X : OwI h (fun k => m ≤ k) x ys) (hF : ∀ k, m ≤ k → F k) (hm : m ≤ h.size) (hL : Vars h L) (hoff : ∀ p, p ∈ L → ¬ F p.1) (hb : xss.length ≤ 1000000) (R : Sl → Heap → Prop) (HR : ∀ t h', OwX h' F t (xss ++ [ys]) → Fr F h h' → Vars h' L → R t h') : eop Tryd.prog (Instr.buildSlice tIss 1 #[(0, x.v)]) h fun rv h1 => ∃ t : Sl, rv = t.v ∧ Vars h1 L ∧ eop Tryd.prog (appS tIss tIss tIss s.v t.v) h1 fun rv2 h2 => ∃ t2 : Sl, rv2 = t2.v ∧ Vars h2 L ∧ R t2 h2 := by
  refine eop_lit rIss (fun k => h.size ≤ k) (fun _ h => h) 1 (by omega) [x.v] rfl rfl fun t h1 n1 c1 o1 f1 m1 _ => ⟨t, rfl, hL.of_no f1, ?_⟩
  have z1 := f1.size
  refine OwR.snoc rIss (OwR.no O f1) (F' := F) (fun k _ hk => hk.1) (fun k hk => hF k (by omega)) ((Ow.no X f1).mono fun k _ hk => hF k hk) (fun k hk hk2 => by have := (X.foot hk).1; have := hk2.2; omega) o1.rd (by omega) fun y h2 o2 f2 => ?_
  have g2 : Fr F h1 h2 := f2.mono fun k _ hk => hk.1
  have V2 : Vars h2 L := (hL.of_no f1).fr g2 hoff
  exact ⟨y, rfl, V2, HR y h2 o2 (f1.of_no.trans g2) V2⟩
theorem k_drgraph9 {a n b : Nat} {h : Heap} {c : Sl} {i sd : Int} (V : IsVar h b [c.v, VI i, .int .u64 sd]) (hb : a ≤ b) (D : CurD a n h c i) (hn : n ≤ 10000000) (K : Value → Heap → Prop) (HK : ∀ (t : Sl) (gs : List (List Int)) (i' sd' : Int) h', gs.length ≤ 9 → RdR (fun k => h.size ≤ k) h' t gs → IsVar h' b [c.v, VI i', .int .u64 sd'] → CurD a (n + 200) h' c i' → Fr (In [b]) h h' → K (.agg #[t.v]) h') : callM Tryd.prog 117 #[VP b 0] h K := by
  have lb := V.lt
  refine v117 b c i sd h K (.cons V (by simp) .nil) fun b2 h1 hb2 f1 hL1 => ?_
  have f1 := f1.in_nil
  have z1 := f1.size
  have l2 : b2 < h1.size := hL1.head.lt
  have fin : ∀ (h' : Heap), Fr (fun k => k = b ∨ h.size ≤ k) h h' → Fr (In [b]) h h' := fun h' f => f.mono fun k hk hk2 => by
    rcases hk2 with e | e
    · simp [In, e]
    · omega
  have inb : ∀ {x y : Heap}, Fr (In [b]) x y → Fr (fun k => k = b ∨ h.size ≤ k) x y := fun f => f.mono fun k _ hk => .inl (by simpa [In] using hk)
  refine k_sureGraph hL1.tail.head hb (D.no f1) (by omega) (most := 6) (by omega) (by omega) _ fun t xss i2 sd2 h2 o2 g2 n1 n2 V2 D2 f2 => ⟨c, i2, sd2, t, rfl, vcur hL1 1 rfl f2 V2, fun b3 h4 hb3 f4 hL4 => ?_⟩
  have f4 := f4.in_nil
  have z2 := f2.size
  have z4 := f4.size
  have l3 : b3 < h4.size := hL4.head.lt
  have tn := OwR.len o2
  generalize hF : (fun k => (h1.size ≤ k ∧ k < h2.size) ∨ h4.size ≤ k) = F
  have F1 : ∀ k, F k → h1.size ≤ k := fun k hk => by rw [← hF] at hk; rcases hk with a | a <;> omega
  have F2 : ∀ k, h4.size ≤ k → F k := fun k hk => by rw [← hF]; exact .inr hk
  have F3 : ¬ F b3 := fun hk => by rw [← hF] at hk; rcases hk with a | a <;> omega
  have o4 : OwX h4 F t xss := (OwR.no o2 f4).mono fun k hk hk2 => by rw [← hF]; exact .inl hk2
  have f04 : Fr (fun k => k = b ∨ h.size ≤ k) h h4 := (f1.of_no.trans (inb f2)).trans f4.of_no
  have gb : ∀ {X Y : Heap} {w : Sl} {zs : List (List Int)}, OwX X F w zs → Fr (In [b]) X Y → OwX Y F w zs := fun O f => OwR.fr O f fun k hk hk2 hk3 => by simp [In] at hk3; have := F1 _ hk2; omega
  have fT : ∀ {x y : Heap}, Fr F x y → Fr (fun k => k = b ∨ h.size ≤ k) x y := fun f => f.mono fun k _ hk => .inr (by have := F1 _ hk; omega)
  have hoff : ∀ (A B C : List Value) (q : Nat × List Value), q ∈ [(b3, A), (b2, B), (b, C)] → ¬ F q.1 := fun A B C q hq => by
    simp only [List.mem_cons, List.not_mem_nil, or_false] at hq
    rcases hq with rfl | rfl | rfl
    · exact F3
    · exact fun hk => by have := F1 _ hk; omega
    · exact fun hk => by have := F1 _ hk; omega
  have out : ∀ (w : Sl) (zs : List (List Int)) (i' sd' : Int) (X Y : Heap), OwX X F w zs → zs.length ≤ 9 → CurD a (n + 200) X c i' → Fr (fun k => k = b ∨ h.size ≤ k) h X → Fr (In [b2]) X Y → IsVar Y b [c.v, VI i', .int .u64 sd'] → K (.agg #[w.v]) Y := fun w zs i' sd' X Y O zl DD ff f VV => by
    have OY : OwX Y F w zs := OwR.fr O f fun k hk hk2 hk3 => by simp [In] at hk3; subst hk3; have := F1 _ hk2; omega
    exact HK w zs i' sd' Y zl ((OwR.rd OY).mono fun k hk => by have := F1 _ hk.1; omega) VV (DD.fr f fun k hk hk2 => by simp [In] at hk2; omega) (fin _ (ff.trans (f.mono fun k _ hk => .inr (by simp [In] at hk; omega))))
  refine k_pick hL4.tail.tail.head hb (D2.no f4) (by omega) 16 _ fun s i5 sd5 h5 s0 s1 V5 D5 f5 => ⟨c, i5, sd5, s, rfl, vcur hL4 2 rfl f5 V5, fun _ => ?_, fun _ => ⟨fun _ => ?_, fun _ => ⟨fun _ => ?_, fun _ => ⟨fun _ h24 f24 hL24 => ?_, fun _ h25 f25 hL25 => ?_⟩⟩⟩⟩
  · have o5 := gb o4 f5
    have z5 := f5.size
    have hL5 : Vars h5 [(b3, [t.v]), (b2, [nilSl.v]), (b, [c.v, VI i5, .int .u64 sd5])] := vcur hL4 2 rfl f5 V5
    have hp : (0 : Int) < (xss.length : Int) := by omega
    obtain ⟨si, c1, c2, _⟩ := OwR.inner o5 (Int.le_refl 0) hp
    have r5 := OwR.rd o5
    refine ⟨r5.inb (Int.le_refl 0) hp, si, c1, ?_⟩
    refine eop_lit rIs (fun k => h5.size ≤ k) (fun _ h => h) 3 (by omega) [VI (-1), VI (t.n : Int), VI 4611686018427387904] rfl rfl fun w h6 n6 c6 o6 f6 m6 _ => ⟨w, rfl, hL5.of_no f6, hcell_fr c1 f6 (fun h => h), ?_⟩
    have z6 := f6.size
    have r6 : RdI (fun k => h5.size ≤ k) h6 w [-1, (t.n : Int), 4611686018427387904] := o6.rdF
    refine k_among (hL5.of_no f6).tail.tail.head hb (D5.no f6) (by omega) r6 (by omega) (by simp) _ fun v i7 sd7 h7 hv V7 D7 f7 => ⟨c, i7, sd7, v, rfl, vcur (hL5.of_no f6) 2 rfl f7 V7, ?_⟩
    have z7 := f7.size
    have hL7 : Vars h7 [(b3, [t.v]), (b2, [nilSl.v]), (b, [c.v, VI i7, .int .u64 sd7])] := vcur (hL5.of_no f6) 2 rfl f7 V7
    have c7 : hcell h7 (t.at 0 1) = some si.v := cell_keep (r5.no f6) (Int.le_refl 0) hp f7 (fun k hk hk2 => by simp [In] at hk2; have := F1 _ hk.1; omega) (hcell_fr c1 f6 fun h => h)
    have g0 := (g2 _ (List.getElem_mem (show (0 : Int).toNat < xss.length by omega))).1
    refine ⟨c7, row_putF (gb (OwR.no o5 f6) f7) (fun k hk => F2 k (by omega)) (Int.le_refl 0) hp c7 hL7 (fun q hq => hoff _ _ _ q hq) (by omega) v _ fun h10 o10 f10 V10 h11 f11 hL11 => ?_⟩
    exact out t _ i7 sd7 h10 h11 o10 (by simp; omega) ((D7.fr f10 fun k hk hk2 => by have := F1 _ hk2; omega).up (by omega)) ((((f04.trans (inb f5)).trans f6.of_no).trans (inb f7)).trans (fT f10)) f11 hL11.tail.tail.head
  · have o5 := gb o4 f5
    have z5 := f5.size
    have hL5 : Vars h5 [(b3, [t.v]), (b2, [nilSl.v]), (b, [c.v, VI i5, .int .u64 sd5])] := vcur hL4 2 rfl f5 V5
    have hp : (0 : Int) < (xss.length : Int) := by omega
    refine k_pick hL5.tail.tail.head hb D5 (by omega) 2 _ fun y i6 sd6 h6 y0 y1 V6 D6 f6 => ⟨c, i6, sd6, y, rfl, vcur hL5 2 rfl f6 V6, ?_⟩
    have y1 := y1 (by omega)
    have z6 := f6.size
    have hL6 : Vars h6 [(b3, [t.v]), (b2, [nilSl.v]), (b, [c.v, VI i6, .int .u64 sd6])] := vcur hL5 2 rfl f6 V6
    rw [w64_eq (5 + y) (by omega) (by omega)]
    have ey : 5 + y = (((5 + y).toNat : Nat) : Int) := by omega
    rw [ey]
    refine eop_make rIs (fun k => h6.size ≤ k) (fun _ h => h) .i64 .i64 (5 + y).toNat (5 + y).toNat (Nat.le_refl _) (by omega) fun w h7 n7 c7 o7 f7 m7 _ => ⟨w, rfl, hL6.of_no f7, ?_⟩
    have z7 := f7.size
    have o7' : OwI h7 (fun k => h6.size ≤ k) w (List.replicate (5 + y).toNat 0) := by
      have e : (List.replicate (5 + y).toNat [VI 0]).flatten = (List.replicate (5 + y).toNat (0 : Int)).map VI := by simp [List.flatten_replicate_singleton]
      rw [e] at o7; exact o7
    have o6i : OwX h6 (fun k => F k ∧ k < h6.size) t xss := (gb o5 f6).mono fun k hk hk2 => ⟨hk2, hk⟩
    exact row_set (m := h6.size) (OwR.no o6i f7) o7' (fun k hk => F2 k (by omega)) (Int.le_refl 0) hp (hL6.of_no f7) (fun q hq => hoff _ _ _ q hq) _ fun h10 o10 f10 V10 h11 f11 hL11 => out t _ i6 sd6 h10 h11 o10 (by simp; omega) (((D6.no f7).fr f10 fun k hk hk2 => by have := F1 _ hk2; omega).up (by omega)) ((((f04.trans (inb f5)).trans (inb f6)).trans f7.of_no).trans (fT f10)) f11 hL11.tail.tail.head
  · have o5 := gb o4 f5
    have z5 := f5.size
    refine ⟨fun m x d i' sd' h' => d = c ∧ CurD a (n + 104 + 4 * (9 - m)) h' c i' ∧ m ≤ 9 ∧ (∃ zs, OwX h' F x zs ∧ zs.length + m = 9) ∧ Fr (fun k => k = b ∨ h.size ≤ k) h h' ∧ h4.size ≤ h'.size, ⟨9 - xss.length, rfl, D5.up (by omega), by omega, ⟨xss, o5, by omega⟩, f04.trans (inb f5), by omega⟩, ?_⟩
    rintro m x d i16 sd16 h16 ⟨rfl, D16, m9, ⟨zs, o16, e16⟩, f16, z16⟩ hL16
    have xn := OwR.len o16
    refine k_pick hL16.tail.tail.head hb D16 (by omega) 2 _ fun y i17 sd17 h17 y0 y1 V17 D17 f17 => ⟨d, i17, sd17, y, rfl, vcur hL16 2 rfl f17 V17, fun e => ?_, fun e h22 f22 hL22 => ?_⟩
    · have y1 := y1 (by omega)
      have z17 := f17.size
      rw [w64_eq (8 + y) (by omega) (by omega)] at e
      simp only [decide_eq_true_eq] at e
      have hL17 : Vars h17 [(b3, [x.v]), (b2, [nilSl.v]), (b, [d.v, VI i17, .int .u64 sd17])] := vcur hL16 2 rfl f17 V17
      refine eop_lit rIs (fun k => h17.size ≤ k) (fun _ h => h) 1 (by omega) [VI 0] rfl rfl fun w h18 n18 c18 o18 f18 m18 _ => ⟨w, rfl, hL17.of_no f18, ?_⟩
      have z18 := f18.size
      have o17i : OwX h17 (fun k => F k ∧ k < h17.size) x zs := (gb o16 f17).mono fun k hk hk2 => ⟨hk2, hk⟩
      refine eop_putF (m := h17.size) (xss := zs) (ys := [0]) (OwR.no o17i f18) o18 (fun k hk => F2 k (by omega)) z18 (hL17.of_no f18) (fun q hq => hoff _ _ _ q hq) (by omega) _ fun u h20 o20 f20 V20 h21 f21 hL21 => ?_
      have z20 := f20.size
      have z21 := f21.size
      have o21 : OwX h21 F u (zs ++ [[0]]) := OwR.fr o20 f21 fun k hk hk2 hk3 => by simp [In] at hk3; subst hk3; exact F3 hk2
      refine ⟨m - 1, by omega, rfl, ?_, by omega, ⟨_, o21, by simp; omega⟩, ?_, by omega⟩
      · exact (((D17.no f18).fr f20 fun k hk hk2 => by have := F1 _ hk2; omega).fr f21 fun k hk hk2 => by simp [In] at hk2; omega).up (by omega)
      · exact (((f16.trans (inb f17)).trans f18.of_no).trans (fT f20)).trans (f21.mono fun k _ hk => .inr (by simp [In] at hk; omega))
    · exact out x zs i17 sd17 h17 h22 (gb o16 f17) (by omega) (D17.up (by omega)) (f16.trans (inb f17)) f22 hL22.tail.tail.head
  · have g24 : Fr (fun k => k = b ∨ h.size ≤ k) h5 h24 := f24.mono fun k _ hk => .inr (by simp [In] at hk; omega)
    exact HK nilSl [] i5 sd5 h24 (by simp) ⟨[], rfl, RdV.nil _ _ _, fun i h1 => by simp at h1⟩ hL24.tail.tail.head ((D5.fr f24 fun k hk hk2 => by simp [In] at hk2; omega).up (by omega)) (fin _ ((f04.trans (inb f5)).trans g24))
  · exact out t xss i5 sd5 h5 h25 (gb o4 f5) (by omega) (D5.up (by omega)) (f04.trans (inb f5)) f25 hL25.tail.tail.head
theorem k_wSame {S S' : Nat → Prop} {h : Heap} {a b : Sl} {xs ys : List Int} (H : RdI S h a xs) (H' : RdI S' h b ys) (K : Value → Heap → Prop) (HK : K (VB (decide (xs = ys))) h) : callM Tryd.prog 31 #[a.v, b.v] h K := by
  refine v31 a b h K ⟨fun e => ?_, fun e => ?_⟩
  · have e1 := not_t e
    rw [H.len, H'.len] at e1
    have : ¬ xs = ys := fun e2 => by subst e2; simp at e1
    rw [decide_eq_false this] at HK
    exact HK
  · have e1 := not_f e
    rw [H.len, H'.len] at e1
    have hl : xs.length = ys.length := by simp at e1; omega
    refine ⟨fun n i h' => h' = h ∧ 0 ≤ i ∧ i + n = (xs.length : Int) ∧ decide (xs = ys) = decide (xs.drop i.toNat = ys.drop i.toNat), ⟨xs.length, rfl, by omega, by omega, by simp⟩, ?_⟩
    rintro n i hh ⟨rfl, h0, h1, h2⟩ hL
    refine ⟨fun e => ?_, fun e => ?_⟩
    · have hi := H.lt e
      have hi' : i < (ys.length : Int) := by omega
      refine ⟨H.inb h0 hi, _, H.get h0 hi, H'.inb h0 hi', _, H'.get h0 hi', fun e => ?_, fun e => ?_⟩
      · rw [drop_cons xs h0 hi, drop_cons ys h0 hi'] at h2
        have e3 := not_t e
        simp only [decide_eq_false_iff_not] at e3
        rw [h2, decide_eq_false (fun e4 => e3 (List.cons.inj e4).1)] at HK
        exact HK
      · rw [drop_cons xs h0 hi, drop_cons ys h0 hi'] at h2
        have e3 := not_f e
        simp only [decide_eq_true_eq] at e3
        rw [H.succ h0 hi]
        refine ⟨n - 1, by omega, rfl, by omega, by omega, h2.trans ?_⟩
        rw [e3]
        simp
    · have hi := H.ge e
      rw [List.drop_of_length_le (by omega), List.drop_of_length_le (by omega)] at h2
      rw [h2] at HK
      exact HK
theorem k_wRows {S S' : Nat → Prop} {h : Heap} {a b : Sl} {xs ys : List (List Int)} (H : RdR S h a xs) (H' : RdR S' h b ys) (he : xs = ys) (K : Value → Heap → Prop) (HK : K (VB true) h) : callM Tryd.prog 30 #[a.v, b.v] h K := by
  subst he
  refine v30 a b h K ⟨fun e => ?_, fun e => ?_⟩
  · have e1 := not_t e
    rw [H.len, H'.len] at e1
    simp at e1
  · refine ⟨fun n i h' => h = h' ∧ 0 ≤ i ∧ i + n = (xs.length : Int), ⟨xs.length, rfl, by omega, by omega⟩, ?_⟩
    rintro n i hh ⟨rfl, h0, h1⟩ hL
    refine ⟨fun e => ?_, fun e => HK⟩
    have hi := H.lt e
    obtain ⟨si, c1, r1⟩ := H.get h0 hi
    obtain ⟨sj, c2, r2⟩ := H'.get h0 hi
    refine ⟨H.inb h0 hi, si, c1, H'.inb h0 hi, sj, c2, k_wSame r1 r2 _ ⟨_, rfl, .nil, fun e => by simp at e, fun _ => ?_⟩⟩
    rw [H.succ h0 hi]
    exact ⟨n - 1, by omega, rfl, by omega, by omega⟩
@[reducible] def tSs : TypeId := 79
theorem rSs : rowC Tryd.prog tSs = some (9, 1, 16, [VS (⟨#[]⟩ : ByteArray)]) := by kernel_rfl
theorem plainVS (xs : List ByteArray) : (xs.map VS).all plainV = true := by simp [List.all_eq_true, plainV]
@[reducible] def OwS (h : Heap) (F : Nat → Prop) (s : Sl) (xs : List ByteArray) : Prop := Ow h F 9 1 s (xs.map VS)
theorem mk_add (g o j : Nat) : (⟨g, o, none⟩ : Addr).add j = ⟨g, o + j, none⟩ := by
  unfold Addr.add
  by_cases h : j = 0 <;> simp [h]
theorem cell_hc (w : World) (a : Addr) : w.cell? a = hcell w.heap a := rfl
theorem ba_app (a b : List UInt8) : ((⟨a.toArray⟩ : ByteArray) ++ (⟨b.toArray⟩ : ByteArray)) = ⟨(a ++ b).toArray⟩ := by
  apply ByteArray.ext
  simp [ByteArray.data_append]
theorem ba_size (a : List UInt8) : (⟨a.toArray⟩ : ByteArray).size = a.length := by simp [ByteArray.size]
theorem dec_len {n : Nat} (h : n < 100) : (Lib.decDigits n).length ≤ 2 := by
  by_cases h1 : n < 10
  · rw [Lib.decDigits_one h1]; simp
  · rw [Lib.decDigits_two h1 h]; simp
theorem join_len : ∀ (xs : List (List UInt8)), (∀ x, x ∈ xs → x.length ≤ 2) → (Lib.join xs [44]).length ≤ 3 * xs.length
  | [], _ => by simp [Lib.join_nil]
  | x :: r, h => by
    rw [Lib.join_length]
    have : ∀ (l : List (List UInt8)), (∀ x, x ∈ l → x.length ≤ 2) → Lib.lens l ≤ 2 * l.length := by
      intro l
      induction l with
      | nil => intro _; simp [Lib.lens]
      | cons a l ih =>
        intro hl
        have h1 := ih fun y hy => hl y (List.mem_cons_of_mem _ hy)
        have h2 := hl a (List.mem_cons_self ..)
        simp only [Lib.lens, List.map_cons, List.sum_cons, List.length_cons] at h1 ⊢
        omega
    have := this _ h
    simp only [List.length_cons, List.length_nil] at this ⊢
    omega
def listL (rs : List Int) : List UInt8 := if rs.length = 0 then [45] else Lib.join (rs.map fun x => Lib.decDigits x.toNat) [44]
theorem listL_len {rs : List Int} (h : ∀ x, x ∈ rs → 0 ≤ x ∧ x < 100) : (listL rs).length ≤ 3 * rs.length + 1 := by
  unfold listL
  split
  · simp
  · have := join_len (rs.map fun x => Lib.decDigits x.toNat) fun y hy => by
      obtain ⟨x, hx, rfl⟩ := List.mem_map.1 hy
      exact dec_len (by have := h x hx; omega)
    rw [List.length_map] at this
    omega
theorem k_Itoa {h : Heap} {n : Int} (h0 : 0 ≤ n) (h1 : n < 100) (K : Value → Heap → Prop) (HK : K (VS ⟨(Lib.decDigits n.toNat).toArray⟩) h) : callM Tryd.prog 96 #[VI n] h K := by
  obtain ⟨i, rfl⟩ : ∃ i : Nat, n = (i : Int) := ⟨n.toNat, by omega⟩
  refine ⟨fun w hw => .inr ⟨96, _, w, Go.Proofs.enters_of Tryd.func96 (by kernel_rfl) rfl _ _, rfl, ?_⟩⟩
  subst hw
  refine (Tryd.strconv_Itoa_small i (by omega) w).mono ?_
  rintro e w' ⟨rfl, rfl⟩
  rw [Int.toNat_natCast] at HK
  exact ⟨_, rfl, Same.refl _, HK⟩
theorem k_Join {S : Nat → Prop} {h : Heap} {s : Sl} {ts : List ByteArray} {sep : ByteArray} (H : RdV S h 1 s (ts.map VS)) (hne : ts ≠ []) (hN : ts.length ≤ 1000000) (hl : (Lib.join (ts.map (·.data.toList)) sep.data.toList).length ≤ 1000000) (K : Value → Heap → Prop) (HK : ∀ h', Fr No h h' → K (VS ⟨(Lib.join (ts.map (·.data.toList)) sep.data.toList).toArray⟩) h') : callM Tryd.prog 59 #[s.v, VS sep] h K := by
  refine ⟨fun w hw => .inr ⟨59, _, w, Go.Proofs.enters_of Tryd.func59 (by kernel_rfl) rfl _ _, rfl, ?_⟩⟩
  subst hw
  have hlen := H.len
  simp only [List.length_map, Nat.mul_one] at hlen
  have hcap := H.cap
  have hpos : 0 < ts.length := List.length_pos_iff.2 hne
  obtain ⟨a, ha, _, hc⟩ := RdV.cell H 0 (by simpa using hpos)
  have hsp : a.spot = none := by
    cases hs : a.spot with
    | none => rfl
    | some sp => exfalso; unfold hcell at hc; simp [Addr.add, hs] at hc; split at hc <;> simp at hc
  obtain ⟨g, o, q⟩ := a
  simp only at hsp
  subst hsp
  have hv : s.v = .slice (some ⟨g, o, none⟩) ts.length s.c := by unfold Sl.v; rw [ha, hlen]
  rw [hv]
  refine (Tryd.strings_Join g o s.c ts sep w (fun j x hj => ?_) ?_ (by omega) (by omega) (by omega)).mono ?_
  · have hj2 : j < ts.length := (List.getElem?_eq_some_iff.1 hj).1
    obtain ⟨a', ha', _, hc'⟩ := RdV.cell H j (by simp; omega)
    rw [ha] at ha'
    cases ha'
    rw [mk_add] at hc'
    rw [cell_hc, hc']
    rw [List.getElem?_eq_getElem hj2] at hj
    simp only [Option.some.injEq] at hj
    simp [hj]
  · have := hcell_lt hc; rw [add_block] at this; exact this
  · rintro e w' ⟨rfl, hb⟩
    exact ⟨_, rfl, ⟨hb.os, hb.tape, hb.output⟩, HK _ ⟨hb.size, fun k hk _ => hb.block k hk⟩⟩
theorem eop_putS {L : List (Nat × List Value)} {F : Nat → Prop} {h : Heap} {o : Sl} {xs : List ByteArray} {x : ByteArray} (O : OwS h F o xs) (hF : ∀ k, h.size ≤ k → F k) (hL : Vars h L) (hoff : ∀ p, p ∈ L → ¬ F p.1) (hb : xs.length ≤ 1000000) (R : Sl → Heap → Prop) (HR : ∀ t h', OwS h' F t (xs ++ [x]) → Fr F h h' → Vars h' L → R t h') : eop Tryd.prog (Instr.buildSlice tSs 1 #[(0, VS x)]) h fun rv h1 => ∃ t : Sl, rv = t.v ∧ Vars h1 L ∧ eop Tryd.prog (appS tSs tSs tSs o.v t.v) h1 fun rv2 h2 => ∃ t2 : Sl, rv2 = t2.v ∧ Vars h2 L ∧ R t2 h2 := by
  refine eop_lit rSs (fun k => h.size ≤ k) (fun _ h => h) 1 (by omega) [VS x] rfl rfl fun t h1 n1 c1 o1 f1 m1 _ => ⟨t, rfl, hL.of_no f1, ?_⟩
  have z1 := f1.size
  have O1 : OwS h1 F o xs := Ow.no O f1
  have on := O1.rd.len
  have tn := o1.rd.len
  simp only [List.length_map, Nat.mul_one, List.length_cons, List.length_nil] at on tn
  refine eop_append rSs O1 (fun k hk => hF k (by omega)) o1.rd (plainVS [x]) (by omega) fun s' h2 n2 o2 f2 d2 => ?_
  have g2 : Fr F h1 h2 := f2.mono fun k _ hk => (O1.foot hk).1
  have V2 : Vars h2 L := (hL.of_no f1).fr g2 hoff
  exact ⟨s', rfl, V2, HR s' h2 (by rw [OwS, List.map_append]; exact o2) (f1.of_no.trans g2) V2⟩
theorem k_listText {S : Nat → Prop} {h : Heap} {s : Sl} {rs : List Int} (H : RdI S h s rs) (B : ∀ x, x ∈ rs → 0 ≤ x ∧ x < 100) (hn : rs.length ≤ 1000) (K : Value → Heap → Prop) (HK : ∀ h', Fr No h h' → K (VS ⟨(listL rs).toArray⟩) h') : callM Tryd.prog 58 #[s.v] h K := by
  have sn := RdI.len H
  refine v58 s h K ⟨fun e => ?_, fun e => ?_⟩
  · simp only [decide_eq_true_eq] at e
    have := HK h (Fr.refl _ _)
    unfold listL at this
    rw [if_pos (by omega)] at this
    exact this
  simp only [decide_eq_false_iff_not] at e
  refine eop_lit rSs (fun k => h.size ≤ k) (fun _ h => h) 0 (by omega) [] rfl rfl fun o h1 n1 c1 o1 f1 m1 _ => ⟨o, rfl, .nil, ?_⟩
  have z1 := f1.size
  have o1' : OwS h1 (fun k => h.size ≤ k) o [] := o1
  have no_ : ∀ {x : Heap}, Fr (fun k => h.size ≤ k) h x → Fr No h x := fun f => f.mono fun k hk hk2 => absurd hk2 (by omega)
  refine ⟨fun m x p h' => 0 ≤ p ∧ p + m = (rs.length : Int) ∧ OwS h' (fun k => h.size ≤ k) x ((rs.take p.toNat).map fun y => (⟨(Lib.decDigits y.toNat).toArray⟩ : ByteArray)) ∧ Fr (fun k => h.size ≤ k) h h', ⟨rs.length, by omega, by omega, by simpa using o1', f1.of_no⟩, ?_⟩
  rintro m x p h2 ⟨p0, p1, o2, f2⟩ hL2
  have z2 := f2.size
  have H2 := H.no (no_ f2)
  refine ⟨fun e2 => ?_, fun e2 => ?_⟩
  · have hp := H2.lt e2
    have bx := B _ (List.getElem_mem (show p.toNat < rs.length by omega))
    refine ⟨H2.inb p0 hp, _, H2.get p0 hp, k_Itoa bx.1 bx.2 _ ⟨_, rfl, .nil, ?_⟩⟩
    refine eop_putS o2 (fun k hk => by omega) .nil (fun q hq => by cases hq) (by simp; omega) _ fun t h5 o5 f5 _ => ?_
    rw [H2.succ p0 hp]
    refine ⟨m - 1, by omega, by omega, by omega, ?_, f2.trans f5⟩
    rw [show (p + 1).toNat = p.toNat + 1 by omega, List.take_add_one, List.getElem?_eq_getElem (show p.toNat < rs.length by omega)]
    rw [List.map_append]
    exact o5
  · have hp := H2.ge e2
    rw [List.take_of_length_le (by omega)] at o2
    have hm : ((rs.map fun y => (⟨(Lib.decDigits y.toNat).toArray⟩ : ByteArray)).map (·.data.toList)) = rs.map fun y => Lib.decDigits y.toNat := by simp
    have hjl := join_len (rs.map fun x => Lib.decDigits x.toNat) fun y hy => by
      obtain ⟨x, hx, rfl⟩ := List.mem_map.1 hy
      exact dec_len (by have := B x hx; omega)
    rw [List.length_map] at hjl
    refine k_Join o2.rdF (fun hh => by have := congrArg List.length hh; simp at this; simp [this] at sn; omega) (by simp; omega) (by rw [hm]; show (Lib.join _ [44]).length ≤ _; omega) _ fun h3 f3 => ⟨_, rfl, .nil, ?_⟩
    have := HK h3 ((no_ f2).trans f3)
    unfold listL at this
    rw [if_neg (by omega)] at this
    rw [hm]
    exact this
def MapAt (h : Heap) (b : Nat) (kvs : List (ByteArray × Int)) : Prop := ∃ (es : Array MapEntry) (clock : Nat), h[b]? = some (.map es clock) ∧ es.toList.map (fun e => (e.key, e.val)) = kvs.map fun q => (VS q.1, VI q.2)
theorem MapAt.lt {h : Heap} {b : Nat} {kvs : List (ByteArray × Int)} (M : MapAt h b kvs) : b < h.size := by
  obtain ⟨es, c, hb, _⟩ := M
  exact (Array.getElem?_eq_some_iff.1 hb).1
theorem MapAt.fr {h h' : Heap} {b : Nat} {kvs : List (ByteArray × Int)} {T : Nat → Prop} (M : MapAt h b kvs) (f : Fr T h h') (hT : ¬ T b) : MapAt h' b kvs := by
  have hl := M.lt
  obtain ⟨es, c, hb, e⟩ := M
  exact ⟨es, c, by rw [f.same b hl hT]; exact hb, e⟩
def walkL (s : St) : List UInt8 := Lib.decDigits s.2.toNat ++ [58] ++ listL s.1
def keyS (s : St) : ByteArray := ⟨(walkL s).toArray⟩
theorem k_walkText {S : Nat → Prop} {h : Heap} {w : Sl} {rs : List Int} {p : Int} (H : RdI S h w rs) (B : ∀ x, x ∈ rs → 0 ≤ x ∧ x < 100) (hn : rs.length ≤ 1000) (p0 : 0 ≤ p) (p1 : p < 100) (K : Value → Heap → Prop) (HK : ∀ h', Fr No h h' → K (VS (keyS (rs, p))) h') : callM Tryd.prog 82 #[.agg #[w.v, VI p]] h K := by
  refine v82 w p h K fun b1 h1 hb1 f1 hL1 => ?_
  have f1 := f1.in_nil
  have d1 := dec_len (show p.toNat < 100 by omega)
  have l1 := listL_len B
  refine k_Itoa p0 p1 _ ⟨_, rfl, hL1, ?_, ?_⟩
  · rw [ba_size]; show _ + 1 ≤ _; omega
  refine k_listText (H.no f1) B hn _ fun h3 f3 => ⟨_, rfl, hL1.of_no f3, ?_, ?_⟩
  · rw [show (⟨#[58]⟩ : ByteArray) = ⟨[58].toArray⟩ from rfl, ba_app, ba_size, ba_size, List.length_append]
    show _ + 1 + _ ≤ _
    omega
  · rw [show (⟨#[58]⟩ : ByteArray) = ⟨[58].toArray⟩ from rfl, ba_app, ba_app]
    exact HK h3 (f1.trans f3)
theorem rBs8 : rowC Tryd.prog 48 = some (5, 1, 1, [.int .u8 0]) := by kernel_rfl
theorem rop_str1 {F : Nat → Prop} {h : Heap} {s : Sl} {x : Int} {bs : List UInt8} (H : RdV F h 1 s [Value.int .u8 x]) (hb : (strOfNums [x]) = ⟨bs.toArray⟩) {K : Value → Prop} (HK : K (VS ⟨bs.toArray⟩)) : rop Tryd.prog (convert 48 9 s.v) h K := by
  have hlen := H.len
  simp only [List.length_cons, List.length_nil, Nat.mul_one] at hlen
  obtain ⟨a, ha, _, hc⟩ := RdV.cell H 0 (by simp)
  have hsp : a.spot = none := by
    cases hs : a.spot with
    | none => rfl
    | some sp => exfalso; unfold hcell at hc; simp [Addr.add, hs] at hc; split at hc <;> simp at hc
  obtain ⟨g, o, q⟩ := a
  simp only at hsp
  subst hsp
  have hv : s.v = .slice (some ⟨g, o, none⟩) 1 s.c := by unfold Sl.v; rw [ha, ← hlen]
  refine ⟨_, fun w hw => ?_, HK⟩
  subst hw
  rw [hv, run_convert_bytes_arg w 48 5 (by kernel_rfl) (by kernel_rfl) g o 1 s.c [x] rfl (fun i hi => by
    have : i = 0 := by omega
    subst this
    rw [mk_add] at hc
    rw [cell_hc, hc]
    rfl) 9 (by kernel_rfl), hb]
theorem k_l1Num {h : Heap} {n : Int} (h0 : 0 ≤ n) (h1 : n < 10) (K : Value → Heap → Prop) (HK : ∀ h', Fr No h h' → K (VS ⟨(Lib.decDigits n.toNat).toArray⟩) h') : callM Tryd.prog 53 #[VI n] h K := by
  refine v53 n h K ⟨fun e => ?_, fun e => ?_⟩
  · rw [w64_eq _ (by omega) (by omega)]
    refine rop_conv (show Tryd.prog.underlying _ = some (.int .i64) from by kernel_rfl) (show Tryd.prog.underlying _ = some (.int .u8) from by kernel_rfl) (48 + n) ⟨48 + n, ?_, ?_⟩
    · show Value.int .u8 (IntKind.u8.wrap (48 + n)) = _
      have : IntKind.u8.wrap (48 + n) = 48 + n := by
        show (48 + n) % 256 = 48 + n
        omega
      rw [this]
    refine eop_lit rBs8 (fun k => h.size ≤ k) (fun _ h => h) 1 (by omega) [.int .u8 (48 + n)] rfl rfl fun w h6 n6 c6 o6 f6 m6 _ => ⟨w, rfl, .nil, ?_⟩
    refine rop_str1 (bs := Lib.decDigits n.toNat) o6.rdF ?_ ⟨_, rfl, HK h6 f6⟩
    rw [Lib.decDigits_one (show n.toNat < 10 by omega)]
    apply ByteArray.ext
    apply Array.toList_inj.1
    rw [strOfNums_data]
    simp only [List.map_cons, List.map_nil, List.cons.injEq, and_true]
    have : (48 + n).toNat = 48 + n.toNat := by omega
    rw [this]
  · simp only [decide_eq_false_iff_not] at e
    omega
theorem join_snoc (xs : List (List UInt8)) (y sep : List UInt8) : Lib.join (xs ++ [y]) sep = Lib.join xs sep ++ (if xs.length = 0 then [] else sep) ++ y := by
  cases xs with
  | nil => simp [Lib.join_nil, Lib.join_one]
  | cons x r =>
    rw [List.cons_append, Lib.join_cons, Lib.join_cons]
    simp [Lib.joinTail]
theorem join_take {α : Type} (f : α → List UInt8) (sep : List UInt8) {xs : List α} {i : Nat} (hi : i < xs.length) : Lib.join ((xs.take (i + 1)).map f) sep = Lib.join ((xs.take i).map f) sep ++ (if i = 0 then [] else sep) ++ f xs[i] := by
  rw [List.take_add_one, List.getElem?_eq_getElem hi, Option.toList_some, List.map_append, List.map_cons, List.map_nil, join_snoc]
  congr 2
  simp only [List.length_map, List.length_take]
  by_cases h : i = 0
  · simp [h]
  · rw [if_neg h, if_neg (by omega)]
theorem any_take_succ {α : Type} {f : α → Bool} {xs : List α} {i : Nat} (hi : i < xs.length) : (xs.take (i + 1)).any f = ((xs.take i).any f || f xs[i]) := by
  rw [List.take_add_one, List.getElem?_eq_getElem hi, Option.toList_some, List.any_append]
  simp
theorem k_drwalk {a n b : Nat} {h : Heap} {c : Sl} {i sd : Int} (V : IsVar h b [c.v, VI i, .int .u64 sd]) (hb : a ≤ b) (D : CurD a n h c i) (hn : n ≤ 100000) (K : Value → Heap → Prop) (HK : ∀ (t w : Sl) (gs : List (List Int)) (rs : List Int) (p i' sd' : Int) h', gs.length ≤ 9 → RdR (fun k => h.size ≤ k) h' t gs → RdI (fun k => h.size ≤ k) h' w rs → IsVar h' b [c.v, VI i', .int .u64 sd'] → CurD a (n + 300) h' c i' → Fr (In [b]) h h' → K (.tuple #[.agg #[t.v], .agg #[w.v, VI p]]) h') : callM Tryd.prog 103 #[VP b 0] h K := by
  have lb := V.lt
  refine v103 b c i sd h K (.cons V (by simp) .nil) fun b2 b3 h2 hb2 hb3 f2 hL2 => ?_
  have f2 := f2.in_nil
  have z2 := f2.size
  have l3 : b3 < h2.size := hL2.head.lt
  have l2 : b2 < h2.size := hL2.tail.head.lt
  have fin : ∀ (h' : Heap), Fr (fun k => k = b ∨ h.size ≤ k) h h' → Fr (In [b]) h h' := fun h' f => f.mono fun k hk hk2 => by
    rcases hk2 with e | e
    · simp [In, e]
    · omega
  have inb : ∀ {x y : Heap}, Fr (In [b]) x y → Fr (fun k => k = b ∨ h.size ≤ k) x y := fun f => f.mono fun k _ hk => .inl (by simpa [In] using hk)
  refine k_drgraph9 hL2.tail.tail.head hb (D.no f2) (by omega) _ fun t gs i3 sd3 h3 gl G3 V3 D3 f3 => ⟨c, i3, sd3, t, rfl, vcur hL2 2 rfl f3 V3, fun b4 h5 hb4 f5 hL5 => ?_⟩
  have f5 := f5.in_nil
  have z3 := f3.size
  have z5 := f5.size
  have l4 : b4 < h5.size := hL5.head.lt
  have G5 : RdR (fun k => h2.size ≤ k ∧ k < h3.size) h5 t gs := G3.lowS.no f5
  have f05 : Fr (fun k => k = b ∨ h.size ≤ k) h h5 := (f2.of_no.trans (inb f3)).trans f5.of_no
  refine k_spec_grGood G5 _ fun h6 f6 => ⟨_, rfl, hL5.of_no f6, fun e h8 f8 hL8 => ?_, fun e => ?_⟩
  · have z6 := f6.size
    have off : ∀ k, (h2.size ≤ k ∧ k < h3.size) → ¬ In [b3, b2] k := fun k hk hk2 => by
      simp only [In, List.mem_cons, List.not_mem_nil, or_false] at hk2
      omega
    exact HK t nilSl gs [] 0 i3 sd3 h8 gl (((G5.no f6).fr f8 off).mono fun k hk => by omega) (RdV.nil _ _ _) hL8.tail.tail.tail.head (((((D3.no f5).no f6).fr f8 fun k hk hk2 => by simp only [In, List.mem_cons, List.not_mem_nil, or_false] at hk2; omega)).up (by omega)) (fin _ ((f05.trans f6.of_no).trans (f8.mono fun k _ hk => .inr (by simp only [In, List.mem_cons, List.not_mem_nil, or_false] at hk; omega))))
  have z6 := f6.size
  have hL6 := hL5.of_no f6
  refine k_sureWalk hL6.tail.tail.tail.head hb ((D3.no f5).no f6) (by omega) (G5.no f6) (fun hk => by omega) (by omega) _ fun w rs p i9 sd9 h9 o9 n9 V9 D9 f9 => ⟨c, i9, sd9, w, p, rfl, vcur hL6 3 rfl f9 V9, fun b5 h11 hb5 f11 hL11 => ?_⟩
  have f11 := f11.in_nil
  have z9 := f9.size
  have z11 := f11.size
  have l5 : b5 < h11.size := hL11.head.lt
  have f011 : Fr (fun k => k = b ∨ h.size ≤ k) h h11 := ((f05.trans f6.of_no).trans (inb f9)).trans f11.of_no
  generalize hF : (fun k => Iv h6.size h9.size k ∨ h11.size ≤ k) = F
  have F1 : ∀ k, F k → h6.size ≤ k ∧ k ≠ b5 := fun k hk => by rw [← hF] at hk; rcases hk with hk | hk; have a1 := hk.1; have a2 := hk.2; omega; omega
  have F2 : ∀ k, h11.size ≤ k → F k := fun k hk => by rw [← hF]; exact .inr hk
  have o11 : OwI h11 F w rs := (Ow.no o9 f11).mono fun k _ hk => by rw [← hF]; exact .inl hk
  have wn := RdI.len o9.rdF
  have tn := G5.len
  have G11 : RdR (fun k => h2.size ≤ k ∧ k < h3.size) h11 t gs := (((G5.no f6).fr f9 fun k hk hk2 => by simp [In] at hk2; omega)).no f11
  have ob : ∀ {X Y : Heap} {x : Sl} {zs : List Int}, OwI X F x zs → Fr (In [b]) X Y → OwI Y F x zs := fun O f => Ow.fr O f fun k hk hk2 => by have := F1 _ (O.foot hk).1; simp [In] at hk2; omega
  have oG : ∀ {X Y : Heap}, RdR (fun k => h2.size ≤ k ∧ k < h3.size) X t gs → Fr (In [b]) X Y → RdR (fun k => h2.size ≤ k ∧ k < h3.size) Y t gs := fun G f => G.fr f fun k hk hk2 => by simp [In] at hk2; omega
  have oF : ∀ {X Y : Heap}, RdR (fun k => h2.size ≤ k ∧ k < h3.size) X t gs → Fr F X Y → RdR (fun k => h2.size ≤ k ∧ k < h3.size) Y t gs := fun G f => G.fr f fun k hk hk2 => by have := F1 _ hk2; omega
  have uF : ∀ {X Y : Heap}, Fr F X Y → Fr (fun k => k = b ∨ h.size ≤ k) X Y := fun f => f.mono fun k _ hk => .inr (by have := F1 _ hk; omega)
  have dF : ∀ {X Y : Heap} {m : Nat} {q : Int}, CurD a m X c q → Fr F X Y → CurD a m Y c q := fun D f => D.fr f fun k hk hk2 => by have := F1 _ hk2; omega
  have off : ∀ A B C E G (r : Nat × List Value), r ∈ [(b5, A), (b4, B), (b3, C), (b2, E), (b, G)] → ¬ F r.1 := fun A B C E G r hr hk => by
    have := F1 _ hk
    simp only [List.mem_cons, List.not_mem_nil, or_false] at hr
    rcases hr with rfl | rfl | rfl | rfl | rfl <;> simp only at this <;> omega
  refine ⟨fun x q d i' sd' h' => d = c ∧ CurD a (n + 250) h' c i' ∧ RdR (fun k => h2.size ≤ k ∧ k < h3.size) h' t gs ∧ (∃ rs, RdI (fun k => h6.size ≤ k ∧ k ≠ b5) h' x rs) ∧ Fr (fun k => k = b ∨ h.size ≤ k) h h' ∧ h11.size ≤ h'.size, ?_, ?_⟩
  · refine k_pick hL11.tail.tail.tail.tail.head hb (D9.no f11) (by omega) 16 _ fun y i12 sd12 h12 y0 y1 V12 D12 f12 => ⟨c, i12, sd12, y, rfl, vcur hL11 4 rfl f12 V12, fun _ => ?_, fun _ => ⟨fun _ => ⟨?_, ?_⟩, fun _ => ⟨fun _ => ?_, fun _ => ?_⟩⟩⟩
    · have hL12 := vcur hL11 4 rfl f12 V12
      have z12 := f12.size
      refine eop_lit rIs (fun k => h12.size ≤ k) (fun _ h => h) 3 (by omega) [VI (-1), VI (t.n : Int), VI 4611686018427387904] rfl rfl fun u h13 n13 c13 o13 f13 m13 _ => ⟨u, rfl, hL12.of_no f13, ?_⟩
      have r13 : RdI (fun k => h12.size ≤ k) h13 u [-1, (t.n : Int), 4611686018427387904] := o13.rdF
      refine k_among (hL12.of_no f13).tail.tail.tail.tail.head hb (D12.no f13) (by omega) r13 (by omega) (by simp) _ fun v i14 sd14 h14 hv V14 D14 f14 => ⟨c, i14, sd14, v, rfl, vcur (hL12.of_no f13) 4 rfl f14 V14, fun h15 f15 hL15 => ?_⟩
      have z13 := f13.size
      have z14 := f14.size
      have z15 := f15.size
      have oo : OwI h14 F w rs := ob (Ow.no (ob o11 f12) f13) f14
      exact ⟨rfl, (D14.fr f15 fun k hk hk2 => by simp [In] at hk2; omega).up (by omega), (oG ((oG G11 f12).no f13) f14).fr f15 fun k hk hk2 => by simp [In] at hk2; omega, ⟨rs, ((show RdI F h14 w rs from oo.rdF).mono fun k hk => F1 k hk).fr f15 fun k hk hk2 => by simp [In] at hk2; omega⟩, (((f011.trans (inb f12)).trans f13.of_no).trans (inb f14)).trans (f15.mono fun k _ hk => .inr (by simp [In] at hk; omega)), by omega⟩
    · have hL12 := vcur hL11 4 rfl f12 V12
      have z12 := f12.size
      refine k_pick hL12.tail.tail.tail.tail.head hb D12 (by omega) _ _ fun y2 i16 sd16 h16 u0 u1 V16 D16 f16 => ⟨c, i16, sd16, y2, rfl, vcur hL12 4 rfl f16 V16, ?_⟩
      have hL16 := vcur hL12 4 rfl f16 V16
      have z16 := f16.size
      refine eop_lit rIs (fun k => h16.size ≤ k) (fun _ h => h) 3 (by omega) [VI (-1), VI 4, VI 5] rfl rfl fun u h17 n17 c17 o17 f17 m17 _ => ⟨u, rfl, hL16.of_no f17, ?_⟩
      have r17 : RdI (fun k => h16.size ≤ k) h17 u [-1, 4, 5] := o17.rdF
      have z17 := f17.size
      refine k_among (hL16.of_no f17).tail.tail.tail.tail.head hb (D16.no f17) (by omega) r17 (by omega) (by simp) _ fun v i18 sd18 h18 hv V18 D18 f18 => ⟨c, i18, sd18, v, rfl, vcur (hL16.of_no f17) 4 rfl f18 V18, ?_⟩
      have z18 := f18.size
      have hg := graph_len (not_f e)
      have u1 := u1 (by omega)
      exact int_set (ob (Ow.no (ob (ob o11 f12) f16) f17) f18) u0 (by omega) (vcur (hL16.of_no f17) 4 rfl f18 V18) (off _ _ _ _ _) _ fun h19 o19 f19 V19 => ⟨rfl, (dF D18 f19).up (by omega), oF (oG ((oG (oG G11 f12) f16).no f17) f18) f19, ⟨_, (show RdI F h19 w _ from o19.rdF).mono fun k hk => F1 k hk⟩, ((((f011.trans (inb f12)).trans (inb f16)).trans f17.of_no).trans (inb f18)).trans (uF f19), by have := f19.size; omega⟩
    · have hL12 := vcur hL11 4 rfl f12 V12
      have z12 := f12.size
      refine eop_lit rIs (fun k => h12.size ≤ k) (fun _ h => h) 3 (by omega) [VI (-1), VI 4, VI 5] rfl rfl fun u h20 n20 c20 o20 f20 m20 _ => ⟨u, rfl, hL12.of_no f20, ?_⟩
      have r20 : RdI (fun k => h12.size ≤ k ∧ k < h20.size) h20 u [-1, 4, 5] := RdV.lt (o20.rdF)
      have hL20 := hL12.of_no f20
      have z20 := f20.size
      refine k_pick hL20.tail.tail.tail.tail.head hb (D12.no f20) (by omega) _ _ fun y2 i16 sd16 h16 u0 u1 V16 D16 f16 => ⟨c, i16, sd16, y2, rfl, vcur hL20 4 rfl f16 V16, ?_⟩
      have hL16 := vcur hL20 4 rfl f16 V16
      have z16 := f16.size
      refine k_among hL16.tail.tail.tail.tail.head hb D16 (by omega) (r20.fr f16 fun k hk hk2 => by simp [In] at hk2; omega) (by omega) (by simp) _ fun v i18 sd18 h18 hv V18 D18 f18 => ⟨c, i18, sd18, v, rfl, vcur hL16 4 rfl f18 V18, ?_⟩
      have z18 := f18.size
      have hg := graph_len (not_f e)
      have u1 := u1 (by omega)
      exact int_set (ob (ob (Ow.no (ob o11 f12) f20) f16) f18) u0 (by omega) (vcur hL16 4 rfl f18 V18) (off _ _ _ _ _) _ fun h19 o19 f19 V19 => ⟨rfl, (dF D18 f19).up (by omega), oF (oG (oG ((oG G11 f12).no f20) f16) f18) f19, ⟨_, (show RdI F h19 w _ from o19.rdF).mono fun k hk => F1 k hk⟩, ((((f011.trans (inb f12)).trans f20.of_no).trans (inb f16)).trans (inb f18)).trans (uF f19), by have := f19.size; omega⟩
    · have hL12 := vcur hL11 4 rfl f12 V12
      have z12 := f12.size
      exact eop_putI (ob o11 f12) (fun k hk => F2 k (by omega)) hL12 (off _ _ _ _ _) (by omega) _ fun u h25 o25 f25 V25 h26 f26 hL26 => ⟨rfl, ((dF D12 f25).fr f26 fun k hk hk2 => by simp [In] at hk2; omega).up (by omega), (oF (oG G11 f12) f25).fr f26 fun k hk hk2 => by simp [In] at hk2; omega, ⟨_, ((show RdI F h25 u _ from o25.rdF).mono fun k hk => F1 k hk).fr f26 fun k hk hk2 => by simp [In] at hk2; omega⟩, ((f011.trans (inb f12)).trans (uF f25)).trans (f26.mono fun k _ hk => .inr (by simp [In] at hk; omega)), by have := f25.size; have := f26.size; omega⟩
    · exact ⟨rfl, D12.up (by omega), oG G11 f12, ⟨rs, (show RdI F h12 w rs from (ob o11 f12).rdF).mono fun k hk => F1 k hk⟩, f011.trans (inb f12), f12.size⟩
  rintro x q d i13 sd13 h27 ⟨rfl, D27, G27, ⟨rs27, R27⟩, f27, z27⟩ hL27 h28 f28 hL28 h29 f29 hL29
  exact HK t x gs rs27 q i13 sd13 h29 gl (((G27.fr f28 fun k hk hk2 => by simp [In] at hk2; omega).fr f29 fun k hk hk2 => by simp [In] at hk2; omega).mono fun k hk => by omega) (((R27.fr f28 fun k hk hk2 => by simp [In] at hk2; omega).fr f29 fun k hk hk2 => by simp [In] at hk2; omega).mono fun k hk => by omega) hL29.tail.tail.tail.tail.head (((D27.fr f28 fun k hk hk2 => by simp [In] at hk2; omega).fr f29 fun k hk hk2 => by simp [In] at hk2; omega).up (by omega)) (fin _ ((f27.trans (f28.mono fun k _ hk => .inr (by simp [In] at hk; omega))).trans (f29.mono fun k _ hk => .inr (by simp [In] at hk; omega))))
theorem k_drsteps {a n b : Nat} {h : Heap} {c : Sl} {i sd : Int} (V : IsVar h b [c.v, VI i, .int .u64 sd]) (hb : a ≤ b) (D : CurD a n h c i) (hn : n ≤ 100000) (K : Value → Heap → Prop) (HK : ∀ (x i' sd' : Int) h', -1 ≤ x → x ≤ 2001 → IsVar h' b [c.v, VI i', .int .u64 sd'] → CurD a (n + 4) h' c i' → Fr (In [b]) h h' → K (VI x) h') : callM Tryd.prog 104 #[VP b 0] h K := by
  have lb := V.lt
  refine v104 b c i sd h K (.cons V (by simp) .nil) ?_
  refine k_one V hb D (by omega) 12 _ fun q i1 sd1 h1 V1 D1 f1 => ⟨c, i1, sd1, q, rfl, .cons V1 (by simp) .nil, fun _ => ?_, fun _ => ?_⟩
  · have hL1 : Vars h1 [(b, [c.v, VI i1, .int .u64 sd1])] := .cons V1 (by simp) .nil
    have z1 := f1.size
    refine eop_lit rIs (fun k => h1.size ≤ k) (fun _ h => h) 6 (by omega) [VI (-1), VI 0, VI 200, VI 201, VI 2000, VI 2001] rfl rfl fun u h2 n2 c2 o2 f2 m2 _ => ⟨u, rfl, hL1.of_no f2, ?_⟩
    have r2 : RdI (fun k => h1.size ≤ k) h2 u [-1, 0, 200, 201, 2000, 2001] := o2.rdF
    refine k_among (hL1.of_no f2).head hb (D1.no f2) (by omega) r2 (by omega) (by simp) _ fun v i3 sd3 h3 hv V3 D3 f3 => ⟨c, i3, sd3, v, rfl, .cons V3 (by simp) .nil, ?_⟩
    have hv2 : -1 ≤ v ∧ v ≤ 2001 := by
      simp only [List.mem_cons, List.not_mem_nil, or_false] at hv
      omega
    exact HK v i3 sd3 h3 hv2.1 hv2.2 V3 (D3.up (by omega)) ((f1.trans f2.of_no).trans f3)
  · refine k_pick V1 hb D1 (by omega) 40 _ fun v i3 sd3 h3 v0 v1 V3 D3 f3 => ⟨c, i3, sd3, v, rfl, .cons V3 (by simp) .nil, ?_⟩
    have v1 := v1 (by omega)
    exact HK v i3 sd3 h3 (by omega) (by omega) V3 (D3.up (by omega)) (f1.trans f3)
theorem k_DrawIsWalk {S : Nat → Prop} {h : Heap} {code : Sl} {vs : List Value} (C : RdV S h 1 code vs) (B : ∀ v, v ∈ vs → ∃ m : Int, v = Value.int .u8 m ∧ 0 ≤ m ∧ m ≤ 255) (K : Value → Heap → Prop) (HK : ∀ (t w : Sl) (gs : List (List Int)) (rs : List Int) (p : Int) h', RdR (fun k => h.size ≤ k) h' t gs → RdI (fun k => h.size ≤ k) h' w rs → Fr No h h' → K (.tuple #[.agg #[t.v], .agg #[w.v, VI p]]) h') : callM Tryd.prog 79 #[code.v] h K := by
  refine v79 code h K fun b1 b2 b3 h3 hb1 hb2 hb3 f3 hL3 => ?_
  have f3 := f3.in_nil
  have z3 := f3.size
  have l3 : b3 < h3.size := hL3.head.lt
  have l2 : b2 < h3.size := hL3.tail.head.lt
  have l1 : b1 < h3.size := hL3.tail.tail.head.lt
  have D3 : CurD h.size 0 h3 code 0 := ⟨⟨vs, ((RdV.lt C).mono fun k hk => hk.2).no f3, B⟩, by omega, by omega⟩
  refine k_drwalk hL3.head hb3 D3 (by omega) _ fun t w gs rs p i4 sd4 h4 gl G4 R4 V4 D4 f4 => ⟨code, i4, sd4, t, w, p, rfl, vcur hL3 0 rfl f4 V4, fun h6 f6 hL6 => ?_⟩
  have off : ∀ k, h3.size ≤ k → ¬ In [b2, b1] k := fun k hk hk2 => by simp only [In, List.mem_cons, List.not_mem_nil, or_false] at hk2; omega
  have u4 : Fr (fun k => h.size ≤ k) h3 h4 := f4.mono fun k _ hk => by simp [In] at hk; omega
  have u6 : Fr (fun k => h.size ≤ k) h4 h6 := f6.mono fun k _ hk => by simp only [In, List.mem_cons, List.not_mem_nil, or_false] at hk; omega
  exact HK t w gs rs p h6 ((G4.fr f6 off).mono fun k hk => by omega) ((R4.fr f6 off).mono fun k hk => by omega) (((f3.of_no.trans u4).trans u6).mono fun k hk hk2 => absurd hk2 (by omega))
theorem k_DrawStepOf {S : Nat → Prop} {h : Heap} {code : Sl} {vs : List Value} (C : RdV S h 1 code vs) (B : ∀ v, v ∈ vs → ∃ m : Int, v = Value.int .u8 m ∧ 0 ≤ m ∧ m ≤ 255) (K : Value → Heap → Prop) (HK : ∀ (t w : Sl) (gs : List (List Int)) (rs : List Int) (p : Int) h', RdR (fun k => h.size ≤ k) h' t gs → RdI (fun k => h.size ≤ k) h' w rs → Fr No h h' → K (.tuple #[.agg #[t.v], .agg #[w.v, VI p]]) h') : callM Tryd.prog 36 #[code.v] h K := by
  refine v36 code h K fun b1 b2 h2 hb1 hb2 f2 hL2 => ?_
  have f2 := f2.in_nil
  have z2 := f2.size
  have l2 : b2 < h2.size := hL2.head.lt
  have l1 : b1 < h2.size := hL2.tail.head.lt
  refine k_DrawIsWalk (C.no f2) B _ fun t w gs rs p h3 G3 R3 f3 => ⟨t, w, p, rfl, hL2.of_no f3, fun h5 f5 hL5 => ?_⟩
  have off : ∀ k, h2.size ≤ k → ¬ In [b2, b1] k := fun k hk hk2 => by simp only [In, List.mem_cons, List.not_mem_nil, or_false] at hk2; omega
  have u5 : Fr (fun k => h.size ≤ k) h3 h5 := f5.mono fun k _ hk => by simp only [In, List.mem_cons, List.not_mem_nil, or_false] at hk; omega
  exact HK t w gs rs p h5 ((G3.fr f5 off).mono fun k hk => by omega) ((R3.fr f5 off).mono fun k hk => by omega) (((f2.trans f3).of_no.trans u5).mono fun k hk hk2 => absurd hk2 (by omega))
theorem k_DrawRunOf {S : Nat → Prop} {h : Heap} {code : Sl} {vs : List Value} (C : RdV S h 1 code vs) (B : ∀ v, v ∈ vs → ∃ m : Int, v = Value.int .u8 m ∧ 0 ≤ m ∧ m ≤ 255) (K : Value → Heap → Prop) (HK : ∀ (t w : Sl) (gs : List (List Int)) (rs : List Int) (p n : Int) h', RdR (fun k => h.size ≤ k) h' t gs → RdI (fun k => h.size ≤ k) h' w rs → -1 ≤ n → n ≤ 2001 → Fr No h h' → K (.tuple #[.agg #[t.v], .agg #[w.v, VI p], VI n]) h') : callM Tryd.prog 67 #[code.v] h K := by
  refine v67 code h K fun b1 b2 b3 h3 hb1 hb2 hb3 f3 hL3 => ?_
  have f3 := f3.in_nil
  have z3 := f3.size
  have l3 : b3 < h3.size := hL3.head.lt
  have l2 : b2 < h3.size := hL3.tail.head.lt
  have l1 : b1 < h3.size := hL3.tail.tail.head.lt
  have D3 : CurD h.size 0 h3 code 0 := ⟨⟨vs, ((RdV.lt C).mono fun k hk => hk.2).no f3, B⟩, by omega, by omega⟩
  refine k_drwalk hL3.head hb3 D3 (by omega) _ fun t w gs rs p i4 sd4 h4 gl G4 R4 V4 D4 f4 => ⟨code, i4, sd4, t, w, p, rfl, vcur hL3 0 rfl f4 V4, fun b4 b5 h8 hb4 hb5 f8 hL8 => ?_⟩
  have f8 := f8.in_nil
  refine k_drsteps hL8.tail.tail.head hb3 (D4.no f8) (by omega) _ fun n i9 sd9 h9 n0 n1 V9 D9 f9 => ⟨code, i9, sd9, n, rfl, vcur hL8 2 rfl f9 V9, fun h10 f10 hL10 h11 f11 hL11 => ?_⟩
  have o9 : ∀ k, h3.size ≤ k → ¬ In [b3] k := fun k hk hk2 => by simp [In] at hk2; omega
  have o10 : ∀ k, h3.size ≤ k → ¬ In [b1] k := fun k hk hk2 => by simp [In] at hk2; omega
  have o11 : ∀ k, h3.size ≤ k → ¬ In [b2] k := fun k hk hk2 => by simp [In] at hk2; omega
  have u4 : Fr (fun k => h.size ≤ k) h3 h4 := f4.mono fun k _ hk => by simp [In] at hk; omega
  have u9 : Fr (fun k => h.size ≤ k) h8 h9 := f9.mono fun k _ hk => by simp [In] at hk; omega
  have u10 : Fr (fun k => h.size ≤ k) h9 h10 := f10.mono fun k _ hk => by simp [In] at hk; omega
  have u11 : Fr (fun k => h.size ≤ k) h10 h11 := f11.mono fun k _ hk => by simp [In] at hk; omega
  exact HK t w gs rs p n h11 (((((G4.no f8).fr f9 o9).fr f10 o10).fr f11 o11).mono fun k hk => by omega) (((((R4.no f8).fr f9 o9).fr f10 o10).fr f11 o11).mono fun k hk => by omega) n0 n1 ((((((f3.of_no.trans u4).trans f8.of_no).trans u9).trans u10).trans u11).mono fun k hk hk2 => absurd hk2 (by omega))
theorem k_DrawUsesOf {S : Nat → Prop} {h : Heap} {code : Sl} {vs : List Value} (C : RdV S h 1 code vs) (B : ∀ v, v ∈ vs → ∃ m : Int, v = Value.int .u8 m ∧ 0 ≤ m ∧ m ≤ 255) (K : Value → Heap → Prop) (HK : ∀ (t w : Sl) (gs : List (List Int)) (rs : List Int) (p n : Int) h', RdR (fun k => h.size ≤ k) h' t gs → RdI (fun k => h.size ≤ k) h' w rs → -1 ≤ n → n ≤ 2001 → Fr No h h' → K (.tuple #[.agg #[t.v], .agg #[w.v, VI p], VI n]) h') : callM Tryd.prog 21 #[code.v] h K := by
  refine v21 code h K fun b1 b2 h2 hb1 hb2 f2 hL2 => ?_
  have f2 := f2.in_nil
  have z2 := f2.size
  have l2 : b2 < h2.size := hL2.head.lt
  have l1 : b1 < h2.size := hL2.tail.head.lt
  refine k_DrawRunOf (C.no f2) B _ fun t w gs rs p n h3 G3 R3 n0 n1 f3 => ⟨t, w, p, n, rfl, hL2.of_no f3, fun h5 f5 hL5 => ?_⟩
  have off : ∀ k, h2.size ≤ k → ¬ In [b2, b1] k := fun k hk hk2 => by simp only [In, List.mem_cons, List.not_mem_nil, or_false] at hk2; omega
  have u5 : Fr (fun k => h.size ≤ k) h3 h5 := f5.mono fun k _ hk => by simp only [In, List.mem_cons, List.not_mem_nil, or_false] at hk; omega
  exact HK t w gs rs p n h5 ((G3.fr f5 off).mono fun k hk => by omega) ((R3.fr f5 off).mono fun k hk => by omega) n0 n1 (((f2.trans f3).of_no.trans u5).mono fun k hk hk2 => absurd hk2 (by omega))
@[reducible] def tW : TypeId := 43
@[reducible] def tWs : TypeId := 65
theorem rWs : rowC Tryd.prog tWs = some (tW, 2, 32, [nilSl.v, VI 0]) := by kernel_rfl
@[reducible] def OwWS (h : Heap) (F : Nat → Prop) (s : Sl) (ws : List (List Int × Int)) : Prop := OwW h F tW tI s ws
def totW (ws : List (List Int × Int)) : Nat := (ws.map fun w => w.1.length + 1).sum
theorem totW_append (a b : List (List Int × Int)) : totW (a ++ b) = totW a + totW b := by simp [totW]
def wbAt (g : List (List Int)) (rs : List Int) (p : Int) (i : Nat) : List (List Int × Int) :=
  if (g.getD i []).length = 0 then [] else if (g.getD i []).getD (rs.getD i 0).toNat 0 = p then [(rs.set i ((rs.getD i 0 + (g.getD i []).length - 1).tmod (g.getD i []).length), (i : Int))] else []
def wbL (g : List (List Int)) (rs : List Int) (p : Int) : Nat → List (List Int × Int)
  | 0 => []
  | n + 1 => wbL g rs p n ++ wbAt g rs p n
def wbP (g : List (List Int)) (rs : List Int) (p : Int) : List (List Int × Int) × Bool := if walkB g rs p then (wbL g rs p g.length, true) else ([], false)
theorem wbAt_len (g : List (List Int)) (rs : List Int) (p : Int) (i : Nat) : (wbAt g rs p i).length ≤ 1 ∧ totW (wbAt g rs p i) ≤ rs.length + 1 := by
  unfold wbAt
  split
  · simp [totW]
  · split <;> simp [totW]
theorem wbL_len (g : List (List Int)) (rs : List Int) (p : Int) : ∀ n, (wbL g rs p n).length ≤ n ∧ totW (wbL g rs p n) ≤ n * (rs.length + 1)
  | 0 => by simp [wbL, totW]
  | n + 1 => by
    have h1 := wbL_len g rs p n
    have h2 := wbAt_len g rs p n
    rw [wbL, totW_append, List.length_append, Nat.add_mul]
    omega
theorem k_spec_WalksBefore {S S' : Nat → Prop} {h : Heap} {g w : Sl} {xss : List (List Int)} {rs : List Int} (G : RdR S h g xss) (H : RdI S' h w rs) (p : Int) (K : Value → Heap → Prop) (HK : ∀ t h', OwWS h' (Iv h.size h'.size) t (wbP xss rs p).1 → Fr No h h' → K (.tuple #[t.v, VB (wbP xss rs p).2]) h') : callM Tryd.prog 39 #[.agg #[g.v], .agg #[w.v, VI p]] h K := by
  refine v39 g w p h K fun b1 b2 h2 hb1 hb2 f2 hL2 => ?_
  have f2 := f2.in_nil
  refine k_spec_waGood (G.no f2) (H.no f2) p _ fun h3 f3 => ⟨_, rfl, hL2.of_no f3, fun e => ?_, fun e => ?_⟩
  · have e2 : wbP xss rs p = ([], false) := by unfold wbP; rw [if_neg (by rw [not_t e]; simp)]
    have := HK nilSl h3 (by rw [e2]; exact OwW.nil _ _ _ _) (f2.no_trans f3)
    rw [e2] at this
    exact this
  have e := not_f e
  have e2 : wbP xss rs p = (wbL xss rs p xss.length, true) := by unfold wbP; exact if_pos e
  have W := wok_of e
  have hgl := graph_len W.graph
  have hrl : rs.length = xss.length := W.len
  have f03 := f2.no_trans f3
  have z03 := f03.size
  have l2 : b2 < h3.size := (hL2.of_no f3).head.lt
  have l1 : b1 < h3.size := (hL2.of_no f3).tail.head.lt
  refine ⟨fun n out i h' => 0 ≤ i ∧ i + n = (xss.length : Int) ∧ OwWS h' (fun k => h3.size ≤ k) out (wbL xss rs p i.toNat) ∧ Fr No h h' ∧ h3.size ≤ h'.size, ⟨xss.length, by omega, by omega, by simpa [wbL] using OwW.nil _ _ _ _, f03, Nat.le_refl _⟩, ?_⟩
  rintro n out i h4 ⟨i0, i1, o4, f4, z4⟩ hL4
  have G4 := G.no f4
  have H4 := H.no f4
  refine ⟨fun e => ?_, fun e => ?_⟩
  · have hi := G4.lt e
    have hir : i < (rs.length : Int) := by omega
    have hb := wbL_len xss rs p i.toNat
    obtain ⟨si, c1, r1⟩ := G4.get i0 hi
    have hm := graph_mem W.graph (List.getElem_mem (show i.toNat < xss.length by omega))
    have hrot := W.rot i.toNat (by show i.toNat < rs.length; omega) (by omega)
    have hsn : si.n = (xss[i.toNat]'(by omega)).length := r1.len
    have eg : xss.getD i.toNat [] = xss[i.toNat]'(by omega) := getD_get (by omega)
    have er : rs.getD i.toNat 0 = rs[i.toNat]'(by omega) := getD_getI (by omega)
    refine ⟨G4.inb i0 hi, si, c1, fun e => ?_, fun e => ?_⟩
    · simp only [decide_eq_true_eq] at e
      rw [G4.succ i0 hi]
      refine ⟨n - 1, by omega, by omega, by omega, ?_, f4, z4⟩
      rw [toNat_succ i0, wbL, wbAt, eg, if_pos (by omega), List.append_nil]
      exact o4
    simp only [decide_eq_false_iff_not] at e
    have hr0 : 0 ≤ rs[i.toNat]'(by omega) := hrot.1
    have hr1 : rs[i.toNat]'(by omega) < ((xss[i.toNat]'(by omega)).length : Int) := by have : rs[i.toNat]'(by omega) ≤ max (((xss[i.toNat]'(by omega)).length : Int) - 1) 0 := hrot.2; omega
    refine ⟨H4.inb i0 hir, _, H4.get i0 hir, r1.inb hr0 hr1, _, r1.get hr0 hr1, fun e5 => ?_, fun e5 => ?_⟩
    · have e5 := not_t e5
      simp only [decide_eq_false_iff_not] at e5
      rw [G4.succ i0 hi]
      refine ⟨n - 1, by omega, by omega, by omega, ?_, f4, z4⟩
      rw [toNat_succ i0, wbL, wbAt, eg, er, if_neg (by omega), if_neg (by rw [getD_getI (by omega)]; exact e5), List.append_nil]
      exact o4
    have e5 := not_f e5
    simp only [decide_eq_true_eq] at e5
    refine k_l1Own H4 (by omega) _ fun t h5 o5 f5 => ⟨t, rfl, hL4.of_no f5, H4.inb i0 hir, fun b3 h7 hb3 f7 hL7 => ?_⟩
    have f7 := f7.in_nil
    have f57 := f5.no_trans f7
    have z5 := f5.size
    have z7 := f7.size
    have l3 : b3 < h7.size := hL7.head.lt
    have o7 := Ow.no o5 f7
    have htn : t.n = rs.length := RdI.len o7.rdF
    have hw1 : w64 (w64 (rs[i.toNat]'(by omega) + (si.n : Int)) - 1) = rs[i.toNat]'(by omega) + (xss[i.toNat]'(by omega)).length - 1 := by
      rw [w64_eq (rs[i.toNat]'(by omega) + (si.n : Int)) (by omega) (by omega), w64_eq _ (by omega) (by omega), hsn]
    obtain ⟨w1, w2, w3⟩ := o7.store1 i0 (by omega) (VI ((rs[i.toNat]'(by omega) + (xss[i.toNat]'(by omega)).length - 1).tmod (xss[i.toNat]'(by omega)).length))
    refine ⟨_, (H4.no f57).get i0 hir, by omega, o7.inb i0 (by omega), ?_⟩
    rw [hw1, hsn]
    have w3' : Fr (Iv h4.size h5.size) h7 _ := w3.mono fun _ _ hk => (o7.foot hk).1
    have hL8 := hL7.iv w3' ⟨.inr hb3, .inl (by omega), .inl (by omega), trivial⟩
    refine ⟨w1, hL8, fun h8 e8 _ => ?_⟩
    subst e8
    have z8 := w3'.size
    rw [← List.map_set] at w2
    refine eop_lit rWs (fun k => _ ≤ k) (fun _ h => h) 1 (by omega) [t.v, VI i] rfl rfl fun u h9 n9 c9 o9 f9 m9 _ => ⟨u, rfl, hL8.of_no f9, ?_⟩
    have z9 := f9.size
    have hL9 := hL8.of_no f9
    have o49 := ((o4.toIv.no f57).iv w3' (by omega)).no f9
    refine OwW.snoc rWs o49 (F' := fun k => h3.size ≤ k) (p := i) (fun k _ hk => hk.1) (fun k hk => by omega) ((Ow.no w2 f9).mono fun k _ hk => Nat.le_trans z4 hk.1) (fun k hk hk2 => by have := (w2.foot hk).1.1; have := hk2.2; omega) o9.rd (by omega) fun y h10 o10 f10 => ⟨y, rfl, hL9.iv f10 ⟨.inr (by omega), .inl (by omega), .inl (by omega), trivial⟩, ?_⟩
    have z10 := f10.size
    rw [G4.succ i0 hi]
    refine ⟨n - 1, by omega, by omega, by omega, ?_, ?_, by omega⟩
    · rw [toNat_succ i0, wbL, wbAt, eg, er, if_neg (by omega), if_pos (by rw [getD_getI (by omega)]; exact e5), show ((i.toNat : Nat) : Int) = i by omega]
      exact o10
    · exact (((f4.no_trans f57).ivFresh w3' (by omega)).no_trans f9).ivFresh f10 (by omega)
  · have hi := G4.ge e
    have ei : i = xss.length := by omega
    subst ei
    have := HK out h4 (by rw [e2]; exact o4.toIv.ivs z03 (Nat.le_refl _)) f4
    rw [e2] at this
    exact this
theorem k_WalksBefore {S S' : Nat → Prop} {h : Heap} {g w : Sl} {xss : List (List Int)} {rs : List Int} (G : RdR S h g xss) (H : RdI S' h w rs) (p : Int) (K : Value → Heap → Prop) (HK : ∀ t h', OwWS h' (Iv h.size h'.size) t (wbP xss rs p).1 → Fr No h h' → K (.tuple #[t.v, VB (wbP xss rs p).2]) h') : callM Tryd.prog 38 #[.agg #[g.v], .agg #[w.v, VI p]] h K := by
  refine v38 g w p h K fun b1 b2 h2 hb1 hb2 f2 hL2 => ?_
  have f2 := f2.in_nil
  refine k_isWalk (G.no f2) (H.no f2) p _ fun h3 f3 => ⟨_, rfl, hL2.of_no f3, fun e => ?_, fun e => ?_⟩
  · have e2 : wbP xss rs p = ([], false) := by unfold wbP; rw [if_neg (by rw [not_t e]; simp)]
    have := HK nilSl h3 (by rw [e2]; exact OwW.nil _ _ _ _) (f2.no_trans f3)
    rw [e2] at this
    exact this
  have e := not_f e
  have e2 : wbP xss rs p = (wbL xss rs p xss.length, true) := by unfold wbP; exact if_pos e
  have W := wok_of e
  have hgl := graph_len W.graph
  have hrl : rs.length = xss.length := W.len
  have f03 := f2.no_trans f3
  have z03 := f03.size
  have l2 : b2 < h3.size := (hL2.of_no f3).head.lt
  have l1 : b1 < h3.size := (hL2.of_no f3).tail.head.lt
  refine eop_lit rWs (fun k => h3.size ≤ k) (fun _ h => h) 0 (by omega) [] rfl rfl fun t0 h3' n3 c3 o3 f3' m3 _ => ⟨t0, rfl, (hL2.of_no f3).of_no f3', ?_⟩
  have o3 : OwWS h3' (fun k => h3.size ≤ k) t0 [] := ⟨[], rfl, o3, fun i a => by simp at a, fun i j a => by simp at a, fun i a => by simp at a⟩
  refine ⟨fun n out i h' => 0 ≤ i ∧ i + n = (xss.length : Int) ∧ OwWS h' (fun k => h3.size ≤ k) out (wbL xss rs p i.toNat) ∧ Fr No h h' ∧ h3.size ≤ h'.size, ⟨xss.length, by omega, by omega, by simpa [wbL] using o3, f03.no_trans f3', f3'.size⟩, ?_⟩
  rintro n out i h4 ⟨i0, i1, o4, f4, z4⟩ hL4
  have G4 := G.no f4
  have H4 := H.no f4
  refine ⟨fun e => ?_, fun e => ?_⟩
  · have hi := G4.lt e
    have hir : i < (rs.length : Int) := by omega
    have hb := wbL_len xss rs p i.toNat
    obtain ⟨si, c1, r1⟩ := G4.get i0 hi
    have hm := graph_mem W.graph (List.getElem_mem (show i.toNat < xss.length by omega))
    have hrot := W.rot i.toNat (by show i.toNat < rs.length; omega) (by omega)
    have hsn : si.n = (xss[i.toNat]'(by omega)).length := r1.len
    have eg : xss.getD i.toNat [] = xss[i.toNat]'(by omega) := getD_get (by omega)
    have er : rs.getD i.toNat 0 = rs[i.toNat]'(by omega) := getD_getI (by omega)
    refine ⟨G4.inb i0 hi, si, c1, fun e => ?_, fun e => ?_⟩
    rotate_left
    · simp only [decide_eq_false_iff_not] at e
      rw [G4.succ i0 hi]
      refine ⟨n - 1, by omega, by omega, by omega, ?_, f4, z4⟩
      rw [toNat_succ i0, wbL, wbAt, eg, if_pos (by omega), List.append_nil]
      exact o4
    simp only [decide_eq_true_eq] at e
    have hr0 : 0 ≤ rs[i.toNat]'(by omega) := hrot.1
    have hr1 : rs[i.toNat]'(by omega) < ((xss[i.toNat]'(by omega)).length : Int) := by have : rs[i.toNat]'(by omega) ≤ max (((xss[i.toNat]'(by omega)).length : Int) - 1) 0 := hrot.2; omega
    refine ⟨H4.inb i0 hir, _, H4.get i0 hir, r1.inb hr0 hr1, _, r1.get hr0 hr1, fun e5 => ?_, fun e5 => ?_⟩
    rotate_left
    · simp only [decide_eq_false_iff_not] at e5
      rw [G4.succ i0 hi]
      refine ⟨n - 1, by omega, by omega, by omega, ?_, f4, z4⟩
      rw [toNat_succ i0, wbL, wbAt, eg, er, if_neg (by omega), if_neg (by rw [getD_getI (by omega)]; exact e5), List.append_nil]
      exact o4
    simp only [decide_eq_true_eq] at e5
    refine k_copiedW H4 p (by omega) _ fun t h5 o5 f5 => ⟨t, _, rfl, hL4.of_no f5, H4.inb i0 hir, fun b3 h7 hb3 f7 hL7 => ?_⟩
    have f7 := f7.in_nil
    have f57 := f5.no_trans f7
    have z5 := f5.size
    have z7 := f7.size
    have l3 : b3 < h7.size := hL7.head.lt
    have o7 := Ow.no o5 f7
    have htn : t.n = rs.length := RdI.len o7.rdF
    have hw1 : w64 (w64 (rs[i.toNat]'(by omega) + (si.n : Int)) - 1) = rs[i.toNat]'(by omega) + (xss[i.toNat]'(by omega)).length - 1 := by
      rw [w64_eq (rs[i.toNat]'(by omega) + (si.n : Int)) (by omega) (by omega), w64_eq _ (by omega) (by omega), hsn]
    refine ⟨_, (H4.no f57).get i0 hir, by omega, fun h8 f8 hL8 => ?_⟩
    have f8 := f8.inIv (lo := h5.size) (hi := h7.size) ⟨⟨hb3, l3⟩, trivial⟩
    have z8 := f8.size
    have o8 := Ow.iv o7 f8 (by omega)
    have f48 : Fr No h h8 := (f4.no_trans f57).ivFresh f8 (by omega)
    obtain ⟨w1, w2, w3⟩ := o8.store1 i0 (by omega) (VI ((rs[i.toNat]'(by omega) + (xss[i.toNat]'(by omega)).length - 1).tmod (xss[i.toNat]'(by omega)).length))
    refine ⟨(H.no f48).get i0 hir, o8.inb i0 (by omega), ?_⟩
    rw [hw1, hsn]
    have w3' : Fr (Iv h4.size h5.size) h8 _ := w3.mono fun _ _ hk => (o8.foot hk).1
    have hL9 := hL8.iv w3' ⟨.inr hb3, .inl (by omega), .inl (by omega), trivial⟩
    refine ⟨w1, hL9, fun h9 e9 _ => ?_⟩
    subst e9
    have z9 := w3'.size
    rw [← List.map_set] at w2
    refine eop_lit rWs (fun k => _ ≤ k) (fun _ h => h) 1 (by omega) [t.v, VI i] rfl rfl fun u h10 n10 c10 o10 f10 m10 _ => ⟨u, rfl, hL9.of_no f10, ?_⟩
    have z10 := f10.size
    have hL10 := hL9.of_no f10
    have o49 := (((o4.toIv.no f57).iv f8 (by omega)).iv w3' (by omega)).no f10
    refine OwW.snoc rWs o49 (F' := fun k => h3.size ≤ k) (p := i) (fun k _ hk => hk.1) (fun k hk => by omega) ((Ow.no w2 f10).mono fun k _ hk => Nat.le_trans z4 hk.1) (fun k hk hk2 => by have := (w2.foot hk).1.1; have := hk2.2; omega) o10.rd (by omega) fun y h11 o11 f11 => ⟨y, rfl, hL10.iv f11 ⟨.inr (by omega), .inl (by omega), .inl (by omega), trivial⟩, ?_⟩
    have z11 := f11.size
    rw [G4.succ i0 hi]
    refine ⟨n - 1, by omega, by omega, by omega, ?_, ?_, by omega⟩
    · rw [toNat_succ i0, wbL, wbAt, eg, er, if_neg (by omega), if_pos (by rw [getD_getI (by omega)]; exact e5), show ((i.toNat : Nat) : Int) = i by omega]
      exact o11
    · exact ((f48.ivFresh w3' (by omega)).no_trans f10).ivFresh f11 (by omega)
  · have hi := G4.ge e
    have ei : i = xss.length := by omega
    subst ei
    have := HK out h4 (by rw [e2]; exact o4.toIv.ivs z03 (Nat.le_refl _)) f4
    rw [e2] at this
    exact this
theorem wbAt_mem {g : List (List Int)} {rs : List Int} {p : Int} {i : Nat} {u : List Int × Int} (h : u ∈ wbAt g rs p i) : (g.getD i []).length ≠ 0 ∧ (g.getD i []).getD (rs.getD i 0).toNat 0 = p ∧ u = (rs.set i ((rs.getD i 0 + (g.getD i []).length - 1).tmod (g.getD i []).length), (i : Int)) := by
  unfold wbAt at h
  split at h
  · cases h
  · rename_i hd
    split at h
    · rename_i hp
      simp only [List.mem_cons, List.not_mem_nil, or_false] at h
      exact ⟨hd, hp, h⟩
    · cases h
theorem wbL_mem {g : List (List Int)} {rs : List Int} {p : Int} {u : List Int × Int} : ∀ {n : Nat}, u ∈ wbL g rs p n ↔ ∃ i, i < n ∧ u ∈ wbAt g rs p i
  | 0 => by simp [wbL]
  | n + 1 => by
    rw [wbL, List.mem_append, wbL_mem]
    constructor
    · rintro (⟨i, h1, h2⟩ | h)
      · exact ⟨i, by omega, h2⟩
      · exact ⟨n, by omega, h⟩
    · rintro ⟨i, h1, h2⟩
      by_cases e : i = n
      · subst e; exact .inr h2
      · exact .inl ⟨i, by omega, h2⟩
theorem wbL_rise {g : List (List Int)} {rs : List Int} {p : Int} : ∀ n, (wbL g rs p n).Pairwise fun a b => a.2 < b.2
  | 0 => List.Pairwise.nil
  | n + 1 => by
    rw [wbL, List.pairwise_append]
    refine ⟨wbL_rise n, ?_, fun a ha b hb => ?_⟩
    · have := (wbAt_len g rs p n).1
      match wbAt g rs p n, this with
      | [], _ => exact List.Pairwise.nil
      | [x], _ => exact List.pairwise_singleton _ _
      | x :: y :: l, h => simp at h
    · obtain ⟨i, hi, hm⟩ := wbL_mem.1 ha
      rw [(wbAt_mem hm).2.2, (wbAt_mem hb).2.2]
      simp only
      omega
theorem mod_back {x d : Nat} (hx : x < d) : ((x + d - 1) % d + 1) % d = x := by
  rw [Nat.mod_add_mod, show x + d - 1 + 1 = x + d by omega, Nat.add_mod_right, Nat.mod_eq_of_lt hx]
theorem mod_forth {x d : Nat} (hx : x < d) : ((x + 1) % d + d - 1) % d = x := by
  by_cases h : x + 1 = d
  · rw [h, Nat.mod_self, Nat.zero_add, Nat.mod_eq_of_lt (by omega)]; omega
  · rw [Nat.mod_eq_of_lt (show x + 1 < d by omega), show x + 1 + d - 1 = x + d by omega, Nat.add_mod_right, Nat.mod_eq_of_lt hx]
theorem set_same2 {l : List Int} {i : Nat} (hi : i < l.length) (x : Int) : (l.set i x).set i (l.getD i 0) = l := by
  rw [List.set_set, getD_getI hi, List.set_getElem_self]
theorem run_one {g : List (List Int)} {rs : List Int} {p : Int} {s : St} (hw : walkB g rs p = true) (hs : stepP g (rs, p) = some s) : runOfP g rs p 1 = (s, true) := by
  unfold runOfP
  rw [hw, show inR 0 2000 1 = true from rfl]
  show (match runT g (fun (_ : Unit) _ _ => ()) 1 () (rs, p) with | none => (([], 0), false) | some (_, s) => (s, true)) = _
  rw [runT, hs]
  rfl
theorem before_step {g : List (List Int)} {rs : List Int} {p : Int} (hw : walkB g rs p = true) {u : List Int × Int} (h : u ∈ (wbP g rs p).1) : runOfP g u.1 u.2 1 = ((rs, p), true) := by
  have W := wok_of hw
  have hl : rs.length = g.length := W.len
  unfold wbP at h
  rw [if_pos hw] at h
  obtain ⟨i, hi, hm⟩ := wbL_mem.1 h
  obtain ⟨hd, hp, rfl⟩ := wbAt_mem hm
  have hro := W.rot i (show i < rs.length by omega) hi
  simp only at hro
  have hdl : (g.getD i []).length = g[i].length := by rw [getD_get hi]
  rw [← hdl] at hro
  have er : rs.getD i 0 = rs[i]'(by omega) := getD_getI (by omega)
  obtain ⟨x, hx⟩ : ∃ x : Nat, rs.getD i 0 = (x : Int) := ⟨(rs.getD i 0).toNat, by omega⟩
  have hxd : x < (g.getD i []).length := by omega
  have ht : (rs.getD i 0 + (g.getD i []).length - 1).tmod (g.getD i []).length = (((x + (g.getD i []).length - 1) % (g.getD i []).length : Nat) : Int) := by
    rw [hx, show (x : Int) + ((g.getD i []).length : Int) - 1 = ((x + (g.getD i []).length - 1 : Nat) : Int) by omega]
    exact (Int.ofNat_tmod _ _).symm
  rw [ht]
  have hlt : (x + (g.getD i []).length - 1) % (g.getD i []).length < (g.getD i []).length := Nat.mod_lt _ (by omega)
  generalize hy : (x + (g.getD i []).length - 1) % (g.getD i []).length = y at *
  have Wu : WOK g (rs.set i (y : Int), (i : Int)) := ⟨W.graph, by simp [hl], by simp only; omega, by simp only; omega, fun j a b => by
    simp only at a ⊢
    by_cases e : i = j
    · subst e
      rw [List.getElem_set_self]
      omega
    · rw [List.getElem_set_ne e]
      exact W.rot j (by simpa using a) b⟩
  refine run_one (walk_to2 Wu) ?_
  unfold stepP
  simp only
  rw [show ((i : Int)).toNat = i from Int.toNat_natCast i, if_neg hd, setI_get (by omega), if_pos rfl, Int.toNat_natCast, ← hy, mod_back hxd, ← hx, set_same2 (by omega)]
  rw [hx, Int.toNat_natCast] at hp
  rw [hp]
theorem step_before {g : List (List Int)} {rs : List Int} {p : Int} {s : St} (h : runOfP g rs p 1 = (s, true)) : walkB g rs p = true ∧ (wbP g s.1 s.2).2 = true ∧ (rs, p) ∈ (wbP g s.1 s.2).1 := by
  have hw : walkB g rs p = true := by
    unfold runOfP at h
    cases hw : walkB g rs p with
    | true => rfl
    | false => rw [hw] at h; simp at h
  have W := wok_of hw
  have hl : rs.length = g.length := W.len
  have hs : stepP g (rs, p) = some s := by
    unfold runOfP at h
    rw [hw, show inR 0 2000 1 = true from rfl] at h
    replace h : (match runT g (fun (_ : Unit) _ _ => ()) 1 () (rs, p) with | none => (([], 0), false) | some (_, s) => (s, true)) = (s, true) := h
    rw [runT] at h
    cases he : stepP g (rs, p) with
    | none => rw [he] at h; simp at h
    | some s' =>
      rw [he] at h
      simp only [runT, Prod.mk.injEq, and_true] at h
      rw [h]
  have W' := walk_to2 (W.step hs)
  have h0 : 0 ≤ p := W.lo
  have h1 : p < (g.length : Int) := W.hi
  refine ⟨hw, by unfold wbP; rw [W']; rfl, ?_⟩
  unfold wbP
  rw [if_pos W']
  refine wbL_mem.2 ⟨p.toNat, by omega, ?_⟩
  unfold stepP at hs
  simp only at hs
  have hd : (g.getD p.toNat []).length ≠ 0 := fun e => by rw [if_pos e] at hs; cases hs
  rw [if_neg hd] at hs
  have hs := (Option.some.inj hs).symm
  have hro := W.rot p.toNat (show p.toNat < rs.length by omega) (by omega)
  simp only at hro
  have hdl : (g.getD p.toNat []).length = (g[p.toNat]'(by omega)).length := by rw [getD_get (by omega)]
  rw [← hdl] at hro
  have er : rs.getD p.toNat 0 = rs[p.toNat]'(by omega) := getD_getI (by omega)
  obtain ⟨x, hx⟩ : ∃ x : Nat, rs.getD p.toNat 0 = (x : Int) := ⟨(rs.getD p.toNat 0).toNat, by omega⟩
  have hxd : x < (g.getD p.toNat []).length := by omega
  rw [hx, Int.toNat_natCast] at hs
  have e1 : s.1.getD p.toNat 0 = (((x + 1) % (g.getD p.toNat []).length : Nat) : Int) := by
    rw [hs]; simp only
    rw [setI_get (by omega), if_pos rfl]
  have e2 : s.2 = (g.getD p.toNat []).getD ((x + 1) % (g.getD p.toNat []).length) 0 := by rw [hs]
  unfold wbAt
  rw [if_neg hd, e1, Int.toNat_natCast, if_pos e2.symm]
  have hp' : 1 ≤ (g.getD p.toNat []).length := by omega
  rw [show (((x + 1) % (g.getD p.toNat []).length : Nat) : Int) + ((g.getD p.toNat []).length : Int) - 1 = (((x + 1) % (g.getD p.toNat []).length + (g.getD p.toNat []).length - 1 : Nat) : Int) by omega, show ((((x + 1) % (g.getD p.toNat []).length + (g.getD p.toNat []).length - 1 : Nat) : Int)).tmod ((g.getD p.toNat []).length : Int) = ((((x + 1) % (g.getD p.toNat []).length + (g.getD p.toNat []).length - 1) % (g.getD p.toNat []).length : Nat) : Int) from (Int.ofNat_tmod _ _).symm, mod_forth hxd, hs]
  simp only [List.mem_cons, List.not_mem_nil, or_false]
  rw [← hx, set_same2 (by omega)]
  exact Prod.ext rfl (by simp only; omega)
theorem k_wWalk {S S' : Nat → Prop} {h : Heap} {a b : Sl} {xs ys : List Int} (H : RdI S h a xs) (H' : RdI S' h b ys) (p q : Int) : Ret Tryd.prog 32 #[.agg #[a.v, VI p], .agg #[b.v, VI q]] h (VB (decide (p = q ∧ xs = ys))) := by
  intro K HK
  refine v32 a p b q h K ⟨fun e b1 b2 h2 hb1 hb2 f2 hL2 => ?_, fun e b1 b2 h2 hb1 hb2 f2 hL2 => ?_⟩
  · simp only [decide_eq_true_eq] at e
    have f2 := f2.in_nil
    refine k_wSame (H.no f2) (H'.no f2) _ ⟨_, rfl, hL2, ?_⟩
    rw [show decide (p = q ∧ xs = ys) = decide (xs = ys) by simp [e]] at HK
    exact HK h2 f2
  · simp only [decide_eq_false_iff_not] at e
    rw [show decide (p = q ∧ xs = ys) = false by simp [e]] at HK
    exact HK h2 f2.in_nil
theorem k_IsWalk {S S' : Nat → Prop} {h : Heap} {g s : Sl} {xss : List (List Int)} {rs : List Int} (G : RdR S h g xss) (H : RdI S' h s rs) (p : Int) : Ret Tryd.prog 34 #[.agg #[g.v], .agg #[s.v, VI p]] h (VB (walkB xss rs p)) := by
  intro K HK
  refine v34 g s p h K fun b1 b2 h2 hb1 hb2 f2 hL2 => ?_
  have f2 := f2.in_nil
  exact k_isWalk (G.no f2) (H.no f2) p _ fun h3 f3 => ⟨_, rfl, hL2.of_no f3, HK h3 (f2.trans f3)⟩
theorem k_spec_IsWalk {S S' : Nat → Prop} {h : Heap} {g s : Sl} {xss : List (List Int)} {rs : List Int} (G : RdR S h g xss) (H : RdI S' h s rs) (p : Int) : Ret Tryd.prog 43 #[.agg #[g.v], .agg #[s.v, VI p]] h (VB (walkB xss rs p)) := by
  intro K HK
  refine v43 g s p h K fun b1 b2 h2 hb1 hb2 f2 hL2 => ?_
  have f2 := f2.in_nil
  exact k_spec_waGood (G.no f2) (H.no f2) p _ fun h3 f3 => ⟨_, rfl, hL2.of_no f3, HK h3 (f2.trans f3)⟩
def wkxB (rs : List Int) (p : Int) : Bool := inR 1 8 (rs.length : Int) && (inR 0 ((rs.length : Int) - 1) p && rs.all (inR 0 4))
def wkxP (rs : List Int) (p : Int) : ByteArray × Bool := if wkxB rs p then (keyS (rs, p), true) else (⟨#[]⟩, false)
theorem k_WalkText1 (x : Int) (h : Heap) (K : Value → Heap → Prop) (HK : K (VB (!inR 0 4 x)) h) : callV Tryd.prog (.func (.func 81) #[] #[]) [VI x] h K :=
  v81 x h K (k_impl_in _ _ _ _ _ ⟨_, rfl, .nil, HK⟩)
theorem k_WalkText {S : Nat → Prop} {h : Heap} {w : Sl} {rs : List Int} (H : RdI S h w rs) (p : Int) (K : Value → Heap → Prop) (HK : ∀ h', Fr No h h' → K (.tuple #[VS (wkxP rs p).1, VB (wkxP rs p).2]) h') : callM Tryd.prog 40 #[.agg #[w.v, VI p]] h K := by
  have wn := RdI.len H
  have no : wkxB rs p = false → ∀ h', Fr No h h' → K (.tuple #[VS ⟨#[]⟩, VB false]) h' := fun e h' f => by
    have := HK h' f
    unfold wkxP at this
    rw [e] at this
    exact this
  refine v40 w p h K fun b1 h1 hb1 f1 hL1 => ?_
  have f1 := f1.in_nil
  refine k_impl_in _ _ _ _ _ ⟨_, rfl, hL1, fun e => ?_, fun e => ?_⟩
  · refine no ?_ h1 f1
    unfold wkxB inR
    rw [← wn, not_t e]; rfl
  have e := not_f e
  have e' := e
  simp only [Bool.and_eq_true, decide_eq_true_eq] at e'
  rw [w64_eq _ (by omega) (by omega)]
  refine k_impl_in _ _ _ _ _ ⟨_, rfl, hL1, fun e2 => ?_, fun e2 => ?_⟩
  · refine no ?_ h1 f1
    unfold wkxB inR
    rw [← wn, e, not_t e2]; rfl
  have e2 := not_f e2
  have e2' := e2
  simp only [Bool.and_eq_true, decide_eq_true_eq] at e2'
  refine k_ContainsFunc (H.no f1) _ _ (fun x K HK => k_WalkText1 x h1 K HK) _ ⟨_, rfl, hL1, fun e3 => ?_, fun e3 => ?_⟩
  · rw [any_not] at e3
    refine no ?_ h1 f1
    unfold wkxB
    rw [not_t e3, Bool.and_false, Bool.and_false]
  rw [any_not] at e3
  have e3 := not_f e3
  have B := List.all_eq_true.1 e3
  refine k_walkText (H.no f1) (fun x hx => by have := inR_iff.1 (B x hx); omega) (by omega) (by omega) (by omega) _ fun h5 f5 => ⟨_, rfl, hL1.of_no f5, ?_⟩
  have := HK h5 (f1.trans f5)
  unfold wkxP at this
  rw [if_pos (by unfold wkxB inR; rw [← wn, e, e2]; exact e3)] at this
  exact this
theorem k_spec_WalkText {S : Nat → Prop} {h : Heap} {w : Sl} {rs : List Int} (H : RdI S h w rs) (p : Int) (K : Value → Heap → Prop) (HK : ∀ h', Fr No h h' → K (.tuple #[VS (wkxP rs p).1, VB (wkxP rs p).2]) h') : callM Tryd.prog 41 #[.agg #[w.v, VI p]] h K := by
  have wn := RdI.len H
  have no : wkxB rs p = false → ∀ h', Fr No h h' → K (.tuple #[VS ⟨#[]⟩, VB false]) h' := fun e h' f => by
    have := HK h' f
    unfold wkxP at this
    rw [e] at this
    exact this
  refine v41 w p h K fun b1 h1 hb1 f1 hL1 => ?_
  have f1 := f1.in_nil
  refine k_spec_l1In _ _ _ _ _ ⟨_, rfl, hL1, fun e => ?_, fun e => ?_⟩
  · refine no ?_ h1 f1
    unfold wkxB inR
    rw [← wn, not_t e]; rfl
  have e := not_f e
  have e' := e
  simp only [Bool.and_eq_true, decide_eq_true_eq] at e'
  rw [w64_eq _ (by omega) (by omega)]
  refine k_spec_l1In _ _ _ _ _ ⟨_, rfl, hL1, fun e2 => ?_, fun e2 => ?_⟩
  · refine no ?_ h1 f1
    unfold wkxB inR
    rw [← wn, e, not_t e2]; rfl
  have e2 := not_f e2
  have e2' := e2
  simp only [Bool.and_eq_true, decide_eq_true_eq] at e2'
  refine k_spec_l1All (H.no f1) 0 4 _ ⟨_, rfl, hL1, fun e3 => ?_, fun e3 => ?_⟩
  · refine no ?_ h1 f1
    unfold wkxB
    rw [not_t e3, Bool.and_false, Bool.and_false]
  have e3 := not_f e3
  have B := List.all_eq_true.1 e3
  have B2 : ∀ x, x ∈ rs → 0 ≤ x ∧ x < 10 := fun x hx => by have := inR_iff.1 (B x hx); omega
  have d1 := dec_len (show p.toNat < 100 by omega)
  refine k_l1Num (by omega) (by omega) _ fun h5 f5 => ⟨_, rfl, hL1.of_no f5, ?_, ?_⟩
  · rw [ba_size]; show _ + 1 ≤ _; omega
  rw [show (⟨#[58]⟩ : ByteArray) = ⟨[58].toArray⟩ from rfl, ba_app]
  generalize hC : Lib.decDigits p.toNat ++ [58] = C
  have Cl : C.length ≤ 3 := by rw [← hC, List.length_append]; simp only [List.length_cons, List.length_nil]; omega
  have f05 := f1.trans f5
  refine ⟨fun m o j h' => 0 ≤ j ∧ j + m = (rs.length : Int) ∧ o = (⟨(C ++ Lib.join ((rs.take j.toNat).map fun y => Lib.decDigits y.toNat) [44]).toArray⟩ : ByteArray) ∧ Fr No h h', ⟨rs.length, by omega, by omega, by simp [Lib.join_nil], f05⟩, ?_⟩
  rintro m o j h6 ⟨j0, j1, rfl, f6⟩ hL6
  have R6 := H.no f6
  refine ⟨fun e5 => ?_, fun e5 => ?_⟩
  · have hj := R6.lt e5
    have hj2 : j.toNat < rs.length := by omega
    have dj := B2 _ (List.getElem_mem hj2)
    have hl3 := join_len ((rs.take j.toNat).map fun y => Lib.decDigits y.toNat) fun y hy => by
      obtain ⟨x, hx, rfl⟩ := List.mem_map.1 hy
      have := B2 x (List.mem_of_mem_take hx)
      exact dec_len (by omega)
    have hl4 : ((rs.take j.toNat).map fun y => Lib.decDigits y.toNat).length ≤ 12 := by simp; omega
    generalize hD : C ++ Lib.join ((rs.take j.toNat).map fun y => Lib.decDigits y.toNat) [44] ++ (if j.toNat = 0 then [] else [44]) = D
    have Dl : D.length ≤ 500 := by rw [← hD, List.length_append, List.length_append]; split <;> simp only [List.length_nil, List.length_cons] <;> omega
    refine ⟨R6.inb j0 hj, _, R6.get j0 hj, fun x h' => x = (⟨D.toArray⟩ : ByteArray) ∧ h' = h6, ⟨fun e6 => ⟨?_, ?_, rfl⟩, fun e6 => ⟨?_, rfl⟩⟩, ?_⟩
    · rw [ba_size, List.length_append]; show _ + 1 ≤ _; omega
    · simp only [decide_eq_true_eq] at e6
      rw [show (⟨#[44]⟩ : ByteArray) = ⟨[44].toArray⟩ from rfl, ba_app, ← hD, if_neg (by omega)]
    · simp only [decide_eq_false_iff_not] at e6
      rw [← hD, if_pos (by omega), List.append_nil]
    rintro x h8 ⟨rfl, rfl⟩ hL8
    refine k_l1Num dj.1 dj.2 _ fun h9 f9 => ⟨_, rfl, hL8.of_no f9, ?_, ?_⟩
    · have := dec_len (show (rs[j.toNat]).toNat < 100 by omega)
      rw [ba_size, ba_size]; omega
    · rw [R6.succ j0 hj]
      refine ⟨m - 1, by omega, by omega, by omega, ?_, f6.trans f9⟩
      rw [ba_app, show (j + 1).toNat = j.toNat + 1 by omega, join_take _ _ hj2, ← hD]
      simp only [List.append_assoc]
  · have hj := R6.ge e5
    rw [List.take_of_length_le (by omega)]
    have := HK h6 f6
    unfold wkxP at this
    rw [if_pos (by unfold wkxB inR; rw [← wn, e, e2]; exact e3)] at this
    unfold keyS walkL listL at this
    rw [if_neg (by simp only; omega), hC] at this
    exact this
theorem k_wWalks {S S' : Nat → Prop} {h : Heap} {a b : Sl} {ws : List (List Int × Int)} (H : RdW S h a ws) (H' : RdW S' h b ws) : Ret Tryd.prog 42 #[a.v, b.v] h (VB true) := by
  intro K HK
  have hl := H.len
  have hbig := H.big
  refine v42 a b h K ⟨fun e => ?_, fun _ => ?_⟩
  · have := not_t e
    rw [H.len, H'.len] at this
    simp at this
  · refine ⟨fun n i h' => Fr No h h' ∧ 0 ≤ i ∧ i + n = (ws.length : Int), ⟨ws.length, Fr.refl _ _, by omega, by omega⟩, ?_⟩
    rintro n i h1 ⟨f, i0, i1⟩ hL
    refine ⟨fun e => ?_, fun e => HK _ f⟩
    have hi : i < (ws.length : Int) := by simp at e; omega
    obtain ⟨b1, x, c1, r1⟩ := (H.no f).get i0 hi
    obtain ⟨b2, y, c2, r2⟩ := (H'.no f).get i0 hi
    refine ⟨b1, x, _, c1, b2, y, _, c2, k_wWalk r1 r2 _ _ _ fun h2 f2 => ⟨_, rfl, .nil, fun e => ?_, fun e => ?_⟩⟩
    · rw [decide_eq_true ⟨rfl, rfl⟩] at e
      simp at e
    · rw [w64_succ (n := ws.length) i0 hi (by omega)]
      exact ⟨n - 1, by omega, f.no_trans f2, by omega, by omega⟩
def w5_1 (P : Program) (t65_1 : Sl) (h_22 : Heap) (b_4 : Nat) (t108_1 : Sl) (t108_2 : Int) (b_3 : Nat) (t101_1 : Sl) (t101_2 : Int) (b_2 : Nat) (t65_2 : Sl) (t65_3 : Int) (b_1 : Nat) (t73_1 : Sl) (t65_4 : Int) (t87_1 : Sl) (J_1 : Heap → Prop) (K : Value → Heap → Prop) : Prop :=
  eop P (Instr.makeSlice 34 (VI (t65_1.n : Int)) (VI (t65_1.n : Int))) h_22 fun rv_15 h_23 => ∃ t188_1 : Sl, rv_15 = (Sl.v t188_1) ∧ Vars h_23 [(b_4, [(Sl.v t108_1), (VI t108_2)]), (b_3, [(Sl.v t101_1), (VI t101_2)]), (b_2, [(Sl.v t65_2), (VI t65_3)]), (b_1, [(Sl.v t65_1)])] ∧
  ∃ J_2 : Nat → Int → Int → Heap → Prop, (∃ n0 : Nat, J_2 n0 0 0 h_23) ∧
  ∀ (n_1 : Nat) (total24_1 : Int) (t191_1 : Int) (h_24 : Heap), J_2 n_1 total24_1 t191_1 h_24 → Vars h_24 [(b_4, [(Sl.v t108_1), (VI t108_2)]), (b_3, [(Sl.v t101_1), (VI t101_2)]), (b_2, [(Sl.v t65_2), (VI t65_3)]), (b_1, [(Sl.v t65_1)])] →
  ((decide (t191_1 < (t73_1.n : Int))) = true →
  InB t73_1 t191_1 ∧
  ∃ t195_1 : Sl, hcell h_24 (Sl.at t73_1 t191_1 1) = some (Sl.v t195_1) ∧
  ∃ J_3 : Nat → Int → Int → Int → Int → Heap → Prop, (∃ n0 : Nat, J_3 n0 total24_1 t65_4 0 0 h_24) ∧
  ∀ (n_2 : Nat) (total24_2 : Int) (least28_1 : Int) (most29_1 : Int) (t199_1 : Int) (h_25 : Heap), J_3 n_2 total24_2 least28_1 most29_1 t199_1 h_25 → Vars h_25 [(b_4, [(Sl.v t108_1), (VI t108_2)]), (b_3, [(Sl.v t101_1), (VI t101_2)]), (b_2, [(Sl.v t65_2), (VI t65_3)]), (b_1, [(Sl.v t65_1)])] →
  ((decide (t199_1 < (t195_1.n : Int))) = true →
  InB t195_1 t199_1 ∧
  ∃ t203_1 : Int, hcell h_25 (Sl.at t195_1 t199_1 1) = some (VI t203_1) ∧
  ∃ J_4 : Int → Heap → Prop, (((decide (t203_1 < least28_1)) = true →
  J_4 t203_1 h_25) ∧
  ((decide (t203_1 < least28_1)) = false →
  J_4 least28_1 h_25)) ∧
  ∀ (x_1 : Int) (h_26 : Heap), J_4 x_1 h_26 → Vars h_26 [(b_4, [(Sl.v t108_1), (VI t108_2)]), (b_3, [(Sl.v t101_1), (VI t101_2)]), (b_2, [(Sl.v t65_2), (VI t65_3)]), (b_1, [(Sl.v t65_1)])] →
  ∃ J_5 : Int → Heap → Prop, (((decide (most29_1 < t203_1)) = true →
  J_5 t203_1 h_26) ∧
  ((decide (most29_1 < t203_1)) = false →
  J_5 most29_1 h_26)) ∧
  ∀ (x_2 : Int) (h_27 : Heap), J_5 x_2 h_27 → Vars h_27 [(b_4, [(Sl.v t108_1), (VI t108_2)]), (b_3, [(Sl.v t101_1), (VI t101_2)]), (b_2, [(Sl.v t65_2), (VI t65_3)]), (b_1, [(Sl.v t65_1)])] →
  InB t65_1 t191_1 ∧
  ∃ t220_1 : Sl, hcell h_27 (Sl.at t65_1 t191_1 1) = some (Sl.v t220_1) ∧
  InB t220_1 t199_1 ∧
  ∃ t223_1 : Int, hcell h_27 (Sl.at t220_1 t199_1 1) = some (VI t223_1) ∧
  InB t188_1 t223_1 ∧
  ∃ t225_1 : Int, hcell h_27 (Sl.at t188_1 t223_1 1) = some (VI t225_1) ∧
  InB t188_1 t223_1 ∧
  Writable h_27 (Sl.at t188_1 t223_1 1) ∧ Vars (hset h_27 (Sl.at t188_1 t223_1 1) (VI (w64 (t225_1 + t203_1)))) [(b_4, [(Sl.v t108_1), (VI t108_2)]), (b_3, [(Sl.v t101_1), (VI t101_2)]), (b_2, [(Sl.v t65_2), (VI t65_3)]), (b_1, [(Sl.v t65_1)])] ∧
  ∀ h_28 : Heap, h_28 = hset h_27 (Sl.at t188_1 t223_1 1) (VI (w64 (t225_1 + t203_1))) → Vars h_28 [(b_4, [(Sl.v t108_1), (VI t108_2)]), (b_3, [(Sl.v t101_1), (VI t101_2)]), (b_2, [(Sl.v t65_2), (VI t65_3)]), (b_1, [(Sl.v t65_1)])] →
  ∃ m : Nat, m < n_2 ∧ J_3 m (w64 (total24_2 + t203_1)) x_1 x_2 (w64 (t199_1 + 1)) h_28) ∧
  ((decide (t199_1 < (t195_1.n : Int))) = false →
  ((decide (0 < (t195_1.n : Int))) = true →
  ((decide (1 < (w64 (most29_1 - least28_1)))) = true →
  K (VB false) h_25) ∧
  ((decide (1 < (w64 (most29_1 - least28_1)))) = false →
  InB t65_2 t191_1 ∧
  ∃ t247_1 : Int, hcell h_25 (Sl.at t65_2 t191_1 1) = some (VI t247_1) ∧
  InB t101_1 t191_1 ∧
  ∃ t258_1 : Int, hcell h_25 (Sl.at t101_1 t191_1 1) = some (VI t258_1) ∧
  callM P 33 #[(Sl.v t195_1)] h_25 fun rv_16 h_29 => ∃ t249_1 : Int, rv_16 = (VI t249_1) ∧ Vars h_29 [(b_4, [(Sl.v t108_1), (VI t108_2)]), (b_3, [(Sl.v t101_1), (VI t101_2)]), (b_2, [(Sl.v t65_2), (VI t65_3)]), (b_1, [(Sl.v t65_1)])] ∧
  hcell h_29 (Sl.at t101_1 t191_1 1) = some (VI t258_1) ∧
  hcell h_29 (Sl.at t65_2 t191_1 1) = some (VI t247_1) ∧
  (t195_1.n : Int) ≠ 0 ∧
  ((!decide ((Int.tmod (w64 (t247_1 + t249_1)) (t195_1.n : Int)) = t258_1)) = true →
  K (VB false) h_29) ∧
  ((!decide ((Int.tmod (w64 (t247_1 + t249_1)) (t195_1.n : Int)) = t258_1)) = false →
  ∃ m : Nat, m < n_1 ∧ J_2 m total24_2 (w64 (t191_1 + 1)) h_29))) ∧
  ((decide (0 < (t195_1.n : Int))) = false →
  ∃ m : Nat, m < n_1 ∧ J_2 m total24_2 (w64 (t191_1 + 1)) h_25))) ∧
  ((decide (t191_1 < (t73_1.n : Int))) = false →
  ((!decide (total24_1 = t65_4)) = true →
  K (VB false) h_24) ∧
  ((!decide (total24_1 = t65_4)) = false →
  callM P 33 #[(Sl.v t87_1)] h_24 fun rv_17 h_30 => ∃ t267_1 : Int, rv_17 = (VI t267_1) ∧ Vars h_30 [(b_4, [(Sl.v t108_1), (VI t108_2)]), (b_3, [(Sl.v t101_1), (VI t101_2)]), (b_2, [(Sl.v t65_2), (VI t65_3)]), (b_1, [(Sl.v t65_1)])] ∧
  ((!decide (t267_1 = t65_4)) = true →
  K (VB false) h_30) ∧
  ((!decide (t267_1 = t65_4)) = false →
  callM P 31 #[(Sl.v t188_1), (Sl.v t87_1)] h_30 fun rv_18 h_31 => ∃ t274_1 : Bool, rv_18 = (VB t274_1) ∧ Vars h_31 [(b_4, [(Sl.v t108_1), (VI t108_2)]), (b_3, [(Sl.v t101_1), (VI t101_2)]), (b_2, [(Sl.v t65_2), (VI t65_3)]), (b_1, [(Sl.v t65_1)])] ∧
  ((!t274_1) = true →
  K (VB false) h_31) ∧
  ((!t274_1) = false →
  callM P 34 #[(Value.agg #[(Sl.v t65_1)]), (Value.agg #[(Sl.v t101_1), (VI t101_2)])] h_31 fun rv_19 h_32 => ∃ t280_1 : Bool, rv_19 = (VB t280_1) ∧ Vars h_32 [(b_4, [(Sl.v t108_1), (VI t108_2)]), (b_3, [(Sl.v t101_1), (VI t101_2)]), (b_2, [(Sl.v t65_2), (VI t65_3)]), (b_1, [(Sl.v t65_1)])] ∧
  ((!t280_1) = true →
  K (VB false) h_32) ∧
  ((!t280_1) = false →
  J_1  h_32)))))
def w5_2 (P : Program) (J_6 : Heap → Prop) (b_4 : Nat) (t108_1 : Sl) (t108_2 : Int) (b_3 : Nat) (t101_1 : Sl) (t101_2 : Int) (b_2 : Nat) (t65_2 : Sl) (t65_3 : Int) (b_1 : Nat) (t65_1 : Sl) (more1_1 : Sl) (K : Value → Heap → Prop) : Prop :=
  ∀ (h_42 : Heap), J_6  h_42 → Vars h_42 [(b_4, [(Sl.v t108_1), (VI t108_2)]), (b_3, [(Sl.v t101_1), (VI t101_2)]), (b_2, [(Sl.v t65_2), (VI t65_3)]), (b_1, [(Sl.v t65_1)])] →
  callM P 36 #[(Sl.v more1_1)] h_42 fun rv_22 h_43 => ∃ t324_1 : Sl, ∃ t324_2 : Sl, ∃ t324_3 : Int, rv_22 = (Value.tuple #[(Value.agg #[(Sl.v t324_1)]), (Value.agg #[(Sl.v t324_2), (VI t324_3)])]) ∧ Vars h_43 [(b_4, [(Sl.v t108_1), (VI t108_2)]), (b_3, [(Sl.v t101_1), (VI t101_2)]), (b_2, [(Sl.v t65_2), (VI t65_3)]), (b_1, [(Sl.v t65_1)])] ∧
  ∀ (b_7 : Nat) (b_8 : Nat) (h_47 : Heap), h_43.size ≤ b_7 → h_43.size ≤ b_8 → Fr (In []) h_43 h_47 → Vars h_47 [(b_8, [(Sl.v t324_2), (VI t324_3)]), (b_7, [(Sl.v t324_1)]), (b_4, [(Sl.v t108_1), (VI t108_2)]), (b_3, [(Sl.v t101_1), (VI t101_2)]), (b_2, [(Sl.v t65_2), (VI t65_3)]), (b_1, [(Sl.v t65_1)])] →
  callM P 35 #[(Value.agg #[(Sl.v t324_1)]), (Value.agg #[(Sl.v t324_2), (VI t324_3)])] h_47 fun rv_23 h_48 => ∃ t330_1 : Sl, ∃ t330_2 : Int, ∃ t330_3 : Bool, rv_23 = (Value.tuple #[(Value.agg #[(Sl.v t330_1), (VI t330_2)]), (VB t330_3)]) ∧ Vars h_48 [(b_8, [(Sl.v t324_2), (VI t324_3)]), (b_7, [(Sl.v t324_1)]), (b_4, [(Sl.v t108_1), (VI t108_2)]), (b_3, [(Sl.v t101_1), (VI t101_2)]), (b_2, [(Sl.v t65_2), (VI t65_3)]), (b_1, [(Sl.v t65_1)])] ∧
  ∀ (b_9 : Nat) (h_50 : Heap), h_48.size ≤ b_9 → Fr (In []) h_48 h_50 → Vars h_50 [(b_9, [(Sl.v t330_1), (VI t330_2)]), (b_8, [(Sl.v t324_2), (VI t324_3)]), (b_7, [(Sl.v t324_1)]), (b_4, [(Sl.v t108_1), (VI t108_2)]), (b_3, [(Sl.v t101_1), (VI t101_2)]), (b_2, [(Sl.v t65_2), (VI t65_3)]), (b_1, [(Sl.v t65_1)])] →
  callM P 37 #[(Value.agg #[(Sl.v t324_1)]), (Value.agg #[(Sl.v t324_2), (VI t324_3)])] h_50 fun rv_24 h_51 => ∃ t336_1 : Sl, ∃ t336_2 : Int, ∃ t336_3 : Bool, rv_24 = (Value.tuple #[(Value.agg #[(Sl.v t336_1), (VI t336_2)]), (VB t336_3)]) ∧ Vars h_51 [(b_9, [(Sl.v t330_1), (VI t330_2)]), (b_8, [(Sl.v t324_2), (VI t324_3)]), (b_7, [(Sl.v t324_1)]), (b_4, [(Sl.v t108_1), (VI t108_2)]), (b_3, [(Sl.v t101_1), (VI t101_2)]), (b_2, [(Sl.v t65_2), (VI t65_3)]), (b_1, [(Sl.v t65_1)])] ∧
  ∀ (b_10 : Nat) (h_53 : Heap), h_51.size ≤ b_10 → Fr (In []) h_51 h_53 → Vars h_53 [(b_10, [(Sl.v t336_1), (VI t336_2)]), (b_9, [(Sl.v t330_1), (VI t330_2)]), (b_8, [(Sl.v t324_2), (VI t324_3)]), (b_7, [(Sl.v t324_1)]), (b_4, [(Sl.v t108_1), (VI t108_2)]), (b_3, [(Sl.v t101_1), (VI t101_2)]), (b_2, [(Sl.v t65_2), (VI t65_3)]), (b_1, [(Sl.v t65_1)])] →
  callM P 38 #[(Value.agg #[(Sl.v t324_1)]), (Value.agg #[(Sl.v t324_2), (VI t324_3)])] h_53 fun rv_25 h_54 => ∃ t342_1 : Sl, ∃ t342_2 : Bool, rv_25 = (Value.tuple #[(Sl.v t342_1), (VB t342_2)]) ∧ Vars h_54 [(b_10, [(Sl.v t336_1), (VI t336_2)]), (b_9, [(Sl.v t330_1), (VI t330_2)]), (b_8, [(Sl.v t324_2), (VI t324_3)]), (b_7, [(Sl.v t324_1)]), (b_4, [(Sl.v t108_1), (VI t108_2)]), (b_3, [(Sl.v t101_1), (VI t101_2)]), (b_2, [(Sl.v t65_2), (VI t65_3)]), (b_1, [(Sl.v t65_1)])] ∧
  callM P 39 #[(Value.agg #[(Sl.v t324_1)]), (Value.agg #[(Sl.v t324_2), (VI t324_3)])] h_54 fun rv_26 h_55 => ∃ t348_1 : Sl, ∃ t348_2 : Bool, rv_26 = (Value.tuple #[(Sl.v t348_1), (VB t348_2)]) ∧ Vars h_55 [(b_10, [(Sl.v t336_1), (VI t336_2)]), (b_9, [(Sl.v t330_1), (VI t330_2)]), (b_8, [(Sl.v t324_2), (VI t324_3)]), (b_7, [(Sl.v t324_1)]), (b_4, [(Sl.v t108_1), (VI t108_2)]), (b_3, [(Sl.v t101_1), (VI t101_2)]), (b_2, [(Sl.v t65_2), (VI t65_3)]), (b_1, [(Sl.v t65_1)])] ∧
  callM P 40 #[(Value.agg #[(Sl.v t324_2), (VI t324_3)])] h_55 fun rv_27 h_56 => ∃ t353_1 : ByteArray, ∃ t353_2 : Bool, rv_27 = (Value.tuple #[(VS t353_1), (VB t353_2)]) ∧ Vars h_56 [(b_10, [(Sl.v t336_1), (VI t336_2)]), (b_9, [(Sl.v t330_1), (VI t330_2)]), (b_8, [(Sl.v t324_2), (VI t324_3)]), (b_7, [(Sl.v t324_1)]), (b_4, [(Sl.v t108_1), (VI t108_2)]), (b_3, [(Sl.v t101_1), (VI t101_2)]), (b_2, [(Sl.v t65_2), (VI t65_3)]), (b_1, [(Sl.v t65_1)])] ∧
  callM P 41 #[(Value.agg #[(Sl.v t324_2), (VI t324_3)])] h_56 fun rv_28 h_57 => ∃ t358_1 : ByteArray, ∃ t358_2 : Bool, rv_28 = (Value.tuple #[(VS t358_1), (VB t358_2)]) ∧ Vars h_57 [(b_10, [(Sl.v t336_1), (VI t336_2)]), (b_9, [(Sl.v t330_1), (VI t330_2)]), (b_8, [(Sl.v t324_2), (VI t324_3)]), (b_7, [(Sl.v t324_1)]), (b_4, [(Sl.v t108_1), (VI t108_2)]), (b_3, [(Sl.v t101_1), (VI t101_2)]), (b_2, [(Sl.v t65_2), (VI t65_3)]), (b_1, [(Sl.v t65_1)])] ∧
  ((!(t330_3 == t336_3)) = true →
  K (VB false) h_57) ∧
  ((!(t330_3 == t336_3)) = false →
  callM P 32 #[(Value.agg #[(Sl.v t330_1), (VI t330_2)]), (Value.agg #[(Sl.v t336_1), (VI t336_2)])] h_57 fun rv_29 h_58 => ∃ t367_1 : Bool, rv_29 = (VB t367_1) ∧ Vars h_58 [(b_10, [(Sl.v t336_1), (VI t336_2)]), (b_9, [(Sl.v t330_1), (VI t330_2)]), (b_8, [(Sl.v t324_2), (VI t324_3)]), (b_7, [(Sl.v t324_1)]), (b_4, [(Sl.v t108_1), (VI t108_2)]), (b_3, [(Sl.v t101_1), (VI t101_2)]), (b_2, [(Sl.v t65_2), (VI t65_3)]), (b_1, [(Sl.v t65_1)])] ∧
  ((!t367_1) = true →
  K (VB false) h_58) ∧
  ((!t367_1) = false →
  ((!(t342_2 == t348_2)) = true →
  K (VB false) h_58) ∧
  ((!(t342_2 == t348_2)) = false →
  callM P 42 #[(Sl.v t342_1), (Sl.v t348_1)] h_58 fun rv_30 h_59 => ∃ t378_1 : Bool, rv_30 = (VB t378_1) ∧ Vars h_59 [(b_10, [(Sl.v t336_1), (VI t336_2)]), (b_9, [(Sl.v t330_1), (VI t330_2)]), (b_8, [(Sl.v t324_2), (VI t324_3)]), (b_7, [(Sl.v t324_1)]), (b_4, [(Sl.v t108_1), (VI t108_2)]), (b_3, [(Sl.v t101_1), (VI t101_2)]), (b_2, [(Sl.v t65_2), (VI t65_3)]), (b_1, [(Sl.v t65_1)])] ∧
  ((!t378_1) = true →
  K (VB false) h_59) ∧
  ((!t378_1) = false →
  ((!(t353_2 == t358_2)) = true →
  K (VB false) h_59) ∧
  ((!(t353_2 == t358_2)) = false →
  ((!(ByteArray.toList t353_1 == ByteArray.toList t358_1)) = true →
  K (VB false) h_59) ∧
  ((!(ByteArray.toList t353_1 == ByteArray.toList t358_1)) = false →
  callM P 34 #[(Value.agg #[(Sl.v t324_1)]), (Value.agg #[(Sl.v t324_2), (VI t324_3)])] h_59 fun rv_31 h_60 => ∃ t394_1 : Bool, rv_31 = (VB t394_1) ∧ Vars h_60 [(b_10, [(Sl.v t336_1), (VI t336_2)]), (b_9, [(Sl.v t330_1), (VI t330_2)]), (b_8, [(Sl.v t324_2), (VI t324_3)]), (b_7, [(Sl.v t324_1)]), (b_4, [(Sl.v t108_1), (VI t108_2)]), (b_3, [(Sl.v t101_1), (VI t101_2)]), (b_2, [(Sl.v t65_2), (VI t65_3)]), (b_1, [(Sl.v t65_1)])] ∧
  callM P 43 #[(Value.agg #[(Sl.v t324_1)]), (Value.agg #[(Sl.v t324_2), (VI t324_3)])] h_60 fun rv_32 h_61 => ∃ t397_1 : Bool, rv_32 = (VB t397_1) ∧ Vars h_61 [(b_10, [(Sl.v t336_1), (VI t336_2)]), (b_9, [(Sl.v t330_1), (VI t330_2)]), (b_8, [(Sl.v t324_2), (VI t324_3)]), (b_7, [(Sl.v t324_1)]), (b_4, [(Sl.v t108_1), (VI t108_2)]), (b_3, [(Sl.v t101_1), (VI t101_2)]), (b_2, [(Sl.v t65_2), (VI t65_3)]), (b_1, [(Sl.v t65_1)])] ∧
  ((!(t394_1 == t397_1)) = true →
  K (VB false) h_61) ∧
  ((!(t394_1 == t397_1)) = false →
  callM P 34 #[(Value.agg #[(Sl.v t324_1)]), (Value.agg #[(Sl.v t324_2), (VI t324_3)])] h_61 fun rv_33 h_62 => ∃ t404_1 : Bool, rv_33 = (VB t404_1) ∧ Vars h_62 [(b_10, [(Sl.v t336_1), (VI t336_2)]), (b_9, [(Sl.v t330_1), (VI t330_2)]), (b_8, [(Sl.v t324_2), (VI t324_3)]), (b_7, [(Sl.v t324_1)]), (b_4, [(Sl.v t108_1), (VI t108_2)]), (b_3, [(Sl.v t101_1), (VI t101_2)]), (b_2, [(Sl.v t65_2), (VI t65_3)]), (b_1, [(Sl.v t65_1)])] ∧
  ((!(t342_2 == t404_1)) = true →
  K (VB false) h_62) ∧
  ((!(t342_2 == t404_1)) = false →
  ∃ J_8 : Nat → Int → Heap → Prop, (∃ n0 : Nat, J_8 n0 0 h_62) ∧
  ∀ (n_7 : Nat) (t409_1 : Int) (h_63 : Heap), J_8 n_7 t409_1 h_63 → Vars h_63 [(b_10, [(Sl.v t336_1), (VI t336_2)]), (b_9, [(Sl.v t330_1), (VI t330_2)]), (b_8, [(Sl.v t324_2), (VI t324_3)]), (b_7, [(Sl.v t324_1)]), (b_4, [(Sl.v t108_1), (VI t108_2)]), (b_3, [(Sl.v t101_1), (VI t101_2)]), (b_2, [(Sl.v t65_2), (VI t65_3)]), (b_1, [(Sl.v t65_1)])] →
  ((decide (t409_1 < (t342_1.n : Int))) = true →
  InB t342_1 t409_1 ∧
  ∃ t413_1 : Sl, ∃ t413_2 : Int, CellsAt h_63 (Sl.at t342_1 t409_1 2) [(Sl.v t413_1), (VI t413_2)] ∧
  ∀ (b_11 : Nat) (h_65 : Heap), h_63.size ≤ b_11 → Fr (In []) h_63 h_65 → Vars h_65 [(b_11, [(Sl.v t413_1), (VI t413_2)]), (b_10, [(Sl.v t336_1), (VI t336_2)]), (b_9, [(Sl.v t330_1), (VI t330_2)]), (b_8, [(Sl.v t324_2), (VI t324_3)]), (b_7, [(Sl.v t324_1)]), (b_4, [(Sl.v t108_1), (VI t108_2)]), (b_3, [(Sl.v t101_1), (VI t101_2)]), (b_2, [(Sl.v t65_2), (VI t65_3)]), (b_1, [(Sl.v t65_1)])] →
  callM P 35 #[(Value.agg #[(Sl.v t324_1)]), (Value.agg #[(Sl.v t413_1), (VI t413_2)])] h_65 fun rv_34 h_66 => ∃ t417_1 : Sl, ∃ t417_2 : Int, ∃ t417_3 : Bool, rv_34 = (Value.tuple #[(Value.agg #[(Sl.v t417_1), (VI t417_2)]), (VB t417_3)]) ∧ Vars h_66 [(b_11, [(Sl.v t413_1), (VI t413_2)]), (b_10, [(Sl.v t336_1), (VI t336_2)]), (b_9, [(Sl.v t330_1), (VI t330_2)]), (b_8, [(Sl.v t324_2), (VI t324_3)]), (b_7, [(Sl.v t324_1)]), (b_4, [(Sl.v t108_1), (VI t108_2)]), (b_3, [(Sl.v t101_1), (VI t101_2)]), (b_2, [(Sl.v t65_2), (VI t65_3)]), (b_1, [(Sl.v t65_1)])] ∧
  ((!t417_3) = true →
  ∀ (b_12 : Nat) (h_68 : Heap), h_66.size ≤ b_12 → Fr (In []) h_66 h_68 → Vars h_68 [(b_12, [(Sl.v t417_1), (VI t417_2)]), (b_11, [(Sl.v t413_1), (VI t413_2)]), (b_10, [(Sl.v t336_1), (VI t336_2)]), (b_9, [(Sl.v t330_1), (VI t330_2)]), (b_8, [(Sl.v t324_2), (VI t324_3)]), (b_7, [(Sl.v t324_1)]), (b_4, [(Sl.v t108_1), (VI t108_2)]), (b_3, [(Sl.v t101_1), (VI t101_2)]), (b_2, [(Sl.v t65_2), (VI t65_3)]), (b_1, [(Sl.v t65_1)])] →
  K (VB false) h_68) ∧
  ((!t417_3) = false →
  ∀ (b_12 : Nat) (h_68 : Heap), h_66.size ≤ b_12 → Fr (In []) h_66 h_68 → Vars h_68 [(b_12, [(Sl.v t417_1), (VI t417_2)]), (b_11, [(Sl.v t413_1), (VI t413_2)]), (b_10, [(Sl.v t336_1), (VI t336_2)]), (b_9, [(Sl.v t330_1), (VI t330_2)]), (b_8, [(Sl.v t324_2), (VI t324_3)]), (b_7, [(Sl.v t324_1)]), (b_4, [(Sl.v t108_1), (VI t108_2)]), (b_3, [(Sl.v t101_1), (VI t101_2)]), (b_2, [(Sl.v t65_2), (VI t65_3)]), (b_1, [(Sl.v t65_1)])] →
  callM P 32 #[(Value.agg #[(Sl.v t417_1), (VI t417_2)]), (Value.agg #[(Sl.v t324_2), (VI t324_3)])] h_68 fun rv_35 h_69 => ∃ t425_1 : Bool, rv_35 = (VB t425_1) ∧ Vars h_69 [(b_12, [(Sl.v t417_1), (VI t417_2)]), (b_11, [(Sl.v t413_1), (VI t413_2)]), (b_10, [(Sl.v t336_1), (VI t336_2)]), (b_9, [(Sl.v t330_1), (VI t330_2)]), (b_8, [(Sl.v t324_2), (VI t324_3)]), (b_7, [(Sl.v t324_1)]), (b_4, [(Sl.v t108_1), (VI t108_2)]), (b_3, [(Sl.v t101_1), (VI t101_2)]), (b_2, [(Sl.v t65_2), (VI t65_3)]), (b_1, [(Sl.v t65_1)])] ∧
  ((!t425_1) = true →
  K (VB false) h_69) ∧
  ((!t425_1) = false →
  ((decide (0 < t409_1)) = true →
  InB t342_1 (w64 (t409_1 - 1)) ∧
  ∃ t437_1 : Int, hcell h_69 (Addr.add (Sl.at t342_1 (w64 (t409_1 - 1)) 2) 1) = some (VI t437_1) ∧
  ((decide (t413_2 ≤ t437_1)) = true →
  K (VB false) h_69) ∧
  ((decide (t413_2 ≤ t437_1)) = false →
  ∃ m : Nat, m < n_7 ∧ J_8 m (w64 (t409_1 + 1)) h_69)) ∧
  ((decide (0 < t409_1)) = false →
  ∃ m : Nat, m < n_7 ∧ J_8 m (w64 (t409_1 + 1)) h_69)))) ∧
  ((decide (t409_1 < (t342_1.n : Int))) = false →
  (t330_3 = true →
  callM P 38 #[(Value.agg #[(Sl.v t324_1)]), (Value.agg #[(Sl.v t330_1), (VI t330_2)])] h_63 fun rv_36 h_70 => ∃ t448_1 : Sl, ∃ t448_2 : Bool, rv_36 = (Value.tuple #[(Sl.v t448_1), (VB t448_2)]) ∧ Vars h_70 [(b_10, [(Sl.v t336_1), (VI t336_2)]), (b_9, [(Sl.v t330_1), (VI t330_2)]), (b_8, [(Sl.v t324_2), (VI t324_3)]), (b_7, [(Sl.v t324_1)]), (b_4, [(Sl.v t108_1), (VI t108_2)]), (b_3, [(Sl.v t101_1), (VI t101_2)]), (b_2, [(Sl.v t65_2), (VI t65_3)]), (b_1, [(Sl.v t65_1)])] ∧
  ∃ J_9 : Nat → Bool → Int → Heap → Prop, (∃ n0 : Nat, J_9 n0 false 0 h_70) ∧
  ∀ (n_8 : Nat) (found57_1 : Bool) (t453_1 : Int) (h_71 : Heap), J_9 n_8 found57_1 t453_1 h_71 → Vars h_71 [(b_10, [(Sl.v t336_1), (VI t336_2)]), (b_9, [(Sl.v t330_1), (VI t330_2)]), (b_8, [(Sl.v t324_2), (VI t324_3)]), (b_7, [(Sl.v t324_1)]), (b_4, [(Sl.v t108_1), (VI t108_2)]), (b_3, [(Sl.v t101_1), (VI t101_2)]), (b_2, [(Sl.v t65_2), (VI t65_3)]), (b_1, [(Sl.v t65_1)])] →
  ((decide (t453_1 < (t448_1.n : Int))) = true →
  InB t448_1 t453_1 ∧
  ∃ t456_1 : Sl, ∃ t456_2 : Int, CellsAt h_71 (Sl.at t448_1 t453_1 2) [(Sl.v t456_1), (VI t456_2)] ∧
  (found57_1 = true →
  ∀ (b_13 : Nat) (h_73 : Heap), h_71.size ≤ b_13 → Fr (In []) h_71 h_73 → Vars h_73 [(b_13, [(Sl.v t456_1), (VI t456_2)]), (b_10, [(Sl.v t336_1), (VI t336_2)]), (b_9, [(Sl.v t330_1), (VI t330_2)]), (b_8, [(Sl.v t324_2), (VI t324_3)]), (b_7, [(Sl.v t324_1)]), (b_4, [(Sl.v t108_1), (VI t108_2)]), (b_3, [(Sl.v t101_1), (VI t101_2)]), (b_2, [(Sl.v t65_2), (VI t65_3)]), (b_1, [(Sl.v t65_1)])] →
  ∃ m : Nat, m < n_8 ∧ J_9 m true (w64 (t453_1 + 1)) h_73) ∧
  (found57_1 = false →
  ∀ (b_13 : Nat) (h_73 : Heap), h_71.size ≤ b_13 → Fr (In []) h_71 h_73 → Vars h_73 [(b_13, [(Sl.v t456_1), (VI t456_2)]), (b_10, [(Sl.v t336_1), (VI t336_2)]), (b_9, [(Sl.v t330_1), (VI t330_2)]), (b_8, [(Sl.v t324_2), (VI t324_3)]), (b_7, [(Sl.v t324_1)]), (b_4, [(Sl.v t108_1), (VI t108_2)]), (b_3, [(Sl.v t101_1), (VI t101_2)]), (b_2, [(Sl.v t65_2), (VI t65_3)]), (b_1, [(Sl.v t65_1)])] →
  callM P 32 #[(Value.agg #[(Sl.v t456_1), (VI t456_2)]), (Value.agg #[(Sl.v t324_2), (VI t324_3)])] h_73 fun rv_37 h_74 => ∃ t461_1 : Bool, rv_37 = (VB t461_1) ∧ Vars h_74 [(b_13, [(Sl.v t456_1), (VI t456_2)]), (b_10, [(Sl.v t336_1), (VI t336_2)]), (b_9, [(Sl.v t330_1), (VI t330_2)]), (b_8, [(Sl.v t324_2), (VI t324_3)]), (b_7, [(Sl.v t324_1)]), (b_4, [(Sl.v t108_1), (VI t108_2)]), (b_3, [(Sl.v t101_1), (VI t101_2)]), (b_2, [(Sl.v t65_2), (VI t65_3)]), (b_1, [(Sl.v t65_1)])] ∧
  ∃ m : Nat, m < n_8 ∧ J_9 m t461_1 (w64 (t453_1 + 1)) h_74)) ∧
  ((decide (t453_1 < (t448_1.n : Int))) = false →
  (t448_2 = true →
  K (VB found57_1) h_71) ∧
  (t448_2 = false →
  K (VB false) h_71))) ∧
  (t330_3 = false →
  K (VB true) h_63))))))))))
def w5 (P : Program) (code0_1 : Sl) (more1_1 : Sl) (h : Heap) (K : Value → Heap → Prop) : Prop :=
  callM P 20 #[(Sl.v code0_1), (Sl.v more1_1)] h fun rv_1 h_1 => ∃ t62_1 : Bool, rv_1 = (VB t62_1) ∧ Vars h_1 [] ∧
  (t62_1 = true →
  K (VB true) h_1) ∧
  (t62_1 = false →
  callM P 21 #[(Sl.v code0_1)] h_1 fun rv_2 h_2 => ∃ t65_1 : Sl, ∃ t65_2 : Sl, ∃ t65_3 : Int, ∃ t65_4 : Int, rv_2 = (Value.tuple #[(Value.agg #[(Sl.v t65_1)]), (Value.agg #[(Sl.v t65_2), (VI t65_3)]), (VI t65_4)]) ∧ Vars h_2 [] ∧
  ∀ (b_1 : Nat) (b_2 : Nat) (h_6 : Heap), h_2.size ≤ b_1 → h_2.size ≤ b_2 → Fr (In []) h_2 h_6 → Vars h_6 [(b_2, [(Sl.v t65_2), (VI t65_3)]), (b_1, [(Sl.v t65_1)])] →
  callM P 22 #[(Value.agg #[(Sl.v t65_1)]), (Value.agg #[(Sl.v t65_2), (VI t65_3)]), (VI t65_4)] h_6 fun rv_3 h_7 => ∃ t73_1 : Sl, ∃ t73_2 : Bool, rv_3 = (Value.tuple #[(Sl.v t73_1), (VB t73_2)]) ∧ Vars h_7 [(b_2, [(Sl.v t65_2), (VI t65_3)]), (b_1, [(Sl.v t65_1)])] ∧
  callM P 23 #[(Value.agg #[(Sl.v t65_1)]), (Value.agg #[(Sl.v t65_2), (VI t65_3)]), (VI t65_4)] h_7 fun rv_4 h_8 => ∃ t80_1 : Sl, ∃ t80_2 : Bool, rv_4 = (Value.tuple #[(Sl.v t80_1), (VB t80_2)]) ∧ Vars h_8 [(b_2, [(Sl.v t65_2), (VI t65_3)]), (b_1, [(Sl.v t65_1)])] ∧
  callM P 24 #[(Value.agg #[(Sl.v t65_1)]), (Value.agg #[(Sl.v t65_2), (VI t65_3)]), (VI t65_4)] h_8 fun rv_5 h_9 => ∃ t87_1 : Sl, ∃ t87_2 : Bool, rv_5 = (Value.tuple #[(Sl.v t87_1), (VB t87_2)]) ∧ Vars h_9 [(b_2, [(Sl.v t65_2), (VI t65_3)]), (b_1, [(Sl.v t65_1)])] ∧
  callM P 25 #[(Value.agg #[(Sl.v t65_1)]), (Value.agg #[(Sl.v t65_2), (VI t65_3)]), (VI t65_4)] h_9 fun rv_6 h_10 => ∃ t94_1 : Sl, ∃ t94_2 : Bool, rv_6 = (Value.tuple #[(Sl.v t94_1), (VB t94_2)]) ∧ Vars h_10 [(b_2, [(Sl.v t65_2), (VI t65_3)]), (b_1, [(Sl.v t65_1)])] ∧
  callM P 26 #[(Value.agg #[(Sl.v t65_1)]), (Value.agg #[(Sl.v t65_2), (VI t65_3)]), (VI t65_4)] h_10 fun rv_7 h_11 => ∃ t101_1 : Sl, ∃ t101_2 : Int, ∃ t101_3 : Bool, rv_7 = (Value.tuple #[(Value.agg #[(Sl.v t101_1), (VI t101_2)]), (VB t101_3)]) ∧ Vars h_11 [(b_2, [(Sl.v t65_2), (VI t65_3)]), (b_1, [(Sl.v t65_1)])] ∧
  ∀ (b_3 : Nat) (h_13 : Heap), h_11.size ≤ b_3 → Fr (In []) h_11 h_13 → Vars h_13 [(b_3, [(Sl.v t101_1), (VI t101_2)]), (b_2, [(Sl.v t65_2), (VI t65_3)]), (b_1, [(Sl.v t65_1)])] →
  callM P 27 #[(Value.agg #[(Sl.v t65_1)]), (Value.agg #[(Sl.v t65_2), (VI t65_3)]), (VI t65_4)] h_13 fun rv_8 h_14 => ∃ t108_1 : Sl, ∃ t108_2 : Int, ∃ t108_3 : Bool, rv_8 = (Value.tuple #[(Value.agg #[(Sl.v t108_1), (VI t108_2)]), (VB t108_3)]) ∧ Vars h_14 [(b_3, [(Sl.v t101_1), (VI t101_2)]), (b_2, [(Sl.v t65_2), (VI t65_3)]), (b_1, [(Sl.v t65_1)])] ∧
  ∀ (b_4 : Nat) (h_16 : Heap), h_14.size ≤ b_4 → Fr (In []) h_14 h_16 → Vars h_16 [(b_4, [(Sl.v t108_1), (VI t108_2)]), (b_3, [(Sl.v t101_1), (VI t101_2)]), (b_2, [(Sl.v t65_2), (VI t65_3)]), (b_1, [(Sl.v t65_1)])] →
  callM P 28 #[(Value.agg #[(Sl.v t65_1)]), (Value.agg #[(Sl.v t65_2), (VI t65_3)]), (VI t65_4)] h_16 fun rv_9 h_17 => ∃ t115_1 : Sl, ∃ t115_2 : Bool, rv_9 = (Value.tuple #[(Sl.v t115_1), (VB t115_2)]) ∧ Vars h_17 [(b_4, [(Sl.v t108_1), (VI t108_2)]), (b_3, [(Sl.v t101_1), (VI t101_2)]), (b_2, [(Sl.v t65_2), (VI t65_3)]), (b_1, [(Sl.v t65_1)])] ∧
  callM P 29 #[(Value.agg #[(Sl.v t65_1)]), (Value.agg #[(Sl.v t65_2), (VI t65_3)]), (VI t65_4)] h_17 fun rv_10 h_18 => ∃ t122_1 : Sl, ∃ t122_2 : Bool, rv_10 = (Value.tuple #[(Sl.v t122_1), (VB t122_2)]) ∧ Vars h_18 [(b_4, [(Sl.v t108_1), (VI t108_2)]), (b_3, [(Sl.v t101_1), (VI t101_2)]), (b_2, [(Sl.v t65_2), (VI t65_3)]), (b_1, [(Sl.v t65_1)])] ∧
  ((!(t73_2 == t80_2)) = true →
  K (VB false) h_18) ∧
  ((!(t73_2 == t80_2)) = false →
  callM P 30 #[(Sl.v t73_1), (Sl.v t80_1)] h_18 fun rv_11 h_19 => ∃ t131_1 : Bool, rv_11 = (VB t131_1) ∧ Vars h_19 [(b_4, [(Sl.v t108_1), (VI t108_2)]), (b_3, [(Sl.v t101_1), (VI t101_2)]), (b_2, [(Sl.v t65_2), (VI t65_3)]), (b_1, [(Sl.v t65_1)])] ∧
  ((!t131_1) = true →
  K (VB false) h_19) ∧
  ((!t131_1) = false →
  ((!(t87_2 == t94_2)) = true →
  K (VB false) h_19) ∧
  ((!(t87_2 == t94_2)) = false →
  callM P 31 #[(Sl.v t87_1), (Sl.v t94_1)] h_19 fun rv_12 h_20 => ∃ t142_1 : Bool, rv_12 = (VB t142_1) ∧ Vars h_20 [(b_4, [(Sl.v t108_1), (VI t108_2)]), (b_3, [(Sl.v t101_1), (VI t101_2)]), (b_2, [(Sl.v t65_2), (VI t65_3)]), (b_1, [(Sl.v t65_1)])] ∧
  ((!t142_1) = true →
  K (VB false) h_20) ∧
  ((!t142_1) = false →
  ((!(t101_3 == t108_3)) = true →
  K (VB false) h_20) ∧
  ((!(t101_3 == t108_3)) = false →
  callM P 32 #[(Value.agg #[(Sl.v t101_1), (VI t101_2)]), (Value.agg #[(Sl.v t108_1), (VI t108_2)])] h_20 fun rv_13 h_21 => ∃ t153_1 : Bool, rv_13 = (VB t153_1) ∧ Vars h_21 [(b_4, [(Sl.v t108_1), (VI t108_2)]), (b_3, [(Sl.v t101_1), (VI t101_2)]), (b_2, [(Sl.v t65_2), (VI t65_3)]), (b_1, [(Sl.v t65_1)])] ∧
  ((!t153_1) = true →
  K (VB false) h_21) ∧
  ((!t153_1) = false →
  ((!(t115_2 == t122_2)) = true →
  K (VB false) h_21) ∧
  ((!(t115_2 == t122_2)) = false →
  callM P 31 #[(Sl.v t115_1), (Sl.v t122_1)] h_21 fun rv_14 h_22 => ∃ t164_1 : Bool, rv_14 = (VB t164_1) ∧ Vars h_22 [(b_4, [(Sl.v t108_1), (VI t108_2)]), (b_3, [(Sl.v t101_1), (VI t101_2)]), (b_2, [(Sl.v t65_2), (VI t65_3)]), (b_1, [(Sl.v t65_1)])] ∧
  ((!t164_1) = true →
  K (VB false) h_22) ∧
  ((!t164_1) = false →
  ((!(t87_2 == t73_2)) = true →
  K (VB false) h_22) ∧
  ((!(t87_2 == t73_2)) = false →
  ((!(t101_3 == t73_2)) = true →
  K (VB false) h_22) ∧
  ((!(t101_3 == t73_2)) = false →
  (t115_2 = true →
  ((!t73_2) = true →
  K (VB false) h_22) ∧
  ((!t73_2) = false →
  ∃ J_1 : Heap → Prop, ((t73_2 = true →
  w5_1 P t65_1 h_22 b_4 t108_1 t108_2 b_3 t101_1 t101_2 b_2 t65_2 t65_3 b_1 t73_1 t65_4 t87_1 J_1 K) ∧
  (t73_2 = false →
  J_1  h_22)) ∧
  ∀ (h_33 : Heap), J_1  h_33 → Vars h_33 [(b_4, [(Sl.v t108_1), (VI t108_2)]), (b_3, [(Sl.v t101_1), (VI t101_2)]), (b_2, [(Sl.v t65_2), (VI t65_3)]), (b_1, [(Sl.v t65_1)])] →
  ∃ J_6 : Heap → Prop, (∀ (b_5 : Nat) (h_35 : Heap), h_33.size ≤ b_5 → Fr (In []) h_33 h_35 → Vars h_35 [(b_5, [(Sl.v t65_2), (VI t65_3)]), (b_4, [(Sl.v t108_1), (VI t108_2)]), (b_3, [(Sl.v t101_1), (VI t101_2)]), (b_2, [(Sl.v t65_2), (VI t65_3)]), (b_1, [(Sl.v t65_1)])] →
  ∃ J_7 : Nat → Int → Sl → Int → Heap → Prop, (∃ n0 : Nat, J_7 n0 0 t65_2 t65_3 h_35) ∧
  ∀ (n_5 : Nat) (t287_1 : Int) (x_3 : Sl) (x_4 : Int) (h_36 : Heap), J_7 n_5 t287_1 x_3 x_4 h_36 → Vars h_36 [(b_5, [(Sl.v x_3), (VI x_4)]), (b_4, [(Sl.v t108_1), (VI t108_2)]), (b_3, [(Sl.v t101_1), (VI t101_2)]), (b_2, [(Sl.v t65_2), (VI t65_3)]), (b_1, [(Sl.v t65_1)])] →
  ((decide (t287_1 < (t115_1.n : Int))) = true →
  InB t115_1 t287_1 ∧
  ∃ t291_1 : Int, hcell h_36 (Sl.at t115_1 t287_1 1) = some (VI t291_1) ∧
  ((!decide (x_4 = t291_1)) = true →
  K (VB false) h_36) ∧
  ((!decide (x_4 = t291_1)) = false →
  ((decide ((w64 (t287_1 + 1)) < (t115_1.n : Int))) = true →
  callM P 35 #[(Value.agg #[(Sl.v t65_1)]), (Value.agg #[(Sl.v x_3), (VI x_4)])] h_36 fun rv_20 h_37 => ∃ t304_1 : Sl, ∃ t304_2 : Int, ∃ t304_3 : Bool, rv_20 = (Value.tuple #[(Value.agg #[(Sl.v t304_1), (VI t304_2)]), (VB t304_3)]) ∧ Vars h_37 [(b_5, [(Sl.v x_3), (VI x_4)]), (b_4, [(Sl.v t108_1), (VI t108_2)]), (b_3, [(Sl.v t101_1), (VI t101_2)]), (b_2, [(Sl.v t65_2), (VI t65_3)]), (b_1, [(Sl.v t65_1)])] ∧
  ((!t304_3) = true →
  ∀ (b_6 : Nat) (h_39 : Heap), h_37.size ≤ b_6 → Fr (In []) h_37 h_39 → Vars h_39 [(b_6, [(Sl.v t304_1), (VI t304_2)]), (b_5, [(Sl.v x_3), (VI x_4)]), (b_4, [(Sl.v t108_1), (VI t108_2)]), (b_3, [(Sl.v t101_1), (VI t101_2)]), (b_2, [(Sl.v t65_2), (VI t65_3)]), (b_1, [(Sl.v t65_1)])] →
  K (VB false) h_39) ∧
  ((!t304_3) = false →
  ∀ (b_6 : Nat) (h_40 : Heap), h_37.size ≤ b_6 → Fr (In [b_5]) h_37 h_40 → Vars h_40 [(b_6, [(Sl.v t304_1), (VI t304_2)]), (b_5, [(Sl.v t304_1), (VI t304_2)]), (b_4, [(Sl.v t108_1), (VI t108_2)]), (b_3, [(Sl.v t101_1), (VI t101_2)]), (b_2, [(Sl.v t65_2), (VI t65_3)]), (b_1, [(Sl.v t65_1)])] →
  ∃ m : Nat, m < n_5 ∧ J_7 m (w64 (t287_1 + 1)) t304_1 t304_2 h_40)) ∧
  ((decide ((w64 (t287_1 + 1)) < (t115_1.n : Int))) = false →
  ∃ m : Nat, m < n_5 ∧ J_7 m (w64 (t287_1 + 1)) x_3 x_4 h_36))) ∧
  ((decide (t287_1 < (t115_1.n : Int))) = false →
  ((!decide ((t115_1.n : Int) = (w64 (t65_4 + 1)))) = true →
  K (VB false) h_36) ∧
  ((!decide ((t115_1.n : Int) = (w64 (t65_4 + 1)))) = false →
  callM P 32 #[(Value.agg #[(Sl.v x_3), (VI x_4)]), (Value.agg #[(Sl.v t101_1), (VI t101_2)])] h_36 fun rv_21 h_41 => ∃ t319_1 : Bool, rv_21 = (VB t319_1) ∧ Vars h_41 [(b_5, [(Sl.v x_3), (VI x_4)]), (b_4, [(Sl.v t108_1), (VI t108_2)]), (b_3, [(Sl.v t101_1), (VI t101_2)]), (b_2, [(Sl.v t65_2), (VI t65_3)]), (b_1, [(Sl.v t65_1)])] ∧
  ((!t319_1) = true →
  K (VB false) h_41) ∧
  ((!t319_1) = false →
  J_6  h_41)))) ∧
  w5_2 P J_6 b_4 t108_1 t108_2 b_3 t101_1 t101_2 b_2 t65_2 t65_3 b_1 t65_1 more1_1 K)) ∧
  (t115_2 = false →
  ∃ J_10 : Heap → Prop, ((t73_2 = true →
  w5_1 P t65_1 h_22 b_4 t108_1 t108_2 b_3 t101_1 t101_2 b_2 t65_2 t65_3 b_1 t73_1 t65_4 t87_1 J_10 K) ∧
  (t73_2 = false →
  J_10  h_22)) ∧
  ∀ (h_85 : Heap), J_10  h_85 → Vars h_85 [(b_4, [(Sl.v t108_1), (VI t108_2)]), (b_3, [(Sl.v t101_1), (VI t101_2)]), (b_2, [(Sl.v t65_2), (VI t65_3)]), (b_1, [(Sl.v t65_1)])] →
  ∃ J_15 : Heap → Prop, (J_15  h_85) ∧
  w5_2 P J_15 b_4 t108_1 t108_2 b_3 t101_1 t101_2 b_2 t65_2 t65_3 b_1 t65_1 more1_1 K))))))))))))
theorem x5 (code0_1 : Sl) (more1_1 : Sl) (h : Heap) (K : Value → Heap → Prop) (H : w5 Tryd.prog code0_1 more1_1 h K) : callM Tryd.prog 5 #[(Sl.v code0_1), (Sl.v more1_1)] h K := v5 code0_1 more1_1 h K H
end Go.Proofs.YtkjkfjkapbpgiaaDoor
