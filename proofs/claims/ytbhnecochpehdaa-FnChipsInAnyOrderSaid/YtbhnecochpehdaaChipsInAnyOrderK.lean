/-
  What each function that the law 'FnChipsInAnyOrder' comes to does: the contracts.
-/
import Derived.Test.YtbhnecochpehdaaChipsInAnyOrderK0
set_option linter.unusedVariables false
set_option linter.unusedSimpArgs false
namespace Go.Proofs.Ytbhnecochpehdaa
open Go Go.Mx
/-! Moves that are forced. -/
theorem snk_of {g : List (List Int)} {sink : Int} (h : sinkB g sink = true) : SnkOK g sink := by
  obtain ⟨_, h1, h2, h3⟩ := sink_of h
  intro p hp hs
  rw [List.getD_eq_getElem?_getD, List.getElem?_eq_getElem hp]
  exact leadB_exit h1 h3 hp hs h2
def repC (c : Nat → Nat) (p k : Nat) : Nat → Nat := fun i => if i = p then c i + k else c i
def addC (c : Nat → Nat) : List Int → Nat → Nat → Nat
  | [], _ => c
  | n :: ns, p => addC (repC c p n.toNat) ns (p + 1)
theorem repC_zero (c : Nat → Nat) (p : Nat) : repC c p 0 = c := by funext i; unfold repC; split <;> rfl
theorem repC_succ (c : Nat → Nat) (p k : Nat) : repC (upC c p) p k = repC c p (k + 1) := by
  funext i
  unfold repC upC
  by_cases h : i = p
  · rw [if_pos h, if_pos h, if_pos h]; omega
  · rw [if_neg h, if_neg h, if_neg h]
theorem addC_at : ∀ (ns : List Int) (c : Nat → Nat) (p i : Nat), addC c ns p i = if i < p then c i else c i + (ns.getD (i - p) 0).toNat
  | [], c, p, i => by simp [addC]
  | n :: ns, c, p, i => by
    rw [addC, addC_at ns]
    unfold repC
    by_cases h : i < p
    · rw [if_pos (by omega), if_neg (by omega), if_pos h]
    · rw [if_neg h]
      by_cases e : i = p
      · subst e; rw [if_pos (by omega), if_pos rfl, Nat.sub_self]; rfl
      · rw [if_neg (by omega), if_neg e, show i - p = (i - (p + 1)) + 1 by omega, List.getD_cons_succ]
theorem IsSt.rep {g : List (List Int)} {l : Lo} (L0 : LOK g 0 l) {p : Nat} (hp : p < g.length) (hn : (g.getD p []).length ≠ 0) : ∀ {k m : Nat} {c : Nat → Nat} {a : Lo}, IsSt g l c a → LOK g m a → IsSt g l (repC c p k) (repP g p k a)
  | 0, m, c, a, A, L => by rw [repC_zero]; exact A
  | k + 1, m, c, a, A, L => by
    rw [← repC_succ]
    exact IsSt.rep L0 hp hn (A.mv L0 L hp hn) (L.mv (by omega) (by omega))
theorem IsSt.forc {g : List (List Int)} {l : Lo} {sink : Int} (hg : SnkOK g sink) (L0 : LOK g 0 l) : ∀ {ns : List Int} {p m : Nat} {c : Nat → Nat} {a : Lo}, IsSt g l c a → LOK g m a → p + ns.length ≤ g.length → (∀ i, i < ns.length → ((p + i : Nat) : Int) = sink → ns.getD i 0 = 0) → IsSt g l (addC c ns p) (forcL g ns p a)
  | [], p, m, c, a, A, L, _, _ => A
  | n :: ns, p, m, c, a, A, L, hl, hs => by
    simp only [List.length_cons] at hl
    rw [addC, forcL]
    have A' : IsSt g l (repC c p n.toNat) (repP g p n.toNat a) := by
      by_cases e : (p : Int) = sink
      · have := hs 0 (by simp) (by simpa using e)
        rw [List.getD_cons_zero] at this
        rw [this]
        rw [show (0 : Int).toNat = 0 from rfl, repC_zero]; exact A
      · exact IsSt.rep L0 (by omega) (hg p (by omega) e) A L
    have := IsSt.forc hg L0 (ns := ns) (p := p + 1) A' (repP_ok (n := n.toNat) (by omega) (by omega) L) (by omega) (fun i hi e => by
      have := hs (i + 1) (by simpa using hi) (by rw [← e]; congr 1; omega)
      rwa [List.getD_cons_succ] at this)
    simpa using this
theorem force_st {g : List (List Int)} {l : Lo} {sink : Int} {ns : List Int} (h : cntB g sink l ns = true) : IsSt g l (fun i => (ns.getD i 0).toNat) (forcL g ns 0 l) ∧ ∃ m, LOK g m (forcL g ns 0 l) := by
  obtain ⟨h1, h2, h3, h4⟩ := cnt_of h
  obtain ⟨hk, L, hn⟩ := load_of h1
  have A := IsSt.forc (snk_of hk) L (ns := ns) (p := 0) (IsSt.init L) L (by omega) fun i hi e => by
    have : sink.toNat = i := by omega
    rw [this] at h3
    exact h3
  refine ⟨?_, forcL_ok (ns := ns) (p := 0) (by omega) (by omega) L⟩
  have e : addC (fun _ => 0) ns 0 = fun i => (ns.getD i 0).toNat := by
    funext i
    rw [addC_at, if_neg (by omega), Nat.sub_zero, Nat.zero_add]
  rw [← e]; exact A
theorem repP_sum {g : List (List Int)} {p : Int} (h0 : 0 ≤ p) (h1 : p < (g.length : Int)) : ∀ {n m : Nat} {l : Lo}, LOK g m l → (repP g p n l).2.sum = l.2.sum
  | 0, m, l, L => rfl
  | n + 1, m, l, L => by rw [repP, repP_sum h0 h1 (L.mv h0 h1), mvP_sum L h0 h1]
theorem forcL_sum {g : List (List Int)} : ∀ {ns : List Int} {p : Int} {m : Nat} {l : Lo}, 0 ≤ p → p + ns.length ≤ (g.length : Int) → LOK g m l → (forcL g ns p l).2.sum = l.2.sum
  | [], p, m, l, _, _, L => rfl
  | n :: ns, p, m, l, h0, h1, L => by
    simp only [List.length_cons] at h1
    rw [forcL, forcL_sum (by omega) (by omega) (repP_ok (n := n.toNat) h0 (by omega) L), repP_sum h0 (by omega) L]
theorem mol_of {g : List (List Int)} {sink : Int} {l : Lo} (h : (molP g sink l).2 = true) : loadB g sink l = true ∧ ∃ w e, w.length ≤ 4000 ∧ Leg g sink w l e ∧ Ended g sink e ∧ CntOK g.length (upW (fun _ => 0) w) (molP g sink l).1 ∧ e = (endL g sink [] 4000 0 l (List.replicate g.length 0)).1 := by
  unfold molP at h ⊢
  by_cases hl : loadB g sink l = true
  · rw [if_pos hl] at h ⊢
    obtain ⟨_, L, _⟩ := load_of hl
    obtain ⟨w, w1, w2, w3, w4⟩ := endL_leg (by simp) 4000 0 l _ 0 _ L (CntOK.zero g.length) h
    exact ⟨hl, w, _, w1, w2, w4, w3, rfl⟩
  · rw [if_neg hl] at h; simp at h
/-- No fewer moves are enough. -/
theorem least_law {g : List (List Int)} {sink : Int} {l : Lo} {ns : List Int} (h : (enoP g sink l ns).2 = true) (hm : (molP g sink l).2 = true) (he : (enoP g sink l ns).1 = true) : ∀ i, i < g.length → (molP g sink l).1.getD i 0 ≤ ns.getD i 0 := by
  unfold enoP at h he
  by_cases hc : cntB g sink l ns = true
  · rw [if_pos hc] at he
    simp only [decide_eq_true_eq] at he
    obtain ⟨h1, h2, h3, h4⟩ := cnt_of hc
    obtain ⟨hk, L, hn⟩ := load_of h1
    obtain ⟨F, m, LF⟩ := force_st hc
    obtain ⟨_, w, e, w1, w2, w3, w4, _⟩ := mol_of hm
    have := least_leg (snk_of hk) L F (ended_of LF.len he) (IsSt.init L) L (fun i _ => Nat.zero_le _) w2
    intro i hi
    rw [w4.2 i hi]
    have := this i hi
    have : 0 ≤ ns.getD i 0 := by rw [getD_getI (by omega)]; exact (h4 _ (List.getElem_mem _)).1
    omega
  · rw [if_neg hc] at h; simp at h
theorem mol_rng {g : List (List Int)} {sink : Int} {l : Lo} (hm : (molP g sink l).2 = true) : (molP g sink l).1.length = g.length ∧ (∀ x, x ∈ (molP g sink l).1 → 0 ≤ x ∧ x ≤ 4000) ∧ (molP g sink l).1.getD sink.toNat 0 = 0 := by
  obtain ⟨hl, w, e, w1, w2, w3, w4, _⟩ := mol_of hm
  obtain ⟨hk, _, _⟩ := load_of hl
  obtain ⟨_, s0, s1, _⟩ := sink_of hk
  refine ⟨w4.1, fun x hx => ?_, ?_⟩
  · obtain ⟨i, hi, rfl⟩ := List.mem_iff_getElem.1 hx
    rw [← getD_getI hi]
    rw [w4.1] at hi
    rw [w4.2 i hi]
    have h1 := upW_sum w (fun _ => 0) w2.rng
    have h2 : ∀ n, sumN (fun _ => 0) n = 0 := by
      intro n
      induction n with
      | zero => rfl
      | succ n ih => rw [sumN, ih]
    have h3 : ∀ (f : Nat → Nat) n, i < n → f i ≤ sumN f n := by
      intro f n
      induction n with
      | zero => intro h; omega
      | succ n ih =>
        intro h
        rw [sumN]
        by_cases e : i = n
        · subst e; omega
        · have := ih (by omega); omega
    have h4 := h3 (upW (fun _ => 0) w) g.length hi
    rw [h1, h2] at h4
    omega
  · rw [w4.2 _ (by omega), upW_off (fun _ => 0) fun q hq e => w2.off q hq (by have := w2.rng q hq; omega)]
    rfl
/-- The moves that are made are enough. -/
theorem own_law {g : List (List Int)} {sink : Int} {l : Lo} (hm : (molP g sink l).2 = true) (hs : ∀ x, x ∈ (molP g sink l).1 → x ≤ 50) : enoP g sink l (molP g sink l).1 = (true, true) ∧ (forP g sink l (molP g sink l).1) = ((endL g sink [] 4000 0 l (List.replicate g.length 0)).1, true) := by
  obtain ⟨r1, r2, r3⟩ := mol_rng hm
  obtain ⟨hl, w, e, w1, w2, w3, w4, w5⟩ := mol_of hm
  obtain ⟨hk, L, hn⟩ := load_of hl
  have hc : cntB g sink l (molP g sink l).1 = true := by
    unfold cntB
    rw [hl, decide_eq_true r1, decide_eq_true r3, Bool.true_and, Bool.true_and, Bool.true_and, List.all_eq_true]
    intro x hx
    exact inR_iff.2 ⟨(r2 x hx).1, hs x hx⟩
  obtain ⟨F, m, LF⟩ := force_st hc
  have B := (IsSt.init L).leg (snk_of hk) L L w2
  have hF : forcL g (molP g sink l).1 0 l = e := F.same B.1 fun i hi => by
    (try simp only)
    rw [w4.2 i hi]; omega
  unfold enoP forP
  rw [if_pos hc, if_pos hc, hF, of_ended B.2.len w3, w5]
  exact ⟨rfl, rfl⟩
theorem force_sum {g : List (List Int)} {sink : Int} {l : Lo} {ns : List Int} (h : (forP g sink l ns).2 = true) : (forP g sink l ns).1.2.sum = l.2.sum := by
  unfold forP at h ⊢
  by_cases hc : cntB g sink l ns = true
  · rw [if_pos hc]
    obtain ⟨h1, h2, h3, h4⟩ := cnt_of hc
    obtain ⟨hk, L, hn⟩ := load_of h1
    exact forcL_sum (by omega) (by omega) L
  · rw [if_neg hc] at h; simp at h

/-! Loads in any order, to the end. -/
theorem walk_of {g : List (List Int)} {rs : List Int} {p : Int} (W : WOK g (rs, p)) : walkB g rs p = true := by
  unfold walkB
  have h1 := W.lo
  have h2 := W.hi
  have h3 := W.len
  simp only at h1 h2 h3
  rw [W.graph, inR_iff.2 ⟨h1, by omega⟩, decide_eq_true h3, Bool.true_and, Bool.true_and, Bool.true_and, List.all_eq_true]
  intro x hx
  obtain ⟨i, hi, rfl⟩ := List.mem_iff_getElem.1 hx
  rw [List.length_zip] at hi
  have := W.rot i (by simp only; omega) (by omega)
  rw [List.getElem_zip]
  unfold rotB
  rw [inR_iff]
  exact this
theorem eol_of {g : List (List Int)} {sink : Int} {l : Lo} {ch : List Int} (h : (eolP g sink l ch).2 = true) : loadB g sink l = true ∧ ∃ w, w.length ≤ 4000 ∧ Leg g sink w l (eolP g sink l ch).1 ∧ Ended g sink (eolP g sink l ch).1 := by
  unfold eolP at h ⊢
  by_cases hl : (loadB g sink l && (decide (ch.length ≤ 100) && !ch.any fun c => decide (c < 0))) = true
  · rw [if_pos hl] at h ⊢
    simp only [Bool.and_eq_true, decide_eq_true_eq] at hl
    obtain ⟨_, L, _⟩ := load_of hl.1
    obtain ⟨w, w1, w2, w3, w4⟩ := endL_leg (cs_ok hl.2.2) 4000 0 l _ 0 _ L (CntOK.zero g.length) h
    exact ⟨hl.1, w, w1, w2, w4⟩
  · rw [if_neg hl] at h; simp at h
/-- What comes to an end does so without choices too, to the same one. -/
theorem end_plain {g : List (List Int)} {sink : Int} {l e : Lo} {w : List Int} (hl : loadB g sink l = true) (hw : w.length ≤ 4000) (h : Leg g sink w l e) (he : Ended g sink e) : (molP g sink l).2 = true ∧ eolP g sink l [] = (e, true) ∧ CntOK g.length (upW (fun _ => 0) w) (molP g sink l).1 := by
  obtain ⟨hk, L, hn⟩ := load_of hl
  have B := (IsSt.init L).leg (snk_of hk) L L h
  have h1 : (endL g sink [] 4000 0 l (List.replicate g.length 0)).2.2 = true := endL_comes (snk_of hk) (by simp) L B.1 he 4000 0 l _ 0 _ L (IsSt.init L) (fun i _ => Nat.zero_le _) (by
    have := upW_sum w (fun _ => 0) h.rng
    rw [this]; omega)
  have hm : (molP g sink l).2 = true := by unfold molP; rw [if_pos hl]; exact h1
  obtain ⟨_, v, e', v1, v2, v3, v4, v5⟩ := mol_of hm
  obtain ⟨s1, s2, s3⟩ := ends_same (snk_of hk) L h v2 he v3
  refine ⟨hm, ?_, v4.1, fun i hi => by rw [v4.2 i hi, s2 i hi]⟩
  unfold eolP
  rw [hl, if_pos (by simp), h1, ← v5, s1]
theorem Leg.nn {g : List (List Int)} {sink : Int} : ∀ {w : List Int} {m : Nat} {a b : Lo}, LOK g m a → (∀ c, c ∈ a.2 → 0 ≤ c) → Leg g sink w a b → ∀ c, c ∈ b.2 → 0 ≤ c
  | [], m, a, b, L, hn, h => by rw [← show a = b from h]; exact hn
  | p :: w, m, a, b, L, hn, h => Leg.nn (L.mv h.1 h.2.1) (mv_nn L h.1 h.2.1 hn h.2.2.2.1) h.2.2.2.2
theorem le_sum : ∀ {xs : List Int}, (∀ c, c ∈ xs → 0 ≤ c) → 0 ≤ xs.sum ∧ ∀ x, x ∈ xs → x ≤ xs.sum
  | [], _ => ⟨by simp, fun x hx => by cases hx⟩
  | y :: xs, h => by
    obtain ⟨a, b⟩ := le_sum (xs := xs) fun c hc => h c (List.mem_cons_of_mem _ hc)
    have := h y List.mem_cons_self
    refine ⟨by rw [List.sum_cons]; omega, fun x hx => ?_⟩
    rw [List.sum_cons]
    rcases List.mem_cons.1 hx with e | e
    · omega
    · have := b x e; omega
theorem sum_one : ∀ {xs : List Int} {k : Nat}, k < xs.length → (∀ i, i < xs.length → i ≠ k → xs.getD i 0 = 0) → xs.sum = xs.getD k 0
  | x :: xs, 0, _, h => by
    have : xs.sum = 0 := by
      have : ∀ (ys : List Int), (∀ i, i < ys.length → ys.getD i 0 = 0) → ys.sum = 0 := by
        intro ys
        induction ys with
        | nil => intro _; rfl
        | cons y ys ih =>
          intro h
          rw [List.sum_cons, ih fun i hi => by have := h (i + 1) (by simpa using hi); rwa [List.getD_cons_succ] at this]
          have := h 0 (by simp)
          rw [List.getD_cons_zero] at this
          omega
      exact this _ fun i hi => by have := h (i + 1) (by simpa using hi) (by omega); rwa [List.getD_cons_succ] at this
    rw [List.sum_cons, this, List.getD_cons_zero]; omega
  | x :: xs, k + 1, hk, h => by
    have h0 := h 0 (by simp) (by omega)
    rw [List.getD_cons_zero] at h0
    rw [List.sum_cons, List.getD_cons_succ, sum_one (xs := xs) (k := k) (by simpa using hk) fun i hi hn => by have := h (i + 1) (by simpa using hi) (by omega); rwa [List.getD_cons_succ] at this]
    omega
/-- A load in the end. -/
theorem load_end {g : List (List Int)} {sink : Int} {l e : Lo} {w : List Int} (hl : loadB g sink l = true) (h : Leg g sink w l e) (he : Ended g sink e) : loadB g sink e = true ∧ e.2.getD sink.toNat 0 = l.2.sum := by
  obtain ⟨hk, L, hn⟩ := load_of hl
  obtain ⟨_, s0, s1, _⟩ := sink_of hk
  have B := (IsSt.init L).leg (snk_of hk) L L h
  have hs := leg_sum L h
  have hnn := Leg.nn L hn h
  have hle := le_sum hnn
  have hl20 : l.2.sum ≤ 20 := by
    unfold loadB at hl
    simp only [Bool.and_eq_true, decide_eq_true_eq] at hl
    exact hl.2.2.2.2
  have hlen := B.2.len
  constructor
  · unfold loadB
    rw [hk, walk_of B.2.w, decide_eq_true B.2.len, decide_eq_true (show e.2.sum ≤ 20 by omega), Bool.true_and, Bool.true_and, Bool.true_and, Bool.and_true, List.all_eq_true]
    intro x hx
    have := hle.2 x hx
    exact inR_iff.2 ⟨hnn x hx, by omega⟩
  · rw [← hs]
    refine (sum_one (by omega) fun i hi hne => ?_).symm
    have a := he i (by omega) (by omega)
    have b := hnn _ (List.getElem_mem hi)
    rw [← getD_getI hi] at b
    omega
theorem ord_leg {g : List (List Int)} {sink : Int} : ∀ {ps : List Int} {l l' : Lo}, (∀ p, p ∈ ps → 0 ≤ p ∧ p < (g.length : Int)) → ordP g sink ps l = some l' → Leg g sink ps l l'
  | [], l, l', _, h => by simp only [ordP, Option.some.injEq] at h; exact h
  | p :: ps, l, l', hp, h => by
    rw [ordP] at h
    split at h
    · cases h
    · rename_i hc
      have := hp p List.mem_cons_self
      exact ⟨this.1, this.2, fun e => hc (.inl e), by omega, ord_leg (fun q hq => hp q (List.mem_cons_of_mem _ hq)) h⟩
theorem mio_leg {g : List (List Int)} {sink : Int} {l : Lo} {ps : List Int} (h : (mioP g sink l ps).2 = true) : loadB g sink l = true ∧ Leg g sink ps l (mioP g sink l ps).1 := by
  unfold mioP at h ⊢
  by_cases hc : (loadB g sink l && (decide (ps.length ≤ 100) && ps.all (inR 0 ((g.length : Int) - 1)))) = true
  · rw [if_pos hc] at h ⊢
    simp only [Bool.and_eq_true, decide_eq_true_eq] at hc
    cases ho : ordP g sink ps l with
    | none => rw [ho] at h; simp at h
    | some l' => exact ⟨hc.1, ord_leg (in_all hc.2.2) ho⟩
  · rw [if_neg hc] at h; simp at h
theorem cnt_sum {c : Nat → Nat} : ∀ {n : Nat} {xs : List Int}, CntOK n c xs → xs.sum = ((sumN c n : Nat) : Int) := by
  intro n xs h
  have key : ∀ i, i ≤ n → (xs.take i).sum = ((sumN c i : Nat) : Int) := by
    intro i
    induction i with
    | zero => intro _; simp [sumN]
    | succ i ih =>
      intro hi
      have hi2 : i < xs.length := by rw [h.1]; omega
      have := h.2 i (by omega)
      rw [getD_getI hi2] at this
      rw [List.take_add_one, List.getElem?_eq_getElem hi2, List.sum_append, ih (by omega), sumN]
      simp [this]
  have := key n (Nat.le_refl _)
  rwa [List.take_of_length_le (by rw [h.1]; exact Nat.le_refl _)] at this
/-- The first half of the law. -/
theorem any_law {g : List (List Int)} {sink : Int} {l : Lo} {ch : List Int} (h : (eolP g sink l ch).2 = true) : (molP g sink l).2 = true ∧ eolP g sink l [] = eolP g sink l ch ∧ loadB g sink (eolP g sink l ch).1 = true ∧ (eolP g sink l ch).1.2.getD sink.toNat 0 = l.2.sum ∧ (molP g sink l).1.getD sink.toNat 0 = 0 ∧ (∀ p, p < g.length → (p : Int) ≠ sink → (g.getD p []).length ≠ 0 ∧ (eolP g sink l ch).1.1.getD p 0 = (l.1.getD p 0 + (molP g sink l).1.getD p 0).tmod (g.getD p []).length) ∧ ((forP g sink l (molP g sink l).1).2 = true → (forP g sink l (molP g sink l).1).1 = (eolP g sink l ch).1) := by
  obtain ⟨hl, w, w1, w2, w3⟩ := eol_of h
  obtain ⟨a, b, c⟩ := end_plain hl w1 w2 w3
  obtain ⟨d, e⟩ := load_end hl w2 w3
  obtain ⟨hk, L, hn⟩ := load_of hl
  have B := (IsSt.init L).leg (snk_of hk) L L w2
  refine ⟨a, by rw [b]; exact Prod.ext rfl h.symm, d, e, (mol_rng a).2.2, fun p hp hs => ⟨snk_of hk p hp hs, ?_⟩, fun hf => ?_⟩
  · rw [B.1.rot p hp, if_neg (snk_of hk p hp hs), c.2 p hp]
    have := (L.rotN hp).1
    rw [Int.tmod_eq_emod_of_nonneg (by omega)]
    rw [Int.natCast_emod, Int.natCast_add, show ((l.1.getD p 0).toNat : Int) = l.1.getD p 0 by omega]
  · have hc : cntB g sink l (molP g sink l).1 = true := by
      unfold forP at hf
      by_cases hc : cntB g sink l (molP g sink l).1 = true
      · exact hc
      · rw [if_neg hc] at hf; simp at hf
    obtain ⟨_, _, _, h4⟩ := cnt_of hc
    rw [(own_law a fun x hx => (h4 x hx).2).2]
    have : (eolP g sink l []).1 = (endL g sink [] 4000 0 l (List.replicate g.length 0)).1 := by
      unfold eolP
      rw [hl, if_pos (by simp)]
    rw [← this, b]
/-- The other half. -/
theorem later_law {g : List (List Int)} {sink : Int} {l : Lo} {ps : List Int} (h : (mioP g sink l ps).2 = true) : ((eolP g sink l []).2 = true → (eolP g sink (mioP g sink l ps).1 []).2 = true → (eolP g sink l []).1 = (eolP g sink (mioP g sink l ps).1 []).1) ∧ ((molP g sink l).2 = true → (molP g sink (mioP g sink l ps).1).2 = true → (molP g sink l).1.sum = (molP g sink (mioP g sink l ps).1).1.sum + ps.length) := by
  obtain ⟨hl, hp⟩ := mio_leg h
  obtain ⟨hk, L, hn⟩ := load_of hl
  constructor
  · intro a b
    obtain ⟨_, v, v1, v2, v3⟩ := eol_of a
    obtain ⟨_, w, w1, w2, w3⟩ := eol_of b
    exact (ends_same (snk_of hk) L v2 (hp.append w2) v3 w3).1
  · intro a b
    obtain ⟨_, v, e, v1, v2, v3, v4, _⟩ := mol_of a
    obtain ⟨_, w, e', w1, w2, w3, w4, _⟩ := mol_of b
    have hs := (ends_same (snk_of hk) L v2 (hp.append w2) v3 w3).2.2
    rw [cnt_sum v4, cnt_sum w4, upW_sum v _ v2.rng, upW_sum w _ w2.rng]
    rw [List.length_append] at hs
    omega

/-! What is drawn out of bytes: some value, in memory of its own. -/
structure CurD (a n : Nat) (h : Heap) (c : Sl) (i : Int) : Prop where
  code : ∃ vs, RdV (fun k => k < a) h 1 c vs ∧ ∀ v, v ∈ vs → ∃ m : Int, v = Value.int .u8 m ∧ 0 ≤ m ∧ m ≤ 255
  lo : 0 ≤ i
  hi : i ≤ (n : Int)
theorem CurD.fr {a n : Nat} {h h' : Heap} {c : Sl} {i : Int} {T : Nat → Prop} (D : CurD a n h c i) (f : Fr T h h') (hT : ∀ k, k < a → ¬ T k) : CurD a n h' c i := by
  obtain ⟨vs, h1, h2⟩ := D.code
  exact ⟨⟨vs, h1.fr f hT, h2⟩, D.lo, D.hi⟩
theorem CurD.no {a n : Nat} {h h' : Heap} {c : Sl} {i : Int} (D : CurD a n h c i) (f : Fr No h h') : CurD a n h' c i := D.fr f fun _ _ h => h
theorem CurD.up {a n m : Nat} {h : Heap} {c : Sl} {i : Int} (D : CurD a n h c i) (hm : n ≤ m) : CurD a m h c i := ⟨D.code, D.lo, by have := D.hi; omega⟩
theorem u64_rng (x : Int) : 0 ≤ IntKind.wrap .u64 x ∧ IntKind.wrap .u64 x < 18446744073709551616 := by
  rw [IntKind.wrap_u64]; omega
theorem and255 {x : Int} (h0 : 0 ≤ x) (h1 : x < 18446744073709551616) : 0 ≤ bits .and .u64 x 255 ∧ bits .and .u64 x 255 ≤ 255 := by
  have e := u64_and_nat x.toNat 255 (by omega) (by omega)
  rw [show ((x.toNat : Nat) : Int) = x by omega] at e
  have : x.toNat &&& 255 ≤ 255 := Nat.and_le_right
  rw [show ((255 : Nat) : Int) = 255 from rfl] at e
  rw [e]; omega
theorem vcur {h h' : Heap} {L : List (Nat × List Value)} (H : Vars h L) (i : Nat) {b : Nat} {cs cs' : List Value} (hi : nthL L i = some (b, cs)) (f : Fr (In [b]) h h') (V : IsVar h' b cs') : Vars h' (setL L i cs') :=
  H.set hi (f.mono fun k _ hk => by simpa [In] using hk) V

theorem k_next_ {a n b : Nat} {h : Heap} {c : Sl} {i sd : Int} (V : IsVar h b [c.v, VI i, .int .u64 sd]) (hb : a ≤ b) (D : CurD a n h c i) (hn : n ≤ 1000000000000) (K : Value → Heap → Prop) (HK : ∀ (x i' sd' : Int) h', 0 ≤ x → x ≤ 255 → IsVar h' b [c.v, VI i', .int .u64 sd'] → CurD a (n + 1) h' c i' → Fr (In [b]) h h' → K (VI x) h') : callM Try.prog 158 #[VP b 0] h K := by
  have h0 := D.lo
  have h1 := D.hi
  have lb := V.lt
  have fin : ∀ (x i' sd' : Int) (h1 h2 h' : Heap), 0 ≤ x → x ≤ 255 → 0 ≤ i' → i' ≤ (n : Int) + 1 → Fr No h h1 → Fr (In [b]) h1 h2 → Fr (In [b]) h2 h' → IsVar h' b [c.v, VI i', .int .u64 sd'] → K (VI x) h' := fun x i' sd' h1 h2 h' x0 x1 i0 i1 f1 f2 f3 V' => by
    have f := (f1.of_no.trans f2).trans f3
    obtain ⟨vs, d1, d2⟩ := D.code
    exact HK x i' sd' h' x0 x1 V' ⟨⟨vs, d1.fr f fun k hk hk2 => by simp [In] at hk2; omega, d2⟩, i0, by omega⟩ f
  refine v158 b c i sd h K (.cons V (by simp) .nil) ⟨fun x h' => 0 ≤ x ∧ x ≤ 255 ∧ h' = h, ⟨fun e => ?_, fun e => ⟨by omega, by omega, rfl⟩⟩, ?_⟩
  · obtain ⟨vs, d1, d2⟩ := D.code
    have hl := d1.len
    simp only [decide_eq_true_eq] at e
    have hi : i < (vs.length : Int) := by omega
    obtain ⟨m, e1, m0, m1⟩ := d2 _ (List.getElem_mem (show i.toNat < vs.length by omega))
    refine ⟨d1.inb h0 hi, m, by rw [d1.get h0 hi, e1], rop_conv (show Try.prog.underlying _ = some (.int .u8) from by kernel_rfl) (show Try.prog.underlying _ = some (.int .i64) from by kernel_rfl) m ⟨m, ?_, m0, m1, rfl⟩⟩
    show Value.int .i64 (w64 m) = VI m
    rw [w64_eq _ (by omega) (by omega)]
  · rintro x hh ⟨x0, x1, rfl⟩ hL h2 f2 hL2
    rw [w64_eq (i + 1) (by omega) (by omega)]
    refine rop_conv (show Try.prog.underlying _ = some (.int .i64) from by kernel_rfl) (show Try.prog.underlying _ = some (.int .u64) from by kernel_rfl) x ⟨_, rfl, fun e h3 f3 hL3 => ?_, fun e => ?_⟩
    · exact fin x _ _ hh h2 h3 x0 x1 (by omega) (by omega) (Fr.refl _ _) f2 f3 hL3.head
    · refine pop_shr .u64 _ 40 (by omega) ⟨_, rfl, pop_and .u64 _ 255 ⟨_, rfl, fun h3 f3 hL3 => ?_⟩⟩
      have hw := u64_rng (IntKind.wrap .u64 (IntKind.wrap .u64 (sd * 6364136223846793005) + IntKind.wrap .u64 x) + 1442695040888963407)
      have hd : 0 ≤ (IntKind.wrap .u64 (IntKind.wrap .u64 (IntKind.wrap .u64 (sd * 6364136223846793005) + IntKind.wrap .u64 x) + 1442695040888963407)).fdiv (2 ^ (min (40 : Int).toNat IntKind.u64.bits)) ∧ (IntKind.wrap .u64 (IntKind.wrap .u64 (IntKind.wrap .u64 (sd * 6364136223846793005) + IntKind.wrap .u64 x) + 1442695040888963407)).fdiv (2 ^ (min (40 : Int).toNat IntKind.u64.bits)) < 18446744073709551616 := by
        rw [show (2 : Int) ^ (min (40 : Int).toNat IntKind.u64.bits) = 1099511627776 from rfl, Int.fdiv_eq_ediv_of_nonneg _ (by omega)]
        omega
      have ha := and255 hd.1 hd.2
      refine rop_conv (show Try.prog.underlying _ = some (.int .u64) from by kernel_rfl) (show Try.prog.underlying _ = some (.int .i64) from by kernel_rfl) _ ⟨_, rfl, ?_⟩
      rw [show IntKind.i64.wrap (bits .and .u64 ((IntKind.wrap .u64 (IntKind.wrap .u64 (IntKind.wrap .u64 (sd * 6364136223846793005) + IntKind.wrap .u64 x) + 1442695040888963407)).fdiv (2 ^ (min (40 : Int).toNat IntKind.u64.bits))) 255) = bits .and .u64 ((IntKind.wrap .u64 (IntKind.wrap .u64 (IntKind.wrap .u64 (sd * 6364136223846793005) + IntKind.wrap .u64 x) + 1442695040888963407)).fdiv (2 ^ (min (40 : Int).toNat IntKind.u64.bits))) 255 from w64_eq _ (by omega) (by omega)]
      exact fin _ _ _ hh h2 h3 ha.1 ha.2 (by omega) (by omega) (Fr.refl _ _) f2 f3 hL3.head

theorem k_pick {a n b : Nat} {h : Heap} {c : Sl} {i sd : Int} (V : IsVar h b [c.v, VI i, .int .u64 sd]) (hb : a ≤ b) (D : CurD a n h c i) (hn : n ≤ 100000000000) (m : Int) (K : Value → Heap → Prop) (HK : ∀ (x i' sd' : Int) h', 0 ≤ x → (1 ≤ m → x < m) → IsVar h' b [c.v, VI i', .int .u64 sd'] → CurD a (n + 2) h' c i' → Fr (In [b]) h h' → K (VI x) h') : callM Try.prog 100 #[VP b 0, VI m] h K := by
  refine v100 b c i sd m h K (.cons V (by simp) .nil) ⟨fun e => ?_, fun e => ?_⟩
  · simp only [decide_eq_true_eq] at e
    exact HK 0 i sd h (by omega) (fun _ => by omega) V (D.up (by omega)) (Fr.refl _ _)
  simp only [decide_eq_false_iff_not] at e
  refine k_next_ V hb D (by omega) _ fun x i1 sd1 h1 x0 x1 V1 D1 f1 => ⟨c, i1, sd1, x, rfl, .cons V1 (by simp) .nil, fun y d i2 sd2 h2 => 0 ≤ y ∧ d = c ∧ CurD a (n + 2) h2 c i2 ∧ Fr (In [b]) h h2, ⟨fun e2 => ?_, fun e2 => ⟨x0, rfl, D1.up (by omega), f1⟩⟩, ?_⟩
  · refine k_next_ V1 hb D1 (by omega) _ fun x' i2 sd2 h2 x0' x1' V2 D2 f2 => ⟨c, i2, sd2, x', rfl, .cons V2 (by simp) .nil, ?_⟩
    rw [w64_eq (x * 256) (by omega) (by omega), w64_eq _ (by omega) (by omega)]
    exact ⟨by omega, rfl, D2, f1.trans f2⟩
  · rintro y d i2 sd2 h2 ⟨y0, rfl, D2, f2⟩ hL2
    exact ⟨by omega, HK _ i2 sd2 h2 (Int.tmod_nonneg _ y0) (fun _ => Int.tmod_lt_of_pos _ (by omega)) hL2.head D2 f2⟩

theorem k_one {a n b : Nat} {h : Heap} {c : Sl} {i sd : Int} (V : IsVar h b [c.v, VI i, .int .u64 sd]) (hb : a ≤ b) (D : CurD a n h c i) (hn : n ≤ 100000000000) (m : Int) (K : Value → Heap → Prop) (HK : ∀ (x : Bool) (i' sd' : Int) h', IsVar h' b [c.v, VI i', .int .u64 sd'] → CurD a (n + 2) h' c i' → Fr (In [b]) h h' → K (VB x) h') : callM Try.prog 99 #[VP b 0, VI m] h K := by
  refine v99 b c i sd m h K (.cons V (by simp) .nil) ?_
  exact k_pick V hb D hn m _ fun x i1 sd1 h1 x0 x1 V1 D1 f1 => ⟨c, i1, sd1, x, rfl, .cons V1 (by simp) .nil, HK _ i1 sd1 h1 V1 D1 f1⟩

theorem k_among {a n b : Nat} {h : Heap} {c : Sl} {i sd : Int} (V : IsVar h b [c.v, VI i, .int .u64 sd]) (hb : a ≤ b) (D : CurD a n h c i) (hn : n ≤ 100000000000) {S : Nat → Prop} {s : Sl} {xs : List Int} (R : RdI S h s xs) (hS : ¬ S b) (hne : xs ≠ []) (K : Value → Heap → Prop) (HK : ∀ (x i' sd' : Int) h', x ∈ xs → IsVar h' b [c.v, VI i', .int .u64 sd'] → CurD a (n + 2) h' c i' → Fr (In [b]) h h' → K (VI x) h') : callM Try.prog 101 #[VP b 0, s.v] h K := by
  refine v101 b c i sd s h K (.cons V (by simp) .nil) ?_
  have hl := R.len
  have hp := List.length_pos_iff.2 hne
  refine k_pick V hb D hn _ _ fun x i1 sd1 h1 x0 x1 V1 D1 f1 => ⟨c, i1, sd1, x, rfl, .cons V1 (by simp) .nil, ?_⟩
  have R1 := R.fr f1 fun k hk hk2 => by simp [In] at hk2; subst hk2; exact hS hk
  have hx : x < (xs.length : Int) := by have := x1 (by omega); omega
  exact ⟨R1.inb x0 hx, _, R1.get x0 hx, HK _ i1 sd1 h1 (List.getElem_mem _) V1 D1 f1⟩

theorem eop_put {L : List (Nat × List Value)} {lo : Nat} {h : Heap} {o : Sl} {xs : List Int} {x : Int} (O : OwI h (fun k => lo ≤ k) o xs) (hlo : lo ≤ h.size) (hL : Vars h L) (hoff : ∀ p, p ∈ L → p.1 < lo) (hb : xs.length ≤ 1000000) (R : Sl → Heap → Prop) (HR : ∀ t h', OwI h' (fun k => lo ≤ k) t (xs ++ [x]) → Fr (fun k => lo ≤ k) h h' → Vars h' L → R t h') : eop Try.prog (Instr.buildSlice tIs 1 #[(0, VI x)]) h fun rv h1 => ∃ t : Sl, rv = t.v ∧ Vars h1 L ∧ eop Try.prog (appS tIs tIs tIs o.v t.v) h1 fun rv2 h2 => ∃ t2 : Sl, rv2 = t2.v ∧ Vars h2 L ∧ R t2 h2 := by
  refine eop_lit rIs (fun k => h.size ≤ k) (fun _ h => h) 1 (by omega) [VI x] rfl rfl fun t h1 n1 c1 o1 f1 m1 _ => ⟨t, rfl, hL.of_no f1, ?_⟩
  have z1 := f1.size
  have O1 : OwI h1 (fun k => lo ≤ k) o xs := Ow.no O f1
  have on := O1.rd.len
  have tn := o1.rd.len
  simp only [List.length_map, Nat.mul_one, List.length_cons, List.length_nil] at on tn
  refine eop_append rIs O1 (fun k hk => by omega) o1.rd (plainVI [x]) (by omega) fun s' h2 n2 o2 f2 d2 => ?_
  have g2 : Fr (fun k => lo ≤ k) h1 h2 := f2.mono fun k _ hk => (O1.foot hk).1
  have V2 : Vars h2 L := (hL.of_no f1).fr g2 fun p hp hk => by have := hoff p hp; omega
  exact ⟨s', rfl, V2, HR s' h2 (by rw [OwI, List.map_append]; exact o2) (f1.of_no.trans g2) V2⟩
theorem eop_putR {L : List (Nat × List Value)} {lo m : Nat} {h : Heap} {s x : Sl} {xss : List (List Int)} {ys : List Int} (O : OwX h (Iv lo m) s xss) (X : OwI h (fun k => m ≤ k) x ys) (hlo : lo ≤ m) (hm : m ≤ h.size) (hL : Vars h L) (hoff : ∀ p, p ∈ L → p.1 < lo) (hb : xss.length ≤ 1000000) (R : Sl → Heap → Prop) (HR : ∀ t h', OwX h' (fun k => lo ≤ k) t (xss ++ [ys]) → Fr (fun k => lo ≤ k) h h' → Vars h' L → R t h') : eop Try.prog (Instr.buildSlice tIss 1 #[(0, x.v)]) h fun rv h1 => ∃ t : Sl, rv = t.v ∧ Vars h1 L ∧ eop Try.prog (appS tIss tIss tIss s.v t.v) h1 fun rv2 h2 => ∃ t2 : Sl, rv2 = t2.v ∧ Vars h2 L ∧ R t2 h2 := by
  refine eop_lit rIss (fun k => h.size ≤ k) (fun _ h => h) 1 (by omega) [x.v] rfl rfl fun t h1 n1 c1 o1 f1 m1 _ => ⟨t, rfl, hL.of_no f1, ?_⟩
  have z1 := f1.size
  refine OwR.snoc rIss (OwR.no O f1) (F' := fun k => lo ≤ k) (fun k _ hk => hk.1) (fun k hk => by omega) ((Ow.no X f1).mono fun k _ hk => Nat.le_trans hlo hk) (fun k hk hk2 => by have := (X.foot hk).1; have := hk2.2; omega) o1.rd (by omega) fun y h2 o2 f2 => ?_
  have g2 : Fr (fun k => lo ≤ k) h1 h2 := f2.mono fun k _ hk => hk.1
  have V2 : Vars h2 L := (hL.of_no f1).fr g2 fun p hp hk => by have := hoff p hp; omega
  exact ⟨y, rfl, V2, HR y h2 o2 (f1.of_no.trans g2) V2⟩
def cycR (n : Int) (both : Bool) (p : Int) : List Int := [(p + 1).tmod n] ++ (if both then [(p + n - 1).tmod n] else [])
def cycL' (n : Int) (both : Bool) : Nat → List (List Int)
  | 0 => []
  | p + 1 => cycL' n both p ++ [cycR n both p]
theorem cycL_length (n : Int) (both : Bool) : ∀ p, (cycL' n both p).length = p
  | 0 => rfl
  | p + 1 => by rw [cycL', List.length_append, cycL_length n both p]; rfl
def cycP (n : Nat) (both : Bool) : List (List Int) := cycL' n both n

theorem k_grCycle {h : Heap} (n : Nat) (hn : n ≤ 1000) (both : Bool) (K : Value → Heap → Prop) (HK : ∀ t h', OwX h' (Iv h.size h'.size) t (cycP n both) → Fr No h h' → K (.agg #[t.v]) h') : callM Try.prog 124 #[VI n, VB both] h K := by
  refine v124 n both h K fun b1 b2 h3 hb1 hb2 f3 hL3 => ?_
  have f3 := f3.in_nil
  have z3 := f3.size
  have l2 : b2 < h3.size := hL3.head.lt
  have l1 : b1 < h3.size := hL3.tail.head.lt
  refine ⟨fun m p x h' => 0 ≤ p ∧ p + m = (n : Int) ∧ OwX h' (fun k => h3.size ≤ k) x (cycL' n both p.toNat) ∧ Fr (fun k => h.size ≤ k) h h' ∧ h3.size ≤ h'.size, ⟨n, by omega, by omega, OwR.nil _ _ _ _, f3.of_no, Nat.le_refl _⟩, ?_⟩
  rintro m p x h4 ⟨p0, p1, o4, f4, z4⟩ hL4
  refine ⟨fun e => ?_, fun e => ?_⟩
  · simp only [decide_eq_true_eq] at e
    refine ⟨by omega, ?_⟩
    rw [w64_eq (p + 1) (by omega) (by omega), w64_eq (p + n) (by omega) (by omega), w64_eq (p + n - 1) (by omega) (by omega)]
    have o4i := OwR.toIv o4
    refine eop_lit rIs (fun k => h4.size ≤ k) (fun _ h => h) 1 (by omega) [VI ((p + 1).tmod n)] rfl rfl fun t h5 n5 c5 o5 f5 m5 _ => ⟨t, rfl, hL4.of_no f5, fun y h' => OwI h' (fun k => h4.size ≤ k) y (cycR n both p) ∧ OwX h' (Iv h3.size h4.size) x (cycL' n both p.toNat) ∧ Fr (fun k => h.size ≤ k) h h' ∧ h4.size ≤ h'.size, ⟨fun eb => ⟨by omega, ?_⟩, fun eb => ⟨?_, OwR.no o4i f5, f4.trans f5.of_no, f5.size⟩⟩, ?_⟩
    · refine eop_put (lo := h4.size) (xs := [(p + 1).tmod n]) o5 f5.size (hL4.of_no f5) (fun q hq => by
        simp only [List.mem_cons, List.not_mem_nil, or_false] at hq
        rcases hq with rfl | rfl <;> simp only <;> omega) (by simp) _ fun u h6 o6 f6 V6 => ⟨?_, OwR.fr (OwR.no o4i f5) f6 fun k hk hk2 hk3 => by have := hk2.2; omega, (f4.trans f5.of_no).trans (f6.mono fun k _ hk => by have := f4.size; omega), by have := f5.size; have := f6.size; omega⟩
      unfold cycR
      rw [if_pos eb]; exact o6
    · unfold cycR
      rw [if_neg (by rw [eb]; simp)]
      exact o5
    rintro y h8 ⟨o8, q8, f8, z8⟩ hL8
    refine eop_putR (lo := h3.size) (m := h4.size) q8 o8 z4 z8 hL8 (fun q hq => by
      simp only [List.mem_cons, List.not_mem_nil, or_false] at hq
      rcases hq with rfl | rfl <;> simp only <;> omega) (by rw [cycL_length]; omega) _ fun u h10 o10 f10 V10 h11 f11 hL11 => ?_
    refine ⟨m - 1, by omega, by omega, by omega, ?_, (f8.trans (f10.mono fun k _ hk => by omega)).trans (f11.mono fun k _ hk => by simp [In] at hk; omega), by have := f10.size; have := f11.size; omega⟩
    have ep : (p + 1).toNat = p.toNat + 1 := by omega
    rw [ep, cycL', show ((p.toNat : Nat) : Int) = p by omega]
    exact OwR.fr o10 f11 fun k hk hk2 hk3 => by simp [In] at hk3; omega
  · simp only [decide_eq_false_iff_not] at e
    intro h12 f12 hL12
    have ep : p.toNat = n := by omega
    rw [ep] at o4
    have g12 : Fr (fun k => h.size ≤ k) h4 h12 := f12.mono fun k _ hk => by simp [In] at hk; omega
    have o12 : OwX h12 (fun k => h3.size ≤ k) x (cycL' n both n) := OwR.fr o4 f12 fun k hk hk2 hk3 => by simp [In] at hk3; omega
    exact HK x h12 (OwR.ivs (OwR.toIv o12) z3 (Nat.le_refl _)) ((f4.trans g12).mono fun k hk hk2 => absurd hk2 (by omega))

theorem row_put {L : List (Nat × List Value)} {lo : Nat} {h : Heap} {s : Sl} {xss : List (List Int)} {i : Int} (O : OwX h (fun k => lo ≤ k) s xss) (hlo : lo ≤ h.size) (h0 : 0 ≤ i) (h1 : i < (xss.length : Int)) (hL : Vars h L) (hoff : ∀ p, p ∈ L → p.1 < lo) (hb : (xss[i.toNat]'(by omega)).length ≤ 1000000) (x : Int) : ∃ si : Sl, hcell h (s.at i 1) = some si.v ∧ ∀ R : Heap → Prop, (∀ h', OwX h' (fun k => lo ≤ k) s (xss.set i.toNat (xss[i.toNat]'(by omega) ++ [x])) → Fr (fun k => lo ≤ k) h h' → Vars h' L → R h') → eop Try.prog (Instr.buildSlice tIs 1 #[(0, VI x)]) h fun rv h1 => ∃ t : Sl, rv = t.v ∧ Vars h1 L ∧ hcell h1 (s.at i 1) = some si.v ∧ eop Try.prog (appS tIs tIs tIs si.v t.v) h1 fun rv2 h2 => ∃ t2 : Sl, rv2 = t2.v ∧ Vars h2 L ∧ InB s i ∧ Writable h2 (s.at i 1) ∧ Vars (hset h2 (s.at i 1) t2.v) L ∧ ∀ h3, h3 = hset h2 (s.at i 1) t2.v → Vars h3 L → R h3 := by
  have Oi := OwR.toIv O
  obtain ⟨si, c1, c2, _⟩ := Oi.inner h0 h1
  refine ⟨si, c1, fun R HR => ?_⟩
  refine eop_lit rIs (fun k => h.size ≤ k) (fun _ h => h) 1 (by omega) [VI x] rfl rfl fun t h9 n9 c9 o9 f9 m9 _ => ⟨t, rfl, hL.of_no f9, hcell_fr c1 f9 (fun h => h), ?_⟩
  have s9 := f9.size
  have O9 := OwR.no Oi f9
  have c2' : OwI h9 (fun k => lo ≤ k) si (xss[i.toNat]'(by omega)) := (Ow.no c2 f9).mono fun k _ hk => hk.1
  have on := c2'.rd.len
  have tn := o9.rd.len
  simp only [List.length_map, Nat.mul_one, List.length_cons, List.length_nil] at on tn
  refine eop_append rIs c2' (fun k hk => by omega) o9.rd (plainVI [x]) (by omega) fun w h10 n10 o10 f10 d10 => ?_
  have g10 : Fr (fun k => lo ≤ k) h9 h10 := f10.mono fun k _ hk => (c2'.foot hk).1
  have V10 : Vars h10 L := (hL.of_no f9).fr g10 fun p hp hk => by have := hoff p hp; omega
  have o10' : OwI h10 (fun k => lo ≤ k) w (xss[i.toNat]'(by omega) ++ [x]) := by rw [OwI, List.map_append]; exact o10
  obtain ⟨i11, w11, o11, f11⟩ := O9.outer2 h0 h1 (hcell_fr c1 f9 fun h => h) f10 (F' := fun k => lo ≤ k) o10' (fun k _ hk => hk.1) fun k hk => (d10 k hk).imp id fun hk2 hk3 => by have := hk3.2; omega
  have g11 : Fr (fun k => lo ≤ k) h10 _ := (O9.ownF f11).mono fun k _ hk => hk.1
  have V11 := V10.fr g11 fun p hp hk => by have := hoff p hp; omega
  exact ⟨w, rfl, V10, i11, w11, V11, fun h3 e3 V3 => HR h3 (by rw [e3]; exact o11) (by rw [e3]; exact (f9.of_no.trans g10).trans g11) V3⟩
/-- Rows of at most q places out of N. -/
def GR (N : Int) (q : Nat) (xss : List (List Int)) : Prop := ∀ l, l ∈ xss → l.length ≤ q ∧ ∀ x, x ∈ l → 0 ≤ x ∧ x < N
theorem GR.nil (N : Int) (q : Nat) : GR N q [] := fun l hl => by cases hl
theorem GR.snoc {N : Int} {q : Nat} {xss : List (List Int)} {l : List Int} (H : GR N q xss) (h1 : l.length ≤ q) (h2 : ∀ x, x ∈ l → 0 ≤ x ∧ x < N) : GR N q (xss ++ [l]) := fun y hy => by
  rcases List.mem_append.1 hy with a | a
  · exact H y a
  · simp only [List.mem_cons, List.not_mem_nil, or_false] at a; rw [a]; exact ⟨h1, h2⟩
theorem GR.set {N : Int} {q : Nat} {xss : List (List Int)} {l : List Int} (H : GR N q xss) (i : Nat) (h1 : l.length ≤ q) (h2 : ∀ x, x ∈ l → 0 ≤ x ∧ x < N) : GR N q (xss.set i l) := fun y hy => by
  rcases List.mem_or_eq_of_mem_set hy with a | a
  · exact H y a
  · rw [a]; exact ⟨h1, h2⟩
theorem GR.up {N : Int} {q r : Nat} {xss : List (List Int)} (H : GR N q xss) (h : q ≤ r) : GR N r xss := fun l hl => ⟨Nat.le_trans (H l hl).1 h, (H l hl).2⟩
theorem GR.graph {q : Nat} {xss : List (List Int)} (H : GR xss.length q xss) (hq : q ≤ 5) (h1 : 1 ≤ xss.length) (h2 : xss.length ≤ 8) : graphB xss = true := by
  rw [graphB_eq (inR_iff.2 ⟨by omega, by omega⟩), List.all_eq_true]
  intro l hl
  have := H l hl
  rw [Bool.and_eq_true, Bool.not_eq_true', decide_eq_false_iff_not, List.all_eq_true]
  exact ⟨by omega, fun x hx => inR_iff.2 (by have := this.2 x hx; omega)⟩
theorem cyc_GR {n : Nat} (hn : 1 ≤ n) (both : Bool) : GR n 2 (cycP n both) := by
  have key : ∀ p, GR n 2 (cycL' n both p) := by
    intro p
    induction p with
    | zero => exact GR.nil _ _
    | succ p ih =>
      rw [cycL']
      refine ih.snoc ?_ ?_
      · unfold cycR; split <;> simp
      · intro x hx
        unfold cycR at hx
        rcases List.mem_append.1 hx with a | a
        · simp only [List.mem_cons, List.not_mem_nil, or_false] at a
          rw [a]; exact ⟨Int.tmod_nonneg _ (by omega), Int.tmod_lt_of_pos _ (by omega)⟩
        · split at a
          · simp only [List.mem_cons, List.not_mem_nil, or_false] at a
            rw [a]; exact ⟨Int.tmod_nonneg _ (by omega), Int.tmod_lt_of_pos _ (by omega)⟩
          · cases a
  exact key n

theorem k_sureGraph {a n b : Nat} {h : Heap} {c : Sl} {i sd : Int} (V : IsVar h b [c.v, VI i, .int .u64 sd]) (hb : a ≤ b) (D : CurD a n h c i) (hn : n ≤ 1000000000) {most : Int} (hm1 : 1 ≤ most) (hm2 : most ≤ 8) (K : Value → Heap → Prop) (HK : ∀ (t : Sl) (xss : List (List Int)) (i' sd' : Int) h', OwX h' (Iv h.size h'.size) t xss → GR xss.length 4 xss → 1 ≤ xss.length → (xss.length : Int) ≤ most → IsVar h' b [c.v, VI i', .int .u64 sd'] → CurD a (n + 100) h' c i' → Fr (In [b]) h h' → K (.agg #[t.v]) h') : callM Try.prog 163 #[VP b 0, VI most] h K := by
  have lb := V.lt
  refine v163 b c i sd most h K (.cons V (by simp) .nil) fun b2 h1 hb2 f1 hL1 => ?_
  have f1 := f1.in_nil
  have z1 := f1.size
  have l2 : b2 < h1.size := hL1.head.lt
  have fin : ∀ (h' : Heap), Fr (fun k => k = b ∨ h.size ≤ k) h h' → Fr (In [b]) h h' := fun h' f => f.mono fun k hk hk2 => by
    rcases hk2 with e | e
    · simp [In, e]
    · omega
  have inb : ∀ {x y : Heap}, Fr (In [b]) x y → Fr (fun k => k = b ∨ h.size ≤ k) x y := fun f => f.mono fun k _ hk => .inl (by simpa [In] using hk)
  refine k_pick hL1.tail.head hb (D.no f1) (by omega) most _ fun r i2 sd2 h2 r0 r1 V2 D2 f2 => ⟨c, i2, sd2, r, rfl, vcur hL1 1 rfl f2 V2, ?_⟩
  have hr := r1 hm1
  rw [w64_eq (1 + r) (by omega) (by omega)]
  have hL2 := vcur hL1 1 rfl f2 V2
  refine k_one V2 hb D2 (by omega) _ _ fun q i3 sd3 h3 V3 D3 f3 => ⟨c, i3, sd3, q, rfl, vcur hL2 1 rfl f3 V3, fun eq => ?_, fun eq => ?_⟩
  · have hL3 := vcur hL2 1 rfl f3 V3
    refine k_one V3 hb D3 (by omega) _ _ fun q4 i4 sd4 h4 V4 D4 f4 => ⟨c, i4, sd4, q4, rfl, vcur hL3 1 rfl f4 V4, ?_⟩
    have hL4 := vcur hL3 1 rfl f4 V4
    have en : (1 + r) = (((1 + r).toNat : Nat) : Int) := by omega
    rw [en]
    refine k_grCycle (1 + r).toNat (by omega) q4 _ fun t h5 o5 f5 => ⟨t, rfl, hL4.of_no f5, fun h6 f6 hL6 => ?_⟩
    have z2 := f2.size
    have z3 := f3.size
    have z4 := f4.size
    have z5 := f5.size
    have o6 : OwX h6 (Iv h4.size h5.size) t (cycP (1 + r).toNat q4) := OwR.fr o5 f6 fun k hk hk2 hk3 => by simp [In] at hk3; have := hk2.1; omega
    have z6 := f6.size
    have hl : (cycP (1 + r).toNat q4).length = (1 + r).toNat := cycL_length _ _ _
    refine HK t _ i4 sd4 h6 (OwR.ivs o6 (by omega) z6) ?_ (by omega) (by omega) hL6.tail.head ?_ (fin h6 ?_)
    · rw [hl]; exact (cyc_GR (by omega) q4).up (by omega)
    · exact (((D4.no f5).fr f6 fun k hk hk2 => by simp [In] at hk2; omega)).up (by omega)
    · exact ((((f1.of_no.trans (inb f2)).trans (inb f3)).trans (inb f4)).trans f5.of_no).trans (f6.mono fun k _ hk => .inr (by simp [In] at hk; omega))
  · intro b3 h8 hb3 f8 hL8
    have f8 := f8.in_nil
    have z2 := f2.size
    have z3 := f3.size
    have z8 := f8.size
    have l3 : b3 < h8.size := hL8.head.lt
    have f08 : Fr (fun k => k = b ∨ h.size ≤ k) h h8 := ((f1.of_no.trans (inb f2)).trans (inb f3)).trans f8.of_no
    refine ⟨fun m p x d i' sd' h' => 0 ≤ p ∧ p + m = 1 + r ∧ d = c ∧ CurD a (n + 4 + 10 * p.toNat) h' c i' ∧ (∃ rows, OwX h' (fun k => h8.size ≤ k) x rows ∧ GR (1 + r) 3 rows ∧ rows.length = p.toNat) ∧ Fr (fun k => k = b ∨ h.size ≤ k) h h' ∧ h8.size ≤ h'.size, ⟨(1 + r).toNat, by omega, by omega, rfl, (D3.no f8).up (by omega), ⟨[], OwR.nil _ _ _ _, GR.nil _ _, rfl⟩, f08, Nat.le_refl _⟩, ?_⟩
    rintro m p x d i9 sd9 h9 ⟨p0, p1, rfl, D9, ⟨rows, o9, g9, e9⟩, f9, z9⟩ hL9
    have hoff : ∀ (A B C : List Value) (q : Nat × List Value), q ∈ [(b3, A), (b2, B), (b, C)] → q.1 < h8.size := fun A B C q hq => by
      simp only [List.mem_cons, List.not_mem_nil, or_false] at hq
      rcases hq with rfl | rfl | rfl <;> simp only <;> omega
    refine ⟨fun e => ?_, fun e => ?_⟩
    · simp only [decide_eq_true_eq] at e
      refine k_pick hL9.tail.tail.head hb D9 (by omega) 3 _ fun y i10 sd10 h10 y0 y1 V10 D10 f10 => ⟨d, i10, sd10, y, rfl, vcur hL9 2 rfl f10 V10, ?_⟩
      have y1 := y1 (by omega)
      rw [w64_eq (1 + y) (by omega) (by omega)]
      have z10 := f10.size
      have o10 := OwR.fr (OwR.toIv o9) f10 fun k hk hk2 hk3 => by simp [In] at hk3; have := hk2.1; omega
      refine ⟨fun m l k d' i' sd' h' => m = k.toNat ∧ 0 ≤ k ∧ d' = d ∧ CurD a (n + 6 + 10 * p.toNat + 2 * (3 - k).toNat) h' d i' ∧ (∃ ys, OwI h' (fun k => h9.size ≤ k) l ys ∧ (∀ x, x ∈ ys → 0 ≤ x ∧ x < 1 + r) ∧ (ys.length : Int) + k ≤ 3) ∧ OwX h' (Iv h8.size h9.size) x rows ∧ Fr (fun k => k = b ∨ h.size ≤ k) h h' ∧ h9.size ≤ h'.size, ⟨(1 + y).toNat, rfl, by omega, rfl, D10.up (by omega), ⟨[], Ow.nil _ _ _ _, by simp, by simp; omega⟩, o10, f9.trans (inb f10), z10⟩, ?_⟩
      rintro m2 l k d' i11 sd11 h11 ⟨rfl, k0, rfl, D11, ⟨ys, q11, r11, e11⟩, o11, f11, z11⟩ hL11
      refine ⟨fun ek => ?_, fun ek => ?_⟩
      · simp only [decide_eq_true_eq] at ek
        refine k_pick hL11.tail.tail.head hb D11 (by omega) (1 + r) _ fun w i12 sd12 h12 w0 w1 V12 D12 f12 => ⟨d', i12, sd12, w, rfl, vcur hL11 2 rfl f12 V12, ?_⟩
        have w1 := w1 (by omega)
        have z12 := f12.size
        have q12 : OwI h12 (fun k => h9.size ≤ k) l ys := Ow.fr q11 f12 fun k hk hk3 => by have := (q11.foot hk).1; simp [In] at hk3; omega
        have hL12 := vcur hL11 2 rfl f12 V12
        refine eop_put (lo := h9.size) q12 (by omega) hL12 (fun q hq => by have := hoff _ _ _ q hq; omega) (by omega) _ fun u h14 o14 f14 V14 => ?_
        rw [w64_eq (k - 1) (by omega) (by omega)]
        have z14 := f14.size
        refine ⟨(k - 1).toNat, by omega, rfl, by omega, rfl, ?_, ⟨ys ++ [w], o14, ?_, by simp; omega⟩, ?_, ?_, by omega⟩
        · exact (D12.fr f14 fun k hk hk2 => by omega).up (by omega)
        · intro v hv
          rcases List.mem_append.1 hv with a | a
          · exact r11 v a
          · simp only [List.mem_cons, List.not_mem_nil, or_false] at a; omega
        · refine OwR.fr (OwR.fr o11 f12 fun k hk hk2 hk3 => by simp [In] at hk3; have := hk2.1; omega) f14 fun k hk hk2 hk3 => by have := hk2.2; omega
        · exact (f11.trans (inb f12)).trans (f14.mono fun k _ hk => .inr (by have := f9.size; omega))
      · simp only [decide_eq_false_iff_not] at ek
        have ek0 : k = 0 := by omega
        subst ek0
        refine ⟨fun y2 d2 i2' sd2' h' => d2 = d' ∧ (∃ zs, OwI h' (fun k => h9.size ≤ k) y2 zs ∧ (∀ x, x ∈ zs → 0 ≤ x ∧ x < 1 + r) ∧ zs.length ≤ 3) ∧ OwX h' (Iv h8.size h9.size) x rows ∧ CurD a (n + 14 + 10 * p.toNat) h' d' i2' ∧ Fr (fun k => k = b ∨ h.size ≤ k) h h' ∧ h9.size ≤ h'.size, ?_, ?_⟩
        · refine k_one hL11.tail.tail.head hb D11 (by omega) 8 _ fun q15 i15 sd15 h15 V15 D15 f15 => ⟨d', i15, sd15, q15, rfl, vcur hL11 2 rfl f15 V15, fun _ => ?_, fun _ => ?_⟩
          · exact ⟨rfl, ⟨[], Ow.nil _ _ _ _, by simp, by simp⟩, OwR.fr o11 f15 fun k hk hk2 hk3 => by simp [In] at hk3; have := hk2.1; omega, D15.up (by omega), f11.trans (inb f15), by have := f15.size; omega⟩
          · exact ⟨rfl, ⟨ys, Ow.fr q11 f15 fun k hk hk3 => by have := (q11.foot hk).1; simp [In] at hk3; omega, r11, by omega⟩, OwR.fr o11 f15 fun k hk hk2 hk3 => by simp [In] at hk3; have := hk2.1; omega, D15.up (by omega), f11.trans (inb f15), by have := f15.size; omega⟩
        rintro y2 d2 i16 sd16 h16 ⟨rfl, ⟨zs, q16, r16, e16⟩, o16, D16, f16, z16⟩ hL16
        refine eop_putR (lo := h8.size) (m := h9.size) o16 q16 z9 z16 hL16 (fun q hq => hoff _ _ _ q hq) (by omega) _ fun u h18 o18 f18 V18 h19 f19 hL19 => ?_
        rw [w64_eq (p + 1) (by omega) (by omega)]
        have z18 := f18.size
        have z19 := f19.size
        refine ⟨m - 1, by omega, by omega, by omega, rfl, ?_, ⟨rows ++ [zs], OwR.fr o18 f19 fun k hk hk2 hk3 => by simp [In] at hk3; omega, g9.snoc e16 r16, by simp; omega⟩, ?_, by omega⟩
        · exact ((D16.fr f18 fun k hk hk2 => by omega).fr f19 fun k hk hk2 => by simp [In] at hk2; omega).up (by omega)
        · exact (f16.trans (f18.mono fun k _ hk => .inr (by omega))).trans (f19.mono fun k _ hk => .inr (by simp [In] at hk; omega))
    · simp only [decide_eq_false_iff_not] at e
      have hrl : (rows.length : Int) = 1 + r := by omega
      refine k_one hL9.tail.tail.head hb D9 (by omega) 2 _ fun q20 i20 sd20 h20 V20 D20 f20 => ⟨d, i20, sd20, q20, rfl, vcur hL9 2 rfl f20 V20, fun _ => ?_, fun _ => ?_⟩
      · have z20 := f20.size
        have o20 : OwX h20 (fun k => h8.size ≤ k) x rows := OwR.fr o9 f20 fun k hk hk2 hk3 => by simp [In] at hk3; omega
        have hL20 := vcur hL9 2 rfl f20 V20
        refine ⟨fun m2 j h' => 0 ≤ j ∧ j + m2 = 1 + r ∧ CurD a (n + 100) h' d i20 ∧ (∃ rs, OwX h' (fun k => h8.size ≤ k) x rs ∧ GR (1 + r) 4 rs ∧ (rs.length : Int) = 1 + r ∧ ∀ k (hk : k < rs.length), j ≤ (k : Int) → rs[k].length ≤ 3) ∧ Fr (fun k => k = b ∨ h.size ≤ k) h h' ∧ h8.size ≤ h'.size, ⟨(1 + r).toNat, by omega, by omega, D20.up (by omega), ⟨rows, o20, g9.up (by omega), hrl, fun k hk _ => (g9 _ (List.getElem_mem hk)).1⟩, f9.trans (inb f20), by omega⟩, ?_⟩
        rintro m2 j h21 ⟨j0, j1, D21, ⟨rs, o21, g21, e21, s21⟩, f21, z21⟩ hL21
        have hxn : (x.n : Int) = 1 + r := by have := OwR.len o21; omega
        refine ⟨fun ej => ?_, fun ej => ?_⟩
        · simp only [decide_eq_true_eq] at ej
          have hj : j < (rs.length : Int) := by omega
          have hsj := s21 j.toNat (by omega) (by omega)
          obtain ⟨si, c1, c2⟩ := row_put o21 z21 j0 hj hL21 (fun q hq => hoff _ _ _ q hq) (by omega) ((w64 (j + 1)).tmod (1 + r))
          refine ⟨(OwR.rd o21).inb j0 hj, si, c1, by omega, c2 _ fun h24 o24 f24 V24 => ?_⟩
          rw [w64_eq (j + 1) (by omega) (by omega)] at o24 ⊢
          refine ⟨m2 - 1, by omega, by omega, by omega, D21.fr f24 fun k hk hk2 => by omega, ⟨_, o24, g21.set _ (by simp; omega) ?_, by simp; omega, fun k hk hk2 => ?_⟩, f21.trans (f24.mono fun k _ hk => .inr (by omega)), by have := f24.size; omega⟩
          · intro v hv
            rcases List.mem_append.1 hv with a | a
            · exact (g21 _ (List.getElem_mem _)).2 v a
            · simp only [List.mem_cons, List.not_mem_nil, or_false] at a
              rw [a]; exact ⟨Int.tmod_nonneg _ (by omega), Int.tmod_lt_of_pos _ (by omega)⟩
          · rw [List.getElem_set, if_neg (by omega)]
            exact s21 k (by simpa using hk) (by omega)
        · intro h25 f25 hL25
          have o25 : OwX h25 (fun k => h8.size ≤ k) x rs := OwR.fr o21 f25 fun k hk hk2 hk3 => by simp [In] at hk3; omega
          refine HK x rs i20 sd20 h25 (OwR.ivs (OwR.toIv o25) (by omega) (Nat.le_refl _)) (by rw [e21]; exact g21) (by omega) (by omega) hL25.tail.tail.head (D21.fr f25 fun k hk hk2 => by simp [In] at hk2; omega) (fin _ (f21.trans (f25.mono fun k _ hk => .inr (by simp [In] at hk; omega))))
      · intro h26 f26 hL26
        have z20 := f20.size
        have o26 : OwX h26 (fun k => h8.size ≤ k) x rows := OwR.fr (OwR.fr o9 f20 fun k hk hk2 hk3 => by simp [In] at hk3; omega) f26 fun k hk hk2 hk3 => by simp [In] at hk3; omega
        refine HK x rows i20 sd20 h26 (OwR.ivs (OwR.toIv o26) (by omega) (Nat.le_refl _)) (by rw [hrl]; exact g9.up (by omega)) (by omega) (by omega) hL26.tail.tail.head ((D20.fr f26 fun k hk hk2 => by simp [In] at hk2; omega).up (by omega)) (fin _ ((f9.trans (inb f20)).trans (f26.mono fun k _ hk => .inr (by simp [In] at hk; omega))))

theorem row_set {L : List (Nat × List Value)} {F : Nat → Prop} {m : Nat} {h : Heap} {s x : Sl} {xss : List (List Int)} {ys : List Int} {i : Int} (O : OwX h (fun k => F k ∧ k < m) s xss) (X : OwI h (fun k => m ≤ k) x ys) (hF : ∀ k, m ≤ k → F k) (h0 : 0 ≤ i) (h1 : i < (xss.length : Int)) (hL : Vars h L) (hoff : ∀ p, p ∈ L → ¬ F p.1) (R : Heap → Prop) (HR : ∀ h', OwX h' F s (xss.set i.toNat ys) → Fr F h h' → Vars h' L → R h') : InB s i ∧ Writable h (s.at i 1) ∧ Vars (hset h (s.at i 1) x.v) L ∧ ∀ h3, h3 = hset h (s.at i 1) x.v → Vars h3 L → R h3 := by
  obtain ⟨si, c1, c2, _⟩ := O.inner h0 h1
  obtain ⟨i11, w11, o11, f11⟩ := O.outer2 h0 h1 c1 (Fr.refl _ _) (F' := F) (X.mono fun k _ hk => hF k hk) (fun k _ hk => hk.1) fun k hk => .inr fun hk2 => by have := (X.foot hk).1; have := hk2.2; omega
  have g11 : Fr F h _ := (O.ownF f11).mono fun k _ hk => hk.1
  have V11 := hL.fr g11 hoff
  exact ⟨i11, w11, V11, fun h3 e3 V3 => HR h3 (by rw [e3]; exact o11) (by rw [e3]; exact g11) V3⟩

theorem k_sureWalk {a n b : Nat} {h : Heap} {c : Sl} {i sd : Int} (V : IsVar h b [c.v, VI i, .int .u64 sd]) (hb : a ≤ b) (D : CurD a n h c i) (hn : n ≤ 1000000000) {S : Nat → Prop} {g : Sl} {xss : List (List Int)} (G : RdR S h g xss) (hS : ¬ S b) (hl : xss.length ≤ 1000) (K : Value → Heap → Prop) (HK : ∀ (t : Sl) (rs : List Int) (p i' sd' : Int) h', OwI h' (Iv h.size h'.size) t rs → rs.length = xss.length → IsVar h' b [c.v, VI i', .int .u64 sd'] → CurD a (n + 2 + 2 * xss.length) h' c i' → Fr (In [b]) h h' → K (.agg #[t.v, VI p]) h') : callM Try.prog 157 #[VP b 0, .agg #[g.v]] h K := by
  have lb := V.lt
  refine v157 b c i sd g h K (.cons V (by simp) .nil) fun b2 b3 h2 hb2 hb3 f2 hL2 => ?_
  have f2 := f2.in_nil
  have z2 := f2.size
  have l3 : b3 < h2.size := hL2.head.lt
  have l2 : b2 < h2.size := hL2.tail.head.lt
  have fin : ∀ (h' : Heap), Fr (fun k => k = b ∨ h.size ≤ k) h h' → Fr (In [b]) h h' := fun h' f => f.mono fun k hk hk2 => by
    rcases hk2 with e | e
    · simp [In, e]
    · omega
  have inb : ∀ {x y : Heap}, Fr (In [b]) x y → Fr (fun k => k = b ∨ h.size ≤ k) x y := fun f => f.mono fun k _ hk => .inl (by simpa [In] using hk)
  have G0 : RdR (fun k => S k ∧ k < h.size) h g xss := G.lowS
  have gT : ∀ k, (S k ∧ k < h.size) → ¬ (k = b ∨ h.size ≤ k) := fun k hk hk2 => by
    rcases hk2 with e | e
    · subst e; exact hS hk.1
    · omega
  refine k_pick hL2.tail.tail.head hb (D.no f2) (by omega) _ _ fun r i3 sd3 h3 r0 r1 V3 D3 f3 => ⟨c, i3, sd3, r, rfl, vcur hL2 2 rfl f3 V3, fun b4 h5 hb4 f5 hL5 => ?_⟩
  have f5 := f5.in_nil
  have z3 := f3.size
  have z5 := f5.size
  have l4 : b4 < h5.size := hL5.head.lt
  have gn := G.len
  refine ⟨fun m p x y d i' sd' h' => 0 ≤ p ∧ p + m = (xss.length : Int) ∧ y = r ∧ d = c ∧ CurD a (n + 2 + 2 * p.toNat) h' c i' ∧ (∃ rs, OwI h' (fun k => h5.size ≤ k) x rs ∧ rs.length = p.toNat) ∧ Fr (fun k => k = b ∨ h.size ≤ k) h h' ∧ h5.size ≤ h'.size, ⟨xss.length, by omega, by omega, rfl, rfl, (D3.no f5).up (by omega), ⟨[], Ow.nil _ _ _ _, rfl⟩, (f2.of_no.trans (inb f3)).trans f5.of_no, Nat.le_refl _⟩, ?_⟩
  rintro m p x y d i6 sd6 h6 ⟨p0, p1, rfl, rfl, D6, ⟨rs, o6, e6⟩, f6, z6⟩ hL6
  have G6 := G0.fr f6 gT
  refine ⟨fun e => ?_, fun e => ?_⟩
  · simp only [decide_eq_true_eq] at e
    obtain ⟨si, c1, r6⟩ := G6.get p0 (by omega)
    refine ⟨G6.inb p0 (by omega), si, c1, fun w d2 i' sd' h' => d2 = d ∧ CurD a (n + 2 + 2 * p.toNat + 2) h' d i' ∧ OwI h' (fun k => h5.size ≤ k) x rs ∧ Fr (fun k => k = b ∨ h.size ≤ k) h h' ∧ h5.size ≤ h'.size, ⟨fun _ => ?_, fun _ => ⟨rfl, D6.up (by omega), o6, f6, z6⟩⟩, ?_⟩
    · refine k_pick hL6.tail.tail.tail.head hb D6 (by omega) _ _ fun w i7 sd7 h7 w0 w1 V7 D7 f7 => ⟨d, i7, sd7, w, rfl, vcur hL6 3 rfl f7 V7, rfl, D7, Ow.fr o6 f7 fun k hk hk3 => by have := (o6.foot hk).1; simp [In] at hk3; omega, f6.trans (inb f7), by have := f7.size; omega⟩
    rintro w d2 i8 sd8 h8 ⟨rfl, D8, o8, f8, z8⟩ hL8
    refine eop_put (lo := h5.size) o8 z8 hL8 (fun q hq => by
      simp only [List.mem_cons, List.not_mem_nil, or_false] at hq
      rcases hq with rfl | rfl | rfl | rfl <;> simp only <;> omega) (by omega) _ fun u h10 o10 f10 V10 h11 f11 hL11 => ?_
    rw [w64_eq (p + 1) (by omega) (by omega)]
    have z10 := f10.size
    have z11 := f11.size
    refine ⟨m - 1, by omega, by omega, by omega, rfl, rfl, ?_, ⟨rs ++ [w], Ow.fr o10 f11 fun k hk hk3 => by have := (o10.foot hk).1; simp [In] at hk3; omega, by simp; omega⟩, ?_, by omega⟩
    · exact ((D8.fr f10 fun k hk hk2 => by omega).fr f11 fun k hk hk2 => by simp [In] at hk2; omega).up (by omega)
    · exact (f8.trans (f10.mono fun k _ hk => .inr (by omega))).trans (f11.mono fun k _ hk => .inr (by simp [In] at hk; omega))
  · simp only [decide_eq_false_iff_not] at e
    intro h12 f12 hL12
    have o12 : OwI h12 (fun k => h5.size ≤ k) x rs := Ow.fr o6 f12 fun k hk hk3 => by have := (o6.foot hk).1; simp [In] at hk3; omega
    refine HK x rs y i6 sd6 h12 (Ow.ivs (Ow.toIv o12) (by omega) (Nat.le_refl _)) (by omega) hL12.tail.tail.tail.head ?_ (fin _ (f6.trans (f12.mono fun k _ hk => .inr (by simp [In] at hk; omega))))
    exact (D6.fr f12 fun k hk hk2 => by simp [In] at hk2; omega).up (by omega)

theorem k_sunk {a n b : Nat} {h : Heap} {c : Sl} {i sd : Int} (V : IsVar h b [c.v, VI i, .int .u64 sd]) (hb : a ≤ b) (D : CurD a n h c i) (hn : n ≤ 100000000) (K : Value → Heap → Prop) (HK : ∀ (t : Sl) (xss : List (List Int)) (p i' sd' : Int) h', RdR (fun k => h.size ≤ k) h' t xss → graphB xss = true → 0 ≤ p → p < (xss.length : Int) → IsVar h' b [c.v, VI i', .int .u64 sd'] → CurD a (n + 200) h' c i' → Fr (In [b]) h h' → K (.tuple #[.agg #[t.v], VI p]) h') : callM Try.prog 156 #[VP b 0] h K := by
  have lb := V.lt
  refine v156 b c i sd h K (.cons V (by simp) .nil) fun b2 h1 hb2 f1 hL1 => ?_
  have f1 := f1.in_nil
  have z1 := f1.size
  have l2 : b2 < h1.size := hL1.head.lt
  have fin : ∀ (h' : Heap), Fr (fun k => k = b ∨ h.size ≤ k) h h' → Fr (In [b]) h h' := fun h' f => f.mono fun k hk hk2 => by
    rcases hk2 with e | e
    · simp [In, e]
    · omega
  have inb : ∀ {x y : Heap}, Fr (In [b]) x y → Fr (fun k => k = b ∨ h.size ≤ k) x y := fun f => f.mono fun k _ hk => .inl (by simpa [In] using hk)
  refine k_sureGraph hL1.tail.head hb (D.no f1) (by omega) (most := 5) (by omega) (by omega) _ fun t xss i2 sd2 h2 o2 g2 n1 n2 V2 D2 f2 => ⟨c, i2, sd2, t, rfl, vcur hL1 1 rfl f2 V2, fun b3 h4 hb3 f4 hL4 => ?_⟩
  have f4 := f4.in_nil
  have z2 := f2.size
  have z4 := f4.size
  have l3 : b3 < h4.size := hL4.head.lt
  have tn := OwR.len o2
  refine k_pick hL4.tail.tail.head hb (D2.no f4) (by omega) _ _ fun s i5 sd5 h5 s0 s1 V5 D5 f5 => ⟨c, i5, sd5, s, rfl, vcur hL4 2 rfl f5 V5, ?_⟩
  have s1 := s1 (by omega)
  have z5 := f5.size
  generalize hF : (fun k => (h1.size ≤ k ∧ k < h2.size) ∨ h4.size ≤ k) = F
  have F1 : ∀ k, F k → h1.size ≤ k := fun k hk => by rw [← hF] at hk; rcases hk with a | a <;> omega
  have F2 : ∀ k, h4.size ≤ k → F k := fun k hk => by rw [← hF]; exact .inr hk
  have F3 : ¬ F b3 := fun hk => by rw [← hF] at hk; rcases hk with a | a <;> omega
  have o5 : OwX h5 F t xss := (OwR.fr (OwR.no o2 f4) f5 fun k hk hk2 hk3 => by simp [In] at hk3; have := hk2.1; omega).mono fun k hk hk2 => by rw [← hF]; exact .inl hk2
  have f05 : Fr (fun k => k = b ∨ h.size ≤ k) h h5 := ((f1.of_no.trans (inb f2)).trans f4.of_no).trans (inb f5)
  refine ⟨fun m p d i' sd' h' => 0 ≤ p ∧ p + m = (xss.length : Int) ∧ d = c ∧ CurD a (n + 102 + 2 * p.toNat) h' c i' ∧ (∃ rs, OwX h' F t rs ∧ GR xss.length 5 rs ∧ rs.length = xss.length) ∧ Fr (fun k => k = b ∨ h.size ≤ k) h h' ∧ h4.size ≤ h'.size, ⟨xss.length, by omega, by omega, rfl, D5.up (by omega), ⟨xss, o5, g2.up (by omega), rfl⟩, f05, by omega⟩, ?_⟩
  rintro m p d i6 sd6 h6 ⟨p0, p1, rfl, D6, ⟨rs, o6, g6, e6⟩, f6, z6⟩ hL6
  have hoff : ∀ (A B C : List Value) (q : Nat × List Value), q ∈ [(b3, A), (b2, B), (b, C)] → ¬ F q.1 := fun A B C q hq => by
    simp only [List.mem_cons, List.not_mem_nil, or_false] at hq
    rcases hq with rfl | rfl | rfl
    · exact F3
    · exact fun hk => by have := F1 _ hk; omega
    · exact fun hk => by have := F1 _ hk; omega
  have hgr : graphB rs = true := GR.graph (q := 5) (by rw [e6]; exact g6) (Nat.le_refl _) (by omega) (by omega)
  refine ⟨fun e => ?_, fun e => ?_⟩
  · simp only [decide_eq_true_eq] at e
    have hp : p < (rs.length : Int) := by omega
    have next : ∀ (d7 i7 sd7 : Int) (h7 : Heap), CurD a (n + 102 + 2 * p.toNat + 2) h7 d i7 → (∃ rs', OwX h7 F t rs' ∧ GR xss.length 5 rs' ∧ rs'.length = xss.length) → Fr (fun k => k = b ∨ h.size ≤ k) h h7 → h4.size ≤ h7.size → ∃ m' : Nat, m' < m ∧ (0 ≤ w64 (p + 1) ∧ w64 (p + 1) + m' = (xss.length : Int) ∧ d = d ∧ CurD a (n + 102 + 2 * (w64 (p + 1)).toNat) h7 d i7 ∧ (∃ rs, OwX h7 F t rs ∧ GR xss.length 5 rs ∧ rs.length = xss.length) ∧ Fr (fun k => k = b ∨ h.size ≤ k) h h7 ∧ h4.size ≤ h7.size) := fun d7 i7 sd7 h7 a1 a2 a3 a4 => by
      rw [w64_eq (p + 1) (by omega) (by omega)]
      exact ⟨m - 1, by omega, by omega, by omega, rfl, a1.up (by omega), a2, a3, a4⟩
    refine k_grFar (OwR.rd o6) hgr p0 hp _ fun u h7 o7 _ f7 => ⟨u, rfl, hL6.of_no f7, fun _ => ⟨fun _ => ?_, fun _ => next 0 i6 sd6 h7 ((D6.no f7).up (by omega)) ⟨rs, OwR.no o6 f7, g6, e6⟩ (f6.trans f7.of_no) (by have := f7.size; omega)⟩, fun _ => next 0 i6 sd6 h7 ((D6.no f7).up (by omega)) ⟨rs, OwR.no o6 f7, g6, e6⟩ (f6.trans f7.of_no) (by have := f7.size; omega)⟩
    have z7 := f7.size
    have o7' := OwR.no o6 f7
    have hL7 := hL6.of_no f7
    refine k_grFar (OwR.rd o7') hgr p0 hp _ fun v h8 o8 fl f8 => ⟨v, rfl, hL7.of_no f8, ?_⟩
    have z8 := f8.size
    have o8' := OwR.no o7' f8
    have hL8 := hL7.of_no f8
    have r8 := Ow.rdI o8
    refine ⟨r8.inb s0 (by omega), _, r8.get s0 (by omega), fun _ => ?_, fun _ => next 0 i6 sd6 h8 (((D6.no f7).no f8).up (by omega)) ⟨rs, o8', g6, e6⟩ ((f6.trans f7.of_no).trans f8.of_no) (by omega)⟩
    refine k_one hL8.tail.tail.head hb ((D6.no f7).no f8) (by omega) 12 _ fun q9 i9 sd9 h9 V9 D9 f9 => ⟨d, i9, sd9, q9, rfl, vcur hL8 2 rfl f9 V9, fun _ => ?_, fun _ => ?_⟩
    rotate_left
    · exact next 0 i9 sd9 h9 (D9.up (by omega)) ⟨rs, OwR.fr o8' f9 fun k hk hk2 hk3 => by simp [In] at hk3; have := F1 _ hk2; omega, g6, e6⟩ (((f6.trans f7.of_no).trans f8.of_no).trans (inb f9)) (by have := f9.size; omega)
    have z9 := f9.size
    have hL9 : Vars h9 [(b3, [t.v]), (b2, [nilSl.v]), (b, [d.v, VI i9, .int .u64 sd9])] := vcur hL8 2 rfl f9 V9
    have o9 : OwX h9 F t rs := OwR.fr o8' f9 fun k hk hk2 hk3 => by simp [In] at hk3; have := F1 _ hk2; omega
    have f09 : Fr (fun k => k = b ∨ h.size ≤ k) h h9 := ((f6.trans f7.of_no).trans f8.of_no).trans (inb f9)
    have fT : ∀ {x y : Heap}, Fr F x y → Fr (fun k => k = b ∨ h.size ≤ k) x y := fun f => f.mono fun k _ hk => .inr (by have := F1 _ hk; omega)
    have o9i : OwX h9 (fun k => F k ∧ k < h9.size) t rs := o9.mono fun k hk hk2 => ⟨hk2, hk⟩
    obtain ⟨si, c1, c2, _⟩ := o9i.inner p0 hp
    have grow := g6 _ (List.getElem_mem (show p.toNat < rs.length by omega))
    have cn := c2.rd.len
    simp only [List.length_map, Nat.mul_one] at cn
    have hi9 := (OwR.rd o9).inb p0 hp
    have cR : RdI (fun k => F k ∧ k < h9.size) h9 si (rs[p.toNat]'(by omega)) := Ow.rdF c2
    refine ⟨hi9, si, c1, fun el => ?_, fun el => ?_⟩
    · simp only [decide_eq_true_eq] at el
      refine ⟨hi9, si, c1, ?_, ?_⟩
      · refine k_l1Own cR (by omega) _ fun w h10 o10 f10 => ⟨w, rfl, hL9.of_no f10, ?_⟩
        have z10 := f10.size
        refine eop_put (lo := h9.size) (o10.mono fun k _ hk => hk.1) z10 (hL9.of_no f10) (fun q hq => by
          simp only [List.mem_cons, List.not_mem_nil, or_false] at hq
          rcases hq with rfl | rfl | rfl <;> simp only <;> omega) (by omega) _ fun y h12 o12 f12 V12 => ?_
        have z12 := f12.size
        have o12x : OwX h12 (fun k => F k ∧ k < h9.size) t rs := OwR.fr (OwR.no o9i f10) f12 fun k hk hk2 hk3 => by have := hk2.2; omega
        refine row_set (m := h9.size) o12x o12 (fun k hk => F2 k (by omega)) p0 hp V12 (fun q hq => hoff _ _ _ q hq) _ fun h13 o13 f13 V13 => ?_
        refine next 0 i9 sd9 h13 ?_ ⟨_, o13, g6.set _ (by simp; omega) ?_, by simp [e6]⟩ (((f09.trans f10.of_no).trans (f12.mono fun k _ hk => .inr (by omega))).trans (fT f13)) (by have := f13.size; omega)
        · exact (((D9.no f10).fr f12 fun k hk hk2 => by omega).fr f13 fun k hk hk2 => by have := F1 _ hk2; omega).up (by omega)
        · intro v hv
          rcases List.mem_append.1 hv with a | a
          · exact grow.2 v a
          · simp only [List.mem_cons, List.not_mem_nil, or_false] at a; omega
      · refine eop_lit rIs (fun k => h9.size ≤ k) (fun _ h => h) 1 (by omega) [VI s] rfl rfl fun w h10 n10 c10 o10 f10 m10 _ => ⟨w, rfl, hL9.of_no f10, hcell_fr c1 f10 (fun h => h), ?_⟩
        have z10 := f10.size
        refine k_l1Own (cR.no f10) (by omega) _ fun y h11 o11 f11 => ⟨y, rfl, (hL9.of_no f10).of_no f11, ?_⟩
        have z11 := f11.size
        have yn := o11.rd.len
        have wn := o10.rd.len
        (try simp only [List.length_map, Nat.mul_one, List.length_cons, List.length_nil] at yn)
        (try simp only [List.length_map, Nat.mul_one, List.length_cons, List.length_nil] at wn)
        have o11' : OwI h11 (fun k => h10.size ≤ k) y (rs[p.toNat]'(by omega)) := o11.mono fun k _ hk => hk.1
        refine eop_append rIs o11' (fun k hk => by omega) (o10.rd.no f11) (plainVI [s]) (by omega) fun y2 h12 n12 o12 f12 d12 => ?_
        have g12 : Fr (fun k => h9.size ≤ k) h11 h12 := f12.mono fun k _ hk => by have := (o11'.foot hk).1; omega
        have V12 := ((hL9.of_no f10).of_no f11).fr g12 fun q hq hk => by
          simp only [List.mem_cons, List.not_mem_nil, or_false] at hq
          rcases hq with rfl | rfl | rfl <;> simp only at hk <;> omega
        have z12 := f12.size
        have o12' : OwI h12 (fun k => h9.size ≤ k) y2 (rs[p.toNat]'(by omega) ++ [s]) := by rw [OwI, List.map_append]; exact o12.mono fun k _ hk => by omega
        have o12x : OwX h12 (fun k => F k ∧ k < h9.size) t rs := OwR.fr (OwR.no (OwR.no o9i f10) f11) g12 fun k hk hk2 hk3 => by have := hk2.2; omega
        refine ⟨y2, rfl, V12, row_set (m := h9.size) o12x o12' (fun k hk => F2 k (by omega)) p0 hp V12 (fun q hq => hoff _ _ _ q hq) _ fun h13 o13 f13 V13 => ?_⟩
        refine next 0 i9 sd9 h13 ?_ ⟨_, o13, g6.set _ (by simp; omega) ?_, by simp [e6]⟩ ((((f09.trans f10.of_no).trans f11.of_no).trans (g12.mono fun k _ hk => .inr (by omega))).trans (fT f13)) (by have := f13.size; omega)
        · exact ((((D9.no f10).no f11).fr g12 fun k hk hk2 => by omega).fr f13 fun k hk hk2 => by have := F1 _ hk2; omega).up (by omega)
        · intro v hv
          rcases List.mem_append.1 hv with a | a
          · exact grow.2 v a
          · simp only [List.mem_cons, List.not_mem_nil, or_false] at a; omega
    · simp only [decide_eq_false_iff_not] at el
      refine ⟨hi9, si, c1, pop_cut_l rIs .i64 (by omega) (by omega) ⟨_, rfl, ?_⟩⟩
      refine eop_lit rIs (fun k => h9.size ≤ k) (fun _ h => h) 1 (by omega) [VI s] rfl rfl fun w h10 n10 c10 o10 f10 m10 _ => ⟨w, rfl, hL9.of_no f10, hcell_fr c1 f10 (fun h => h), ?_⟩
      have z10 := f10.size
      have wn := o10.rd.len
      simp only [Nat.mul_one, List.length_cons, List.length_nil] at wn
      have cC : RdI (fun k => F k ∧ k < h9.size) h9 (si.cut 1 (1 : Int).toNat si.n si.c) (((rs[p.toNat]'(by omega)).drop 1).take (si.n - 1)) := RdI.cut cR (l := 1) (by omega) (by omega)
      have cCn := (RdI.no cC f10).len
      simp only [List.length_take, List.length_drop] at cCn
      refine eop_append rIs (Ow.no o10 (Fr.refl _ _)) (fun k hk => by omega) (RdI.no cC f10) (plainVI _) (by omega) fun y2 h12 n12 o12 f12 d12 => ?_
      have g12 : Fr (fun k => h9.size ≤ k) h10 h12 := f12.mono fun k _ hk => (o10.foot hk).1
      have V12 := (hL9.of_no f10).fr g12 fun q hq hk => by
        simp only [List.mem_cons, List.not_mem_nil, or_false] at hq
        rcases hq with rfl | rfl | rfl <;> simp only at hk <;> omega
      have z12 := f12.size
      have o12' : OwI h12 (fun k => h9.size ≤ k) y2 ([s] ++ ((rs[p.toNat]'(by omega)).drop 1).take (si.n - 1)) := by rw [OwI, List.map_append]; exact o12
      have o12x : OwX h12 (fun k => F k ∧ k < h9.size) t rs := OwR.fr (OwR.no o9i f10) g12 fun k hk hk2 hk3 => by have := hk2.2; omega
      refine ⟨y2, rfl, V12, hcell_fr (hcell_fr c1 f10 fun h => h) f12 (fun hk => ?_), row_set (m := h9.size) o12x o12' (fun k hk => F2 k (by omega)) p0 hp V12 (fun q hq => hoff _ _ _ q hq) _ fun h13 o13 f13 V13 => ?_⟩
      · have h1 := (o10.foot hk).1
        have h2 := hcell_lt c1
        omega
      · refine next 0 i9 sd9 h13 ?_ ⟨_, o13, g6.set _ (by simp; omega) ?_, by simp [e6]⟩ (((f09.trans f10.of_no).trans (g12.mono fun k _ hk => .inr (by omega))).trans (fT f13)) (by have := f13.size; omega)
        · exact (((D9.no f10).fr g12 fun k hk hk2 => by omega).fr f13 fun k hk hk2 => by have := F1 _ hk2; omega).up (by omega)
        · intro v hv
          rcases List.mem_append.1 hv with a | a
          · simp only [List.mem_cons, List.not_mem_nil, or_false] at a; omega
          · exact grow.2 v (List.mem_of_mem_drop (List.mem_of_mem_take a))
  · simp only [decide_eq_false_iff_not] at e
    intro h21 f21 hL21
    have o21 : OwX h21 F t rs := OwR.fr o6 f21 fun k hk hk2 hk3 => by simp [In] at hk3; subst hk3; have := F1 _ hk2; omega
    exact HK t rs s i6 sd6 h21 ((OwR.rd o21).mono fun k hk => by have := F1 _ hk.1; omega) hgr s0 (by omega) hL21.tail.tail.head ((D6.fr f21 fun k hk hk2 => by simp [In] at hk2; omega).up (by omega)) (fin _ (f6.trans (f21.mono fun k _ hk => .inr (by simp [In] at hk; omega))))

theorem int_set {L : List (Nat × List Value)} {F : Nat → Prop} {h : Heap} {s : Sl} {xs : List Int} {i : Int} {v : Int} (O : OwI h F s xs) (h0 : 0 ≤ i) (h1 : i < (xs.length : Int)) (hL : Vars h L) (hoff : ∀ p, p ∈ L → ¬ F p.1) (R : Heap → Prop) (HR : ∀ h', OwI h' F s (xs.set i.toNat v) → Fr F h h' → Vars h' L → R h') : InB s i ∧ Writable h (s.at i 1) ∧ Vars (hset h (s.at i 1) (VI v)) L ∧ ∀ h3, h3 = hset h (s.at i 1) (VI v) → Vars h3 L → R h3 := by
  have on := O.rd.len
  simp only [List.length_map, Nat.mul_one] at on
  obtain ⟨w1, w2, w3⟩ := O.store1 h0 (by omega) (VI v)
  have g : Fr F h _ := w3.mono fun k _ hk => (O.foot hk).1
  have V := hL.fr g hoff
  exact ⟨O.rd.inb h0 (by simp; omega), w1, V, fun h3 e3 V3 => HR h3 (by rw [e3, OwI, List.map_set]; exact w2) (by rw [e3]; exact g) V3⟩

theorem k_drload {a n b : Nat} {h : Heap} {c : Sl} {i sd : Int} (V : IsVar h b [c.v, VI i, .int .u64 sd]) (hb : a ≤ b) (D : CurD a n h c i) (hn : n ≤ 10000000) (K : Value → Heap → Prop) (HK : ∀ (t u v : Sl) (gs : List (List Int)) (rs cs : List Int) (p i' sd' : Int) h', RdR (fun k => h.size ≤ k) h' t gs → RdI (fun k => h.size ≤ k) h' u rs → RdI (fun k => h.size ≤ k) h' v cs → gs.length ≤ 8 → IsVar h' b [c.v, VI i', .int .u64 sd'] → CurD a (n + 400) h' c i' → Fr (In [b]) h h' → K (.tuple #[.agg #[t.v], VI p, .agg #[u.v, v.v]]) h') : callM Try.prog 98 #[VP b 0] h K := by
  have lb := V.lt
  refine v98 b c i sd h K (.cons V (by simp) .nil) fun b2 b3 h2 hb2 hb3 f2 hL2 => ?_
  have f2 := f2.in_nil
  have z2 := f2.size
  have l3 : b3 < h2.size := hL2.head.lt
  have l2 : b2 < h2.size := hL2.tail.head.lt
  have fin : ∀ (h' : Heap), Fr (fun k => k = b ∨ h.size ≤ k) h h' → Fr (In [b]) h h' := fun h' f => f.mono fun k hk hk2 => by
    rcases hk2 with e | e
    · simp [In, e]
    · omega
  have inb : ∀ {x y : Heap}, Fr (In [b]) x y → Fr (fun k => k = b ∨ h.size ≤ k) x y := fun f => f.mono fun k _ hk => .inl (by simpa [In] using hk)
  refine k_sunk hL2.tail.tail.head hb (D.no f2) (by omega) _ fun t xss s i3 sd3 h3 G3 hg s0 s1 V3 D3 f3 => ⟨c, i3, sd3, t, s, rfl, vcur hL2 2 rfl f3 V3, fun b4 h5 hb4 f5 hL5 => ?_⟩
  have hgl := graph_len hg
  have f5 := f5.in_nil
  have z3 := f3.size
  have z5 := f5.size
  have l4 : b4 < h5.size := hL5.head.lt
  have G3i : RdR (Iv h2.size h3.size) h3 t xss := G3.lowS
  have G5 := G3i.no f5
  refine k_sureWalk hL5.tail.tail.tail.head hb (D3.no f5) (by omega) G5 (fun hk => by have := hk.1; omega) (by omega) _ fun u rs p6 i6 sd6 h6 o6 e6 V6 D6 f6 => ⟨c, i6, sd6, u, p6, rfl, vcur hL5 3 rfl f6 V6, fun b5 h8 hb5 f8 hL8 => ?_⟩
  have f8 := f8.in_nil
  have z6 := f6.size
  have z8 := f8.size
  have l5 : b5 < h8.size := hL8.head.lt
  have G8 : RdR (Iv h2.size h3.size) h8 t xss := (G5.fr f6 fun k hk hk2 => by simp [In] at hk2; have := hk.1; omega).no f8
  have f08 : Fr (fun k => k = b ∨ h.size ≤ k) h h8 := ((((f2.of_no.trans (inb f3)).trans f5.of_no).trans (inb f6)).trans f8.of_no)
  have tn := G5.len
  refine ⟨fun m p x y d i' sd' h' => 0 ≤ p ∧ p + m = (xss.length : Int) ∧ x = u ∧ d = c ∧ CurD a (n + 250 + 2 * p.toNat) h' c i' ∧ (∃ cs, OwI h' (fun k => h8.size ≤ k) y cs ∧ cs.length = p.toNat) ∧ OwI h' (Iv h5.size h6.size) u rs ∧ RdR (Iv h2.size h3.size) h' t xss ∧ Fr (fun k => k = b ∨ h.size ≤ k) h h' ∧ h8.size ≤ h'.size, ⟨xss.length, by omega, by omega, rfl, rfl, (D6.no f8).up (by omega), ⟨[], Ow.nil _ _ _ _, rfl⟩, Ow.no o6 f8, G8, f08, Nat.le_refl _⟩, ?_⟩
  rintro m p x y d i9 sd9 h9 ⟨p0, p1, rfl, rfl, D9, ⟨cs, o9, e9⟩, q9, G9, f9, z9⟩ hL9
  have hoff : ∀ (A B C E F : List Value) (q : Nat × List Value), q ∈ [(b5, A), (b4, B), (b3, C), (b2, E), (b, F)] → q.1 < h8.size := fun A B C E F q hq => by
    simp only [List.mem_cons, List.not_mem_nil, or_false] at hq
    rcases hq with rfl | rfl | rfl | rfl | rfl <;> simp only <;> omega
  have gb : ∀ {X Y : Heap}, RdR (Iv h2.size h3.size) X t xss → Fr (In [b]) X Y → RdR (Iv h2.size h3.size) Y t xss := fun G f => G.fr f fun k hk hk2 => by simp [In] at hk2; have := hk.1; omega
  have qb : ∀ {X Y : Heap}, OwI X (Iv h5.size h6.size) x rs → Fr (In [b]) X Y → OwI Y (Iv h5.size h6.size) x rs := fun O f => Ow.fr O f fun k hk hk2 => by simp [In] at hk2; have := (O.foot hk).1.1; omega
  have ob : ∀ {X Y : Heap} {w : Sl} {zs : List Int}, OwI X (fun k => h8.size ≤ k) w zs → Fr (In [b]) X Y → OwI Y (fun k => h8.size ≤ k) w zs := fun O f => Ow.fr O f fun k hk hk2 => by simp [In] at hk2; have := (O.foot hk).1; omega
  refine ⟨fun e => ?_, fun e => ?_⟩
  · simp only [decide_eq_true_eq] at e
    refine eop_lit rIs (fun k => h9.size ≤ k) (fun _ h => h) 6 (by omega) [VI 0, VI 0, VI 1, VI 2, VI 0, VI 3] rfl rfl fun w h10 n10 c10 o10 f10 m10 _ => ⟨w, rfl, hL9.of_no f10, ?_⟩
    have z10 := f10.size
    have r10 : RdI (fun k => h9.size ≤ k) h10 w [0, 0, 1, 2, 0, 3] := o10.rdF
    refine k_among (hL9.of_no f10).tail.tail.tail.tail.head hb (D9.no f10) (by omega) r10 (by omega) (by simp) _ fun v i11 sd11 h11 hv V11 D11 f11 => ⟨d, i11, sd11, v, rfl, vcur (hL9.of_no f10) 4 rfl f11 V11, ?_⟩
    have z11 := f11.size
    have hL11 : Vars h11 [(b5, [x.v, y.v]), (b4, [t.v]), (b3, [nilSl.v, nilSl.v]), (b2, [nilSl.v]), (b, [d.v, VI i11, .int .u64 sd11])] := vcur (hL9.of_no f10) 4 rfl f11 V11
    refine eop_put (lo := h8.size) (ob (Ow.no o9 f10) f11) (by omega) hL11 (fun q hq => hoff _ _ _ _ _ q hq) (by omega) _ fun w2 h13 o13 f13 V13 h14 f14 hL14 => ?_
    rw [w64_eq (p + 1) (by omega) (by omega)]
    have z13 := f13.size
    have z14 := f14.size
    refine ⟨m - 1, by omega, by omega, by omega, rfl, rfl, ?_, ⟨cs ++ [v], Ow.fr o13 f14 fun k hk hk3 => by have := (o13.foot hk).1; simp [In] at hk3; omega, by simp; omega⟩, ?_, ?_, ?_, by omega⟩
    · exact ((D11.fr f13 fun k hk hk2 => by omega).fr f14 fun k hk hk2 => by simp [In] at hk2; omega).up (by omega)
    · have q11 := qb (Ow.no q9 f10) f11
      refine Ow.fr (Ow.fr q11 f13 fun k hk hk3 => by have := (q11.foot hk).1.2; omega) f14 fun k hk hk3 => by have := (q11.foot hk).1.2; simp [In] at hk3; omega
    · exact ((gb (G9.no f10) f11).fr f13 fun k hk hk2 => by have := hk.2; omega).fr f14 fun k hk hk2 => by simp [In] at hk2; have := hk.2; omega
    · exact (((f9.trans f10.of_no).trans (inb f11)).trans (f13.mono fun k _ hk => .inr (by omega))).trans (f14.mono fun k _ hk => .inr (by simp [In] at hk; omega))
  · simp only [decide_eq_false_iff_not] at e
    have ecs : cs.length = xss.length := by omega
    generalize hS : (fun k => h2.size ≤ k ∧ k ≠ b4 ∧ k ≠ b5) = S
    have S1 : ∀ k, S k → h2.size ≤ k ∧ k ≠ b4 ∧ k ≠ b5 := fun k hk => by rw [← hS] at hk; exact hk
    have S2 : ∀ k, h2.size ≤ k → k ≠ b4 → k ≠ b5 → S k := fun k h1 h2 h3 => by rw [← hS]; exact ⟨h1, h2, h3⟩
    have oS : ∀ {X : Heap} {w : Sl} {zs : List Int}, OwI X (fun k => h8.size ≤ k) w zs → RdI S X w zs := fun O => (show RdI (fun k => h8.size ≤ k) _ _ _ from Ow.rdF O).mono fun k hk => S2 k (by omega) (by omega) (by omega)
    have qS : ∀ {X : Heap}, OwI X (Iv h5.size h6.size) x rs → RdI S X x rs := fun O => (show RdI (Iv h5.size h6.size) _ _ _ from Ow.rdF O).mono fun k hk => by have := hk.1; have := hk.2; exact S2 k (by omega) (by omega) (by omega)
    have gS : ∀ {X : Heap}, RdR (Iv h2.size h3.size) X t xss → RdR S X t xss := fun G => G.mono fun k hk => by have := hk.1; have := hk.2; exact S2 k (by omega) (by omega) (by omega)
    refine ⟨fun s' x' y' d' i' sd' h' => d' = d ∧ (∃ rs', RdI S h' x' rs') ∧ (∃ cs', RdI S h' y' cs') ∧ RdR S h' t xss ∧ CurD a (n + 400) h' d i' ∧ Fr (fun k => k = b ∨ h.size ≤ k) h h' ∧ h8.size ≤ h'.size, ?_, ?_⟩
    · refine k_pick hL9.tail.tail.tail.tail.head hb D9 (by omega) 18 _ fun w i15 sd15 h15 w0 w1 V15 D15 f15 => ⟨d, i15, sd15, w, rfl, vcur hL9 4 rfl f15 V15, fun _ => ?_, fun _ => ?_⟩
      · have z15 := f15.size
        have hL15 : Vars h15 [(b5, [x.v, y.v]), (b4, [t.v]), (b3, [nilSl.v, nilSl.v]), (b2, [nilSl.v]), (b, [d.v, VI i15, .int .u64 sd15])] := vcur hL9 4 rfl f15 V15
        have o15 := ob o9 f15
        have yn := o15.rd.len
        simp only [List.length_map, Nat.mul_one] at yn
        have last : ∀ (w v i' sd' : Int) (X : Heap), 0 ≤ w → (1 ≤ (y.n : Int) → w < (y.n : Int)) → Vars X [(b5, [x.v, y.v]), (b4, [t.v]), (b3, [nilSl.v, nilSl.v]), (b2, [nilSl.v]), (b, [d.v, VI i', .int .u64 sd'])] → OwI X (fun k => h8.size ≤ k) y cs → OwI X (Iv h5.size h6.size) x rs → RdR (Iv h2.size h3.size) X t xss → CurD a (n + 400) X d i' → Fr (fun k => k = b ∨ h.size ≤ k) h X → h8.size ≤ X.size → InB y w ∧ Writable X (y.at w 1) ∧ Vars (hset X (y.at w 1) (VI v)) [(b5, [x.v, y.v]), (b4, [t.v]), (b3, [nilSl.v, nilSl.v]), (b2, [nilSl.v]), (b, [d.v, VI i', .int .u64 sd'])] ∧ ∀ h3, h3 = hset X (y.at w 1) (VI v) → Vars h3 [(b5, [x.v, y.v]), (b4, [t.v]), (b3, [nilSl.v, nilSl.v]), (b2, [nilSl.v]), (b, [d.v, VI i', .int .u64 sd'])] → (d = d ∧ (∃ rs', RdI S h3 x rs') ∧ (∃ cs', RdI S h3 y cs') ∧ RdR S h3 t xss ∧ CurD a (n + 400) h3 d i' ∧ Fr (fun k => k = b ∨ h.size ≤ k) h h3 ∧ h8.size ≤ h3.size) := fun w v i' sd' X w0 w1 hX O Q G DD ff zz => by
          have w1 := w1 (by omega)
          refine int_set O w0 (by omega) hX (fun q hq => by have := hoff _ _ _ _ _ q hq; omega) _ fun Y O' f' V' => ⟨rfl, ⟨rs, qS (Ow.fr Q f' fun k hk hk2 => by have := (Q.foot hk).1.2; omega)⟩, ⟨_, oS O'⟩, gS (G.fr f' fun k hk hk2 => by have := hk.2; omega), DD.fr f' fun k hk hk2 => by omega, ff.trans (f'.mono fun k _ hk => .inr (by omega)), by have := f'.size; omega⟩
        refine ⟨?_, ?_⟩
        · refine k_pick hL15.tail.tail.tail.tail.head hb D15 (by omega) _ _ fun w i16 sd16 h16 w0 w1 V16 D16 f16 => ⟨d, i16, sd16, w, rfl, vcur hL15 4 rfl f16 V16, ?_⟩
          have z16 := f16.size
          have hL16 := vcur hL15 4 rfl f16 V16
          refine eop_lit rIs (fun k => h16.size ≤ k) (fun _ h => h) 4 (by omega) [VI (-1), VI 21, VI 20, VI 4611686018427387904] rfl rfl fun w2 h17 n17 c17 o17 f17 m17 _ => ⟨w2, rfl, hL16.of_no f17, ?_⟩
          have z17 := f17.size
          have r17 : RdI (fun k => h16.size ≤ k) h17 w2 [-1, 21, 20, 4611686018427387904] := o17.rdF
          refine k_among (hL16.of_no f17).tail.tail.tail.tail.head hb (D16.no f17) (by omega) r17 (by omega) (by simp) _ fun v i18 sd18 h18 hv V18 D18 f18 => ⟨d, i18, sd18, v, rfl, vcur (hL16.of_no f17) 4 rfl f18 V18, ?_⟩
          exact last w v i18 sd18 h18 w0 w1 (vcur (hL16.of_no f17) 4 rfl f18 V18) (ob (Ow.no (ob o15 f16) f17) f18) (qb (Ow.no (qb (qb q9 f15) f16) f17) f18) (gb ((gb (gb G9 f15) f16).no f17) f18) (D18.up (by omega)) ((((f9.trans (inb f15)).trans (inb f16)).trans f17.of_no).trans (inb f18)) (by have := f18.size; omega)
        · refine eop_lit rIs (fun k => h15.size ≤ k) (fun _ h => h) 4 (by omega) [VI (-1), VI 21, VI 20, VI 4611686018427387904] rfl rfl fun w2 h17 n17 c17 o17 f17 m17 _ => ⟨w2, rfl, hL15.of_no f17, ?_⟩
          have z17 := f17.size
          have r17 : RdI (fun k => h15.size ≤ k) h17 w2 [-1, 21, 20, 4611686018427387904] := o17.rdF
          have hL17 := hL15.of_no f17
          refine k_pick hL17.tail.tail.tail.tail.head hb (D15.no f17) (by omega) _ _ fun w i16 sd16 h16 w0 w1 V16 D16 f16 => ⟨d, i16, sd16, w, rfl, vcur hL17 4 rfl f16 V16, ?_⟩
          have z16 := f16.size
          have hL16 := vcur hL17 4 rfl f16 V16
          refine k_among hL16.tail.tail.tail.tail.head hb D16 (by omega) (r17.fr f16 fun k hk hk2 => by simp [In] at hk2; omega) (by omega) (by simp) _ fun v i18 sd18 h18 hv V18 D18 f18 => ⟨d, i18, sd18, v, rfl, vcur hL16 4 rfl f18 V18, ?_⟩
          exact last w v i18 sd18 h18 w0 w1 (vcur hL16 4 rfl f18 V18) (ob (ob (Ow.no o15 f17) f16) f18) (qb (qb (Ow.no (qb q9 f15) f17) f16) f18) (gb (gb ((gb G9 f15).no f17) f16) f18) (D18.up (by omega)) ((((f9.trans (inb f15)).trans f17.of_no).trans (inb f16)).trans (inb f18)) (by have := f18.size; omega)
      · have z15 := f15.size
        have hL15 : Vars h15 [(b5, [x.v, y.v]), (b4, [t.v]), (b3, [nilSl.v, nilSl.v]), (b2, [nilSl.v]), (b, [d.v, VI i15, .int .u64 sd15])] := vcur hL9 4 rfl f15 V15
        refine ⟨fun _ => ?_, fun _ => ⟨fun _ => ?_, fun _ => ⟨rfl, ⟨rs, qS (qb q9 f15)⟩, ⟨cs, oS (ob o9 f15)⟩, gS (gb G9 f15), D15.up (by omega), f9.trans (inb f15), by omega⟩⟩⟩
        · have q15 := qb q9 f15
          refine eop_lit rIs (fun k => h15.size ≤ k) (fun _ h => h) 1 (by omega) [VI 0] rfl rfl fun w2 h17 n17 c17 o17 f17 m17 _ => ⟨w2, rfl, hL15.of_no f17, ?_⟩
          have z17 := f17.size
          have q17 : OwI h17 (fun k => Iv h5.size h6.size k ∨ h17.size ≤ k) x rs := (Ow.no q15 f17).mono fun k _ hk => .inl hk
          have qn := q17.rd.len
          have on := o17.rd.len
          simp only [List.length_map, Nat.mul_one, List.length_cons, List.length_nil] at qn on
          refine eop_append rIs q17 (fun k hk => .inr hk) o17.rd (plainVI [0]) (by omega) fun w3 h18 n18 o18 f18 d18 => ?_
          have g18 : Fr (Iv h5.size h6.size) h17 h18 := f18.mono fun k hk1 hk => by rcases (q17.foot hk).1 with e | e; exact e; omega
          have V18 := (hL15.of_no f17).fr g18 fun q hq hk => by
            have h1 := hk.1; have h2 := hk.2
            simp only [List.mem_cons, List.not_mem_nil, or_false] at hq
            rcases hq with rfl | rfl | rfl | rfl | rfl <;> simp only at h1 h2 <;> omega
          refine ⟨w3, rfl, V18, fun h26 f26 hL26 => ?_⟩
          have z18 := f18.size
          have o18' : OwI h18 (fun k => Iv h5.size h6.size k ∨ h17.size ≤ k) w3 (rs ++ [0]) := by rw [OwI, List.map_append]; exact o18
          have o26 : OwI h26 (fun k => Iv h5.size h6.size k ∨ h17.size ≤ k) w3 (rs ++ [0]) := Ow.fr o18' f26 fun k hk hk2 => by
            simp [In] at hk2
            rcases (o18'.foot hk).1 with e | e
            · have := e.2; omega
            · omega
          have ob26 : OwI h26 (fun k => h8.size ≤ k) y cs := by
            have O17 := Ow.no (ob o9 f15) f17
            have O18 : OwI h18 (fun k => h8.size ≤ k) y cs := Ow.fr O17 g18 fun k hk hk2 => by have := (O17.foot hk).1; have := hk2.2; omega
            exact Ow.fr O18 f26 fun k hk hk2 => by have := (O18.foot hk).1; simp [In] at hk2; omega
          refine ⟨rfl, ⟨_, (show RdI (fun k => Iv h5.size h6.size k ∨ h17.size ≤ k) h26 w3 (rs ++ [0]) from Ow.rdF o26).mono fun k hk => ?_⟩, ⟨cs, oS ob26⟩, gS ((((gb G9 f15).no f17).fr g18 fun k hk hk2 => by have := hk.2; have := hk2.1; omega).fr f26 fun k hk hk2 => by simp [In] at hk2; have := hk.2; omega), ?_, ?_, by have := f26.size; omega⟩
          · rcases hk with e | e
            · have := e.1; have := e.2; exact S2 k (by omega) (by omega) (by omega)
            · exact S2 k (by omega) (by omega) (by omega)
          · exact (((D15.no f17).fr g18 fun k hk hk2 => by have := hk2.1; omega).fr f26 fun k hk hk2 => by simp [In] at hk2; omega).up (by omega)
          · exact (((f9.trans (inb f15)).trans f17.of_no).trans (g18.mono fun k _ hk => .inr (by have := hk.1; omega))).trans (f26.mono fun k _ hk => .inr (by simp [In] at hk; omega))
        · refine eop_lit rIs (fun k => h15.size ≤ k) (fun _ h => h) 3 (by omega) [VI (-1), VI (t.n : Int), VI 0] rfl rfl fun w2 h17 n17 c17 o17 f17 m17 _ => ⟨w2, rfl, hL15.of_no f17, ?_⟩
          have z17 := f17.size
          have r17 : RdI (fun k => h15.size ≤ k) h17 w2 [-1, (t.n : Int), 0] := o17.rdF
          refine k_among (hL15.of_no f17).tail.tail.tail.tail.head hb (D15.no f17) (by omega) r17 (by omega) (by simp) _ fun v i18 sd18 h18 hv V18 D18 f18 => ⟨d, i18, sd18, v, rfl, vcur (hL15.of_no f17) 4 rfl f18 V18, rfl, ⟨rs, qS (qb (Ow.no (qb q9 f15) f17) f18)⟩, ⟨cs, oS (ob (Ow.no (ob o9 f15) f17) f18)⟩, gS (gb ((gb G9 f15).no f17) f18), D18.up (by omega), ((f9.trans (inb f15)).trans f17.of_no).trans (inb f18), by have := f18.size; omega⟩
    · rintro s' x' y' d' i29 sd29 h29 ⟨rfl, ⟨rs', r29⟩, ⟨cs', q29⟩, G29, D29, f29, z29⟩ hL29 h30 f30 hL30 h31 f31 hL31
      have f31' : Fr (fun k => k < h2.size ∧ k ≠ b) h29 h31 := (f30.mono fun k _ hk => by simp [In] at hk; omega).trans (f31.mono fun k _ hk => by simp [In] at hk; omega)
      have off : ∀ k, S k → ¬ (k < h2.size ∧ k ≠ b) := fun k hk hk2 => by have := S1 k hk; omega
      refine HK t x' y' xss rs' cs' s' i29 sd29 h31 ((G29.fr f31' off).mono fun k hk => by have := S1 k hk; omega) ((r29.fr f31' off).mono fun k hk => by have := S1 k hk; omega) ((q29.fr f31' off).mono fun k hk => by have := S1 k hk; omega) (by omega) hL31.tail.tail.tail.tail.head ?_ (fin _ ?_)
      · exact (D29.fr f30 fun k hk hk2 => by simp [In] at hk2; omega).fr f31 fun k hk hk2 => by simp [In] at hk2; omega
      · exact (f29.trans (f30.mono fun k _ hk => .inr (by simp [In] at hk; omega))).trans (f31.mono fun k _ hk => .inr (by simp [In] at hk; omega))

theorem cell_keep {S T : Nat → Prop} {h h' : Heap} {s : Sl} {xss : List (List Int)} {i : Int} (R : RdR S h s xss) (h0 : 0 ≤ i) (h1 : i < (xss.length : Int)) (f : Fr T h h') (hd : ∀ k, S k → ¬ T k) {v : Value} (c : hcell h (s.at i 1) = some v) : hcell h' (s.at i 1) = some v := by
  obtain ⟨ss, e, V, _⟩ := R.out
  obtain ⟨a, ha, hs, _⟩ := V.cell i.toNat (by simp; omega)
  refine hcell_fr c f ?_
  rw [at_one ha, add_block]
  exact hd _ hs
theorem slv_inj {a b : Sl} (h : some a.v = some b.v) : a = b := by
  cases a; cases b; simp [Sl.v] at h; simp [h]
theorem row_putF {L : List (Nat × List Value)} {F : Nat → Prop} {h : Heap} {s si : Sl} {xss : List (List Int)} {i : Int} (O : OwX h F s xss) (hF : ∀ k, h.size ≤ k → F k) (h0 : 0 ≤ i) (h1 : i < (xss.length : Int)) (c0 : hcell h (s.at i 1) = some si.v) (hL : Vars h L) (hoff : ∀ p, p ∈ L → ¬ F p.1) (hb : (xss[i.toNat]'(by omega)).length ≤ 1000000) (x : Int) (R : Heap → Prop) (HR : ∀ h', OwX h' F s (xss.set i.toNat (xss[i.toNat]'(by omega) ++ [x])) → Fr F h h' → Vars h' L → R h') : eop Try.prog (Instr.buildSlice tIs 1 #[(0, VI x)]) h fun rv h1 => ∃ t : Sl, rv = t.v ∧ Vars h1 L ∧ hcell h1 (s.at i 1) = some si.v ∧ eop Try.prog (appS tIs tIs tIs si.v t.v) h1 fun rv2 h2 => ∃ t2 : Sl, rv2 = t2.v ∧ Vars h2 L ∧ InB s i ∧ Writable h2 (s.at i 1) ∧ Vars (hset h2 (s.at i 1) t2.v) L ∧ ∀ h3, h3 = hset h2 (s.at i 1) t2.v → Vars h3 L → R h3 := by
  have Oi : OwX h (fun k => F k ∧ k < h.size) s xss := O.mono fun k hk hk2 => ⟨hk2, hk⟩
  obtain ⟨sj, c1, c2, _⟩ := Oi.inner h0 h1
  have : sj = si := slv_inj (c1.symm.trans c0)
  subst this
  refine eop_lit rIs (fun k => h.size ≤ k) (fun _ h => h) 1 (by omega) [VI x] rfl rfl fun t h9 n9 c9 o9 f9 m9 _ => ⟨t, rfl, hL.of_no f9, hcell_fr c1 f9 (fun h => h), ?_⟩
  have s9 := f9.size
  have O9 := OwR.no Oi f9
  have c2' : OwI h9 F sj (xss[i.toNat]'(by omega)) := (Ow.no c2 f9).mono fun k _ hk => hk.1
  have on := c2'.rd.len
  have tn := o9.rd.len
  simp only [List.length_map, Nat.mul_one, List.length_cons, List.length_nil] at on tn
  refine eop_append rIs c2' (fun k hk => hF k (by omega)) o9.rd (plainVI [x]) (by omega) fun w h10 n10 o10 f10 d10 => ?_
  have g10 : Fr F h9 h10 := f10.mono fun k _ hk => (c2'.foot hk).1
  have V10 : Vars h10 L := (hL.of_no f9).fr g10 hoff
  have o10' : OwI h10 F w (xss[i.toNat]'(by omega) ++ [x]) := by rw [OwI, List.map_append]; exact o10
  obtain ⟨i11, w11, o11, f11⟩ := O9.outer2 h0 h1 (hcell_fr c1 f9 fun h => h) f10 (F' := F) o10' (fun k _ hk => hk.1) fun k hk => (d10 k hk).imp id fun hk2 hk3 => by have := hk3.2; omega
  have g11 : Fr F h10 _ := (O9.ownF f11).mono fun k _ hk => hk.1
  have V11 := V10.fr g11 hoff
  exact ⟨w, rfl, V10, i11, w11, V11, fun h3 e3 V3 => HR h3 (by rw [e3]; exact o11) (by rw [e3]; exact (f9.of_no.trans g10).trans g11) V3⟩
theorem eop_putF {L : List (Nat × List Value)} {F : Nat → Prop} {m : Nat} {h : Heap} {s x : Sl} {xss : List (List Int)} {ys : List Int} (O : OwX h (fun k => F k ∧ k < m) s xss) (X : OwI h (fun k => m ≤ k) x ys) (hF : ∀ k, m ≤ k → F k) (hm : m ≤ h.size) (hL : Vars h L) (hoff : ∀ p, p ∈ L → ¬ F p.1) (hb : xss.length ≤ 1000000) (R : Sl → Heap → Prop) (HR : ∀ t h', OwX h' F t (xss ++ [ys]) → Fr F h h' → Vars h' L → R t h') : eop Try.prog (Instr.buildSlice tIss 1 #[(0, x.v)]) h fun rv h1 => ∃ t : Sl, rv = t.v ∧ Vars h1 L ∧ eop Try.prog (appS tIss tIss tIss s.v t.v) h1 fun rv2 h2 => ∃ t2 : Sl, rv2 = t2.v ∧ Vars h2 L ∧ R t2 h2 := by
  refine eop_lit rIss (fun k => h.size ≤ k) (fun _ h => h) 1 (by omega) [x.v] rfl rfl fun t h1 n1 c1 o1 f1 m1 _ => ⟨t, rfl, hL.of_no f1, ?_⟩
  have z1 := f1.size
  refine OwR.snoc rIss (OwR.no O f1) (F' := F) (fun k _ hk => hk.1) (fun k hk => hF k (by omega)) ((Ow.no X f1).mono fun k _ hk => hF k hk) (fun k hk hk2 => by have := (X.foot hk).1; have := hk2.2; omega) o1.rd (by omega) fun y h2 o2 f2 => ?_
  have g2 : Fr F h1 h2 := f2.mono fun k _ hk => hk.1
  have V2 : Vars h2 L := (hL.of_no f1).fr g2 hoff
  exact ⟨y, rfl, V2, HR y h2 o2 (f1.of_no.trans g2) V2⟩

theorem k_drplace {a n b : Nat} {h : Heap} {c : Sl} {i sd : Int} (V : IsVar h b [c.v, VI i, .int .u64 sd]) (hb : a ≤ b) (D : CurD a n h c i) (hn : n ≤ 10000000) (g : Sl) (K : Value → Heap → Prop) (HK : ∀ (p i' sd' : Int) h', IsVar h' b [c.v, VI i', .int .u64 sd'] → CurD a (n + 4) h' c i' → Fr (In [b]) h h' → K (VI p) h') : callM Try.prog 106 #[VP b 0, .agg #[g.v]] h K := by
  have lb := V.lt
  have ub : ∀ {x y z : Heap}, Fr No x y → Fr (In [b]) y z → Fr (In [b]) x z := fun f g => f.of_no.trans g
  refine v106 b c i sd g h K (.cons V (by simp) .nil) ⟨fun _ b2 h1 hb2 f1 hL1 => ?_, fun e b2 h1 hb2 f1 hL1 => ?_⟩
  · have f1 := f1.in_nil
    have z1 := f1.size
    refine eop_lit rIs (fun k => h1.size ≤ k) (fun _ h => h) 4 (by omega) [VI (-1), VI 0, VI (g.n : Int), VI 4611686018427387904] rfl rfl fun w h6 n6 c6 o6 f6 m6 _ => ⟨w, rfl, hL1.of_no f6, ?_⟩
    have r6 : RdI (fun k => h1.size ≤ k) h6 w [-1, 0, (g.n : Int), 4611686018427387904] := o6.rdF
    exact k_among (hL1.of_no f6).tail.head hb ((D.no f1).no f6) (by omega) r6 (by omega) (by simp) _ fun v i7 sd7 h7 hv V7 D7 f7 => ⟨c, i7, sd7, v, rfl, vcur (hL1.of_no f6) 1 rfl f7 V7, HK v i7 sd7 h7 V7 (D7.up (by omega)) (ub (f1.no_trans f6) f7)⟩
  · have f1 := f1.in_nil
    have z1 := f1.size
    refine k_one hL1.tail.head hb (D.no f1) (by omega) 14 _ fun q i2 sd2 h2 V2 D2 f2 => ⟨c, i2, sd2, q, rfl, vcur hL1 1 rfl f2 V2, fun _ => ?_, fun _ => ?_⟩
    · have z2 := f2.size
      have hL2 := vcur hL1 1 rfl f2 V2
      refine eop_lit rIs (fun k => h2.size ≤ k) (fun _ h => h) 4 (by omega) [VI (-1), VI 0, VI (g.n : Int), VI 4611686018427387904] rfl rfl fun w h6 n6 c6 o6 f6 m6 _ => ⟨w, rfl, hL2.of_no f6, ?_⟩
      have r6 : RdI (fun k => h2.size ≤ k) h6 w [-1, 0, (g.n : Int), 4611686018427387904] := o6.rdF
      exact k_among (hL2.of_no f6).tail.head hb (D2.no f6) (by omega) r6 (by omega) (by simp) _ fun v i7 sd7 h7 hv V7 D7 f7 => ⟨c, i7, sd7, v, rfl, vcur (hL2.of_no f6) 1 rfl f7 V7, HK v i7 sd7 h7 V7 (D7.up (by omega)) ((ub f1 f2).trans (ub f6 f7))⟩
    · have hL2 := vcur hL1 1 rfl f2 V2
      exact k_pick hL2.tail.head hb D2 (by omega) _ _ fun v i5 sd5 h5 v0 v1 V5 D5 f5 => ⟨c, i5, sd5, v, rfl, vcur hL2 1 rfl f5 V5, HK v i5 sd5 h5 V5 (D5.up (by omega)) ((ub f1 f2).trans f5)⟩

theorem wf_ok {n : Int} (h0 : -9223372036854775808 ≤ n) (h1 : n < 9223372036854775808) : (Lit.int .i64 n).wf = true := by
  have a0 : IntKind.i64.min = -9223372036854775808 := rfl
  have a1 : IntKind.i64.max = 9223372036854775807 := rfl
  simp only [Lit.wf, Bool.and_eq_true, decide_eq_true_eq, a0, a1]
  omega

theorem k_IsLoad {S S1 S2 : Nat → Prop} {h : Heap} {g r c : Sl} {xss : List (List Int)} {l : Lo} (G : RdR S h g xss) (H1 : RdI S1 h r l.1) (H2 : RdI S2 h c l.2) (sink : Int) (K : Value → Heap → Prop) (HK : ∀ h', Fr No h h' → K (.tuple #[VB (sinkB xss sink && loadB xss sink l), VB (sinkB xss sink)]) h') : callM Try.prog 46 #[.agg #[g.v], VI sink, .agg #[r.v, c.v]] h K := by
  refine v46 g sink r c h K fun b1 b2 h2 hb1 hb2 f2 hL2 => ?_
  have f2 := f2.in_nil
  refine k_hasSink (G.no f2) sink _ fun h3 f3 => ⟨_, rfl, hL2.of_no f3, fun e => ?_, fun e => ?_⟩
  · have := HK h3 (f2.no_trans f3)
    rw [not_t e] at this
    exact this
  · have e := not_f e
    have f03 := f2.no_trans f3
    refine k_isLoad (G.no f03) (H1.no f03) (H2.no f03) sink _ fun h4 f4 => ⟨_, rfl, (hL2.of_no f3).of_no f4, ?_⟩
    have := HK h4 (f03.no_trans f4)
    rw [e, Bool.true_and] at this
    exact this

theorem k_spec_IsLoad {S S1 S2 : Nat → Prop} {h : Heap} {g r c : Sl} {xss : List (List Int)} {l : Lo} (G : RdR S h g xss) (H1 : RdI S1 h r l.1) (H2 : RdI S2 h c l.2) (sink : Int) (K : Value → Heap → Prop) (HK : ∀ h', Fr No h h' → K (.tuple #[VB (sinkB xss sink && loadB xss sink l), VB (sinkB xss sink)]) h') : callM Try.prog 54 #[.agg #[g.v], VI sink, .agg #[r.v, c.v]] h K := by
  refine v54 g sink r c h K fun b1 b2 h2 hb1 hb2 f2 hL2 => ?_
  have f2 := f2.in_nil
  refine k_chSink (G.no f2) sink _ fun h3 f3 => ⟨_, rfl, hL2.of_no f3, fun e => ?_, fun e => ?_⟩
  · have := HK h3 (f2.no_trans f3)
    rw [not_t e] at this
    exact this
  · have e := not_f e
    have f03 := f2.no_trans f3
    refine k_chGood (G.no f03) (H1.no f03) (H2.no f03) sink _ fun h4 f4 => ⟨_, rfl, (hL2.of_no f3).of_no f4, ?_⟩
    have := HK h4 (f03.no_trans f4)
    rw [e, Bool.true_and] at this
    exact this

theorem k_DrawIsLoad {S : Nat → Prop} {h : Heap} {code : Sl} {vs : List Value} (C : RdV S h 1 code vs) (B : ∀ v, v ∈ vs → ∃ m : Int, v = Value.int .u8 m ∧ 0 ≤ m ∧ m ≤ 255) (K : Value → Heap → Prop) (HK : ∀ (t u v : Sl) (gs : List (List Int)) (rs cs : List Int) (p : Int) h', RdR (fun k => h.size ≤ k) h' t gs → RdI (fun k => h.size ≤ k) h' u rs → RdI (fun k => h.size ≤ k) h' v cs → Fr No h h' → K (.tuple #[.agg #[t.v], VI p, .agg #[u.v, v.v]]) h') : callM Try.prog 53 #[code.v] h K := by
  refine v53 code h K fun b1 b2 b3 h3 hb1 hb2 hb3 f3 hL3 => ?_
  have f3 := f3.in_nil
  have z3 := f3.size
  have l3 : b3 < h3.size := hL3.head.lt
  have l2 : b2 < h3.size := hL3.tail.head.lt
  have l1 : b1 < h3.size := hL3.tail.tail.head.lt
  have D3 : CurD h.size 0 h3 code 0 := ⟨⟨vs, ((RdV.lt C).mono fun k hk => hk.2).no f3, B⟩, by omega, by omega⟩
  refine k_drload hL3.head hb3 D3 (by omega) _ fun t u v gs rs cs p i4 sd4 h4 G4 R4 Q4 gl V4 D4 f4 => ⟨code, i4, sd4, t, p, u, v, rfl, vcur hL3 0 rfl f4 V4, fun h6 f6 hL6 => ?_⟩
  have off : ∀ k, h3.size ≤ k → ¬ In [b2, b1] k := fun k hk hk2 => by simp [In] at hk2; omega
  refine HK t u v gs rs cs p h6 ((G4.fr f6 off).mono fun k hk => by omega) ((R4.fr f6 off).mono fun k hk => by omega) ((Q4.fr f6 off).mono fun k hk => by omega) ?_
  exact ((f3.of_no.trans (f4.mono fun k _ hk => by simp [In] at hk ⊢; omega : Fr (In [b3, b2, b1]) h3 h4)).trans (f6.mono fun k _ hk => by simp [In] at hk ⊢; omega)).mono fun k hk hk2 => by simp [In] at hk2; omega

theorem k_DrawMoveChip {S : Nat → Prop} {h : Heap} {code : Sl} {vs : List Value} (C : RdV S h 1 code vs) (B : ∀ v, v ∈ vs → ∃ m : Int, v = Value.int .u8 m ∧ 0 ≤ m ∧ m ≤ 255) (K : Value → Heap → Prop) (HK : ∀ (t u v : Sl) (gs : List (List Int)) (rs cs : List Int) (p q : Int) h', RdR (fun k => h.size ≤ k) h' t gs → RdI (fun k => h.size ≤ k) h' u rs → RdI (fun k => h.size ≤ k) h' v cs → Fr No h h' → K (.tuple #[.agg #[t.v], VI p, .agg #[u.v, v.v], VI q]) h') : callM Try.prog 50 #[code.v] h K := by
  refine v50 code h K fun b1 b2 b3 h3 hb1 hb2 hb3 f3 hL3 => ?_
  have f3 := f3.in_nil
  have z3 := f3.size
  have l3 : b3 < h3.size := hL3.head.lt
  have l2 : b2 < h3.size := hL3.tail.head.lt
  have l1 : b1 < h3.size := hL3.tail.tail.head.lt
  have D3 : CurD h.size 0 h3 code 0 := ⟨⟨vs, ((RdV.lt C).mono fun k hk => hk.2).no f3, B⟩, by omega, by omega⟩
  refine k_drload hL3.head hb3 D3 (by omega) _ fun t u v gs rs cs p i4 sd4 h4 G4 R4 Q4 gl V4 D4 f4 => ⟨code, i4, sd4, t, p, u, v, rfl, vcur hL3 0 rfl f4 V4, fun b4 b5 h8 hb4 hb5 f8 hL8 => ?_⟩
  have f8 := f8.in_nil
  have z4 := f4.size
  have z8 := f8.size
  have l5 : b5 < h8.size := hL8.head.lt
  have l4 : b4 < h8.size := hL8.tail.head.lt
  have G8 : RdR (Iv h3.size h4.size) h8 t gs := (G4.lowS.mono fun k hk => hk).no f8
  have R8 : RdI (Iv h3.size h4.size) h8 u rs := ((RdV.lt R4).mono fun k hk => hk).no f8
  have Q8 : RdI (Iv h3.size h4.size) h8 v cs := ((RdV.lt Q4).mono fun k hk => hk).no f8
  generalize hFF : (fun X : Heap => RdR (Iv h3.size h4.size) X t gs ∧ RdI (Iv h3.size h4.size) X u rs ∧ RdI (Iv h3.size h4.size) X v cs ∧ Fr (fun k => h.size ≤ k) h X ∧ h8.size ≤ X.size) = FF
  have ffi : ∀ X, FF X ↔ (RdR (Iv h3.size h4.size) X t gs ∧ RdI (Iv h3.size h4.size) X u rs ∧ RdI (Iv h3.size h4.size) X v cs ∧ Fr (fun k => h.size ≤ k) h X ∧ h8.size ≤ X.size) := fun X => by rw [← hFF]
  have ffz : ∀ {X : Heap}, FF X → h8.size ≤ X.size := fun H => ((ffi _).1 H).2.2.2.2
  have ff : ∀ {X Y : Heap}, FF X → Fr (fun k => k = b3 ∨ h8.size ≤ k) X Y → FF Y := fun {X Y} H f => by
    obtain ⟨a1, a2, a3, a4, a5⟩ := (ffi X).1 H
    have off : ∀ k, Iv h3.size h4.size k → ¬ (k = b3 ∨ h8.size ≤ k) := fun k hk hk2 => by
      have := hk.1; have := hk.2; rcases hk2 with e | e <;> omega
    exact (ffi Y).2 ⟨a1.fr f off, a2.fr f off, a3.fr f off, a4.trans (f.mono fun k _ hk => by rcases hk with e | e <;> omega), by have := f.size; omega⟩
  have c3 : ∀ {X Y : Heap}, Fr (In [b3]) X Y → Fr (fun k => k = b3 ∨ h8.size ≤ k) X Y := fun f => f.mono fun k _ hk => .inl (by simpa [In] using hk)
  have ob : ∀ {X Y : Heap} {w : Sl} {zs : List Int}, OwI X (fun k => h8.size ≤ k) w zs → Fr (In [b3]) X Y → OwI Y (fun k => h8.size ≤ k) w zs := fun O f => Ow.fr O f fun k hk hk2 => by simp [In] at hk2; have := (O.foot hk).1; omega
  have hoff : ∀ (A B C E F : List Value) (q : Nat × List Value), q ∈ [(b5, A), (b4, B), (b3, C), (b2, E), (b1, F)] → q.1 < h8.size := fun A B C E F q hq => by
    simp only [List.mem_cons, List.not_mem_nil, or_false] at hq
    rcases hq with rfl | rfl | rfl | rfl | rfl <;> simp only <;> omega
  have F8 : FF h8 := (ffi h8).2 ⟨G8, R8, Q8, (f3.of_no.trans (f4.mono fun k _ hk => by simp [In] at hk; omega)).trans f8.of_no, Nat.le_refl _⟩
  have D8 := D4.no f8
  have out : ∀ {X Y Z : Heap}, FF X → Fr (In [b1]) X Y → Fr (In [b2]) Y Z → RdR (fun k => h.size ≤ k) Z t gs ∧ RdI (fun k => h.size ≤ k) Z u rs ∧ RdI (fun k => h.size ≤ k) Z v cs ∧ Fr No h Z ∧ Fr (fun k => k = b1 ∨ k = b2) X Z := fun {X Y Z} H f f' => by
    obtain ⟨a1, a2, a3, a4, a5⟩ := (ffi X).1 H
    have g32 : Fr (fun k => k = b1 ∨ k = b2) X Z := (f.mono fun k _ hk => .inl (by simpa [In] using hk)).trans (f'.mono fun k _ hk => .inr (by simpa [In] using hk))
    have off : ∀ k, Iv h3.size h4.size k → ¬ (k = b1 ∨ k = b2) := fun k hk hk2 => by have := hk.1; rcases hk2 with e | e <;> omega
    exact ⟨(a1.fr g32 off).mono fun k hk => by have := hk.1; omega, (a2.fr g32 off).mono fun k hk => by have := hk.1; omega, (a3.fr g32 off).mono fun k hk => by have := hk.1; omega, (a4.trans (g32.mono fun k _ hk => by rcases hk with e | e <;> omega)).mono fun k hk hk2 => absurd hk2 (by omega), g32⟩
  refine k_drplace hL8.tail.tail.head hb3 D8 (by omega) t _ fun q i9 sd9 h9 V9 D9 f9 => ⟨code, i9, sd9, q, rfl, vcur hL8 2 rfl f9 V9, fun h10 f10 hL10 h11 f11 hL11 => ?_⟩
  obtain ⟨a1, a2, a3, a4, _⟩ := out (ff F8 (c3 f9)) f10 f11
  exact HK t u v gs rs cs p q h11 a1 a2 a3 a4

theorem k_DrawEndOfLoad {S : Nat → Prop} {h : Heap} {code : Sl} {vs : List Value} (C : RdV S h 1 code vs) (B : ∀ v, v ∈ vs → ∃ m : Int, v = Value.int .u8 m ∧ 0 ≤ m ∧ m ≤ 255) (K : Value → Heap → Prop) (HK : ∀ (t u v w : Sl) (gs : List (List Int)) (rs cs ns : List Int) (p : Int) h', RdR (fun k => h.size ≤ k) h' t gs → RdI (fun k => h.size ≤ k) h' u rs → RdI (fun k => h.size ≤ k) h' v cs → RdI (fun k => h.size ≤ k) h' w ns → (∀ n, n ∈ ns → (Lit.int .i64 n).wf = true) → Fr No h h' → K (.tuple #[.agg #[t.v], VI p, .agg #[u.v, v.v], w.v]) h') : callM Try.prog 42 #[code.v] h K := by
  refine v42 code h K fun b1 b2 b3 h3 hb1 hb2 hb3 f3 hL3 => ?_
  have f3 := f3.in_nil
  have z3 := f3.size
  have l3 : b3 < h3.size := hL3.head.lt
  have l2 : b2 < h3.size := hL3.tail.head.lt
  have l1 : b1 < h3.size := hL3.tail.tail.head.lt
  have D3 : CurD h.size 0 h3 code 0 := ⟨⟨vs, ((RdV.lt C).mono fun k hk => hk.2).no f3, B⟩, by omega, by omega⟩
  refine k_drload hL3.head hb3 D3 (by omega) _ fun t u v gs rs cs p i4 sd4 h4 G4 R4 Q4 gl V4 D4 f4 => ⟨code, i4, sd4, t, p, u, v, rfl, vcur hL3 0 rfl f4 V4, fun b4 b5 h8 hb4 hb5 f8 hL8 => ?_⟩
  have f8 := f8.in_nil
  have z4 := f4.size
  have z8 := f8.size
  have l5 : b5 < h8.size := hL8.head.lt
  have l4 : b4 < h8.size := hL8.tail.head.lt
  have G8 : RdR (Iv h3.size h4.size) h8 t gs := (G4.lowS.mono fun k hk => hk).no f8
  have R8 : RdI (Iv h3.size h4.size) h8 u rs := ((RdV.lt R4).mono fun k hk => hk).no f8
  have Q8 : RdI (Iv h3.size h4.size) h8 v cs := ((RdV.lt Q4).mono fun k hk => hk).no f8
  generalize hFF : (fun X : Heap => RdR (Iv h3.size h4.size) X t gs ∧ RdI (Iv h3.size h4.size) X u rs ∧ RdI (Iv h3.size h4.size) X v cs ∧ Fr (fun k => h.size ≤ k) h X ∧ h8.size ≤ X.size) = FF
  have ffi : ∀ X, FF X ↔ (RdR (Iv h3.size h4.size) X t gs ∧ RdI (Iv h3.size h4.size) X u rs ∧ RdI (Iv h3.size h4.size) X v cs ∧ Fr (fun k => h.size ≤ k) h X ∧ h8.size ≤ X.size) := fun X => by rw [← hFF]
  have ffz : ∀ {X : Heap}, FF X → h8.size ≤ X.size := fun H => ((ffi _).1 H).2.2.2.2
  have ff : ∀ {X Y : Heap}, FF X → Fr (fun k => k = b3 ∨ h8.size ≤ k) X Y → FF Y := fun {X Y} H f => by
    obtain ⟨a1, a2, a3, a4, a5⟩ := (ffi X).1 H
    have off : ∀ k, Iv h3.size h4.size k → ¬ (k = b3 ∨ h8.size ≤ k) := fun k hk hk2 => by
      have := hk.1; have := hk.2; rcases hk2 with e | e <;> omega
    exact (ffi Y).2 ⟨a1.fr f off, a2.fr f off, a3.fr f off, a4.trans (f.mono fun k _ hk => by rcases hk with e | e <;> omega), by have := f.size; omega⟩
  have c3 : ∀ {X Y : Heap}, Fr (In [b3]) X Y → Fr (fun k => k = b3 ∨ h8.size ≤ k) X Y := fun f => f.mono fun k _ hk => .inl (by simpa [In] using hk)
  have ob : ∀ {X Y : Heap} {w : Sl} {zs : List Int}, OwI X (fun k => h8.size ≤ k) w zs → Fr (In [b3]) X Y → OwI Y (fun k => h8.size ≤ k) w zs := fun O f => Ow.fr O f fun k hk hk2 => by simp [In] at hk2; have := (O.foot hk).1; omega
  have hoff : ∀ (A B C E F : List Value) (q : Nat × List Value), q ∈ [(b5, A), (b4, B), (b3, C), (b2, E), (b1, F)] → q.1 < h8.size := fun A B C E F q hq => by
    simp only [List.mem_cons, List.not_mem_nil, or_false] at hq
    rcases hq with rfl | rfl | rfl | rfl | rfl <;> simp only <;> omega
  have F8 : FF h8 := (ffi h8).2 ⟨G8, R8, Q8, (f3.of_no.trans (f4.mono fun k _ hk => by simp [In] at hk; omega)).trans f8.of_no, Nat.le_refl _⟩
  have D8 := D4.no f8
  have out : ∀ {X Y Z : Heap}, FF X → Fr (In [b1]) X Y → Fr (In [b2]) Y Z → RdR (fun k => h.size ≤ k) Z t gs ∧ RdI (fun k => h.size ≤ k) Z u rs ∧ RdI (fun k => h.size ≤ k) Z v cs ∧ Fr No h Z ∧ Fr (fun k => k = b1 ∨ k = b2) X Z := fun {X Y Z} H f f' => by
    obtain ⟨a1, a2, a3, a4, a5⟩ := (ffi X).1 H
    have g32 : Fr (fun k => k = b1 ∨ k = b2) X Z := (f.mono fun k _ hk => .inl (by simpa [In] using hk)).trans (f'.mono fun k _ hk => .inr (by simpa [In] using hk))
    have off : ∀ k, Iv h3.size h4.size k → ¬ (k = b1 ∨ k = b2) := fun k hk hk2 => by have := hk.1; rcases hk2 with e | e <;> omega
    exact ⟨(a1.fr g32 off).mono fun k hk => by have := hk.1; omega, (a2.fr g32 off).mono fun k hk => by have := hk.1; omega, (a3.fr g32 off).mono fun k hk => by have := hk.1; omega, (a4.trans (g32.mono fun k _ hk => by rcases hk with e | e <;> omega)).mono fun k hk hk2 => absurd hk2 (by omega), g32⟩
  refine eop_lit rIs (fun k => h8.size ≤ k) (fun _ h => h) 6 (by omega) [VI 0, VI 3, VI 10, VI 40, VI 100, VI 101] rfl rfl fun w h9 n9 c9 o9 f9 m9 _ => ⟨w, rfl, hL8.of_no f9, ?_⟩
  have r9 : RdI (fun k => h8.size ≤ k) h9 w [0, 3, 10, 40, 100, 101] := o9.rdF
  have z9 := f9.size
  refine k_among (hL8.of_no f9).tail.tail.head hb3 (D8.no f9) (by omega) r9 (by omega) (by simp) _ fun k0 i10 sd10 h10 hk V10 D10 f10 => ⟨code, i10, sd10, k0, rfl, vcur (hL8.of_no f9) 2 rfl f10 V10, ?_⟩
  have hk0 : 0 ≤ k0 ∧ k0 ≤ 101 := by simp at hk; omega
  refine ⟨fun m ch k d i' sd' h' => m = k.toNat ∧ 0 ≤ k ∧ k ≤ 101 ∧ d = code ∧ CurD h.size (500 + 2 * (101 - k).toNat) h' code i' ∧ (∃ ns, OwI h' (fun k => h8.size ≤ k) ch ns ∧ (ns.length : Int) + k ≤ 101 ∧ ∀ x, x ∈ ns → -1 ≤ x ∧ x ≤ 4611686018427387904) ∧ FF h', ⟨k0.toNat, rfl, hk0.1, hk0.2, rfl, D10.up (by omega), ⟨[], Ow.nil _ _ _ _, by simp; omega, by simp⟩, ff (ff F8 f9.of_no) (c3 f10)⟩, ?_⟩
  rintro m ch k d i11 sd11 h11 ⟨rfl, k1, k2, rfl, D11, ⟨ns, o11, e11, r11⟩, F11⟩ hL11
  have z11 := ffz F11
  have cn := o11.rd.len
  simp only [List.length_map, Nat.mul_one] at cn
  refine ⟨fun e => ?_, fun e => ?_⟩
  · simp only [decide_eq_true_eq] at e
    refine k_pick hL11.tail.tail.head hb3 D11 (by omega) 9 _ fun y i12 sd12 h12 y0 y1 V12 D12 f12 => ⟨d, i12, sd12, y, rfl, vcur hL11 2 rfl f12 V12, ?_⟩
    have y1 := y1 (by omega)
    have z12 := f12.size
    have hL12 := vcur hL11 2 rfl f12 V12
    refine eop_put (lo := h8.size) (ob o11 f12) (by omega) hL12 (fun q hq => hoff _ _ _ _ _ q hq) (by omega) _ fun w2 h14 o14 f14 V14 => ?_
    rw [w64_eq (k - 1) (by omega) (by omega)]
    refine ⟨(k - 1).toNat, by omega, rfl, by omega, by omega, rfl, (D12.fr f14 fun k hk hk2 => by omega).up (by omega), ⟨ns ++ [y], o14, by simp; omega, fun x hx => ?_⟩, ff (ff F11 (c3 f12)) (f14.mono fun k _ hk => .inr hk)⟩
    rcases List.mem_append.1 hx with a | a
    · exact r11 x a
    · simp only [List.mem_cons, List.not_mem_nil, or_false] at a; omega
  · simp only [decide_eq_false_iff_not] at e
    refine ⟨fun d' i' sd' h' => d' = d ∧ CurD h.size 2000 h' d i' ∧ (∃ ns, OwI h' (fun k => h8.size ≤ k) ch ns ∧ ∀ x, x ∈ ns → -1 ≤ x ∧ x ≤ 4611686018427387904) ∧ FF h', ⟨fun e2 => ?_, fun _ => ⟨rfl, D11.up (by omega), ⟨ns, o11, r11⟩, F11⟩⟩, ?_⟩
    · simp only [decide_eq_true_eq] at e2
      refine k_one hL11.tail.tail.head hb3 D11 (by omega) 14 _ fun y i15 sd15 h15 V15 D15 f15 => ⟨d, i15, sd15, y, rfl, vcur hL11 2 rfl f15 V15, fun _ => ?_, fun _ => ⟨rfl, D15.up (by omega), ⟨ns, ob o11 f15, r11⟩, ff F11 (c3 f15)⟩⟩
      have z15 := f15.size
      have hL15 := vcur hL11 2 rfl f15 V15
      refine eop_lit rIs (fun k => h15.size ≤ k) (fun _ h => h) 2 (by omega) [VI (-1), VI 4611686018427387904] rfl rfl fun w2 h16 n16 c16 o16 f16 m16 _ => ⟨w2, rfl, hL15.of_no f16, ?_⟩
      have r16 : RdI (fun k => h15.size ≤ k) h16 w2 [-1, 4611686018427387904] := o16.rdF
      refine k_among (hL15.of_no f16).tail.tail.head hb3 (D15.no f16) (by omega) r16 (by omega) (by simp) _ fun y2 i17 sd17 h17 hy V17 D17 f17 => ⟨d, i17, sd17, y2, rfl, vcur (hL15.of_no f16) 2 rfl f17 V17, ?_⟩
      have hy2 : -1 ≤ y2 ∧ y2 ≤ 4611686018427387904 := by simp at hy; omega
      refine int_set (ob (Ow.no (ob o11 f15) f16) f17) (Int.le_refl 0) (by omega) (vcur (hL15.of_no f16) 2 rfl f17 V17) (fun q hq => by have := hoff _ _ _ _ _ q hq; omega) _ fun h18 o18 f18 V18 => ⟨rfl, (D17.fr f18 fun k hk hk2 => by omega).up (by omega), ⟨_, o18, fun x hx => ?_⟩, ff (ff (ff (ff F11 (c3 f15)) f16.of_no) (c3 f17)) (f18.mono fun k _ hk => .inr hk)⟩
      rcases List.mem_or_eq_of_mem_set hx with a | a
      · exact r11 x a
      · rw [a]; exact hy2
    rintro d' i19 sd19 h19 ⟨rfl, D19, ⟨ms, o19, r19⟩, F19⟩ hL19 h20 f20 hL20 h21 f21 hL21
    obtain ⟨a1, a2, a3, a4, a5⟩ := out F19 f20 f21
    have R19 : RdI (fun k => h8.size ≤ k) h19 ch ms := Ow.rdF o19
    exact HK t u v ch gs rs cs ms p h21 a1 a2 a3 ((R19.fr a5 fun k hk hk2 => by rcases hk2 with e | e <;> omega).mono fun k hk => by omega) (fun n hn => by have := r19 n hn; exact wf_ok (by omega) (by omega)) a4

theorem eop_putI {L : List (Nat × List Value)} {F : Nat → Prop} {h : Heap} {o : Sl} {xs : List Int} {x : Int} (O : OwI h F o xs) (hF : ∀ k, h.size ≤ k → F k) (hL : Vars h L) (hoff : ∀ p, p ∈ L → ¬ F p.1) (hb : xs.length ≤ 1000000) (R : Sl → Heap → Prop) (HR : ∀ t h', OwI h' F t (xs ++ [x]) → Fr F h h' → Vars h' L → R t h') : eop Try.prog (Instr.buildSlice tIs 1 #[(0, VI x)]) h fun rv h1 => ∃ t : Sl, rv = t.v ∧ Vars h1 L ∧ eop Try.prog (appS tIs tIs tIs o.v t.v) h1 fun rv2 h2 => ∃ t2 : Sl, rv2 = t2.v ∧ Vars h2 L ∧ R t2 h2 := by
  refine eop_lit rIs (fun k => h.size ≤ k) (fun _ h => h) 1 (by omega) [VI x] rfl rfl fun t h1 n1 c1 o1 f1 m1 _ => ⟨t, rfl, hL.of_no f1, ?_⟩
  have z1 := f1.size
  have O1 : OwI h1 F o xs := Ow.no O f1
  have on := O1.rd.len
  have tn := o1.rd.len
  simp only [List.length_map, Nat.mul_one, List.length_cons, List.length_nil] at on tn
  refine eop_append rIs O1 (fun k hk => hF k (by omega)) o1.rd (plainVI [x]) (by omega) fun s' h2 n2 o2 f2 d2 => ?_
  have g2 : Fr F h1 h2 := f2.mono fun k _ hk => (O1.foot hk).1
  have V2 : Vars h2 L := (hL.of_no f1).fr g2 hoff
  exact ⟨s', rfl, V2, HR s' h2 (by rw [OwI, List.map_append]; exact o2) (f1.of_no.trans g2) V2⟩

theorem k_DrawMoveInOrder {S : Nat → Prop} {h : Heap} {code : Sl} {vs : List Value} (C : RdV S h 1 code vs) (B : ∀ v, v ∈ vs → ∃ m : Int, v = Value.int .u8 m ∧ 0 ≤ m ∧ m ≤ 255) (K : Value → Heap → Prop) (HK : ∀ (t u v w : Sl) (gs : List (List Int)) (rs cs ns : List Int) (p : Int) h', RdR (fun k => h.size ≤ k) h' t gs → RdI (fun k => h.size ≤ k) h' u rs → RdI (fun k => h.size ≤ k) h' v cs → RdI (fun k => h.size ≤ k) h' w ns → Fr No h h' → K (.tuple #[.agg #[t.v], VI p, .agg #[u.v, v.v], w.v]) h') : callM Try.prog 47 #[code.v] h K := by
  refine v47 code h K fun b1 b2 b3 h3 hb1 hb2 hb3 f3 hL3 => ?_
  have f3 := f3.in_nil
  have z3 := f3.size
  have l3 : b3 < h3.size := hL3.head.lt
  have l2 : b2 < h3.size := hL3.tail.head.lt
  have l1 : b1 < h3.size := hL3.tail.tail.head.lt
  have D3 : CurD h.size 0 h3 code 0 := ⟨⟨vs, ((RdV.lt C).mono fun k hk => hk.2).no f3, B⟩, by omega, by omega⟩
  refine k_drload hL3.head hb3 D3 (by omega) _ fun t u v gs rs cs p i4 sd4 h4 G4 R4 Q4 gl V4 D4 f4 => ⟨code, i4, sd4, t, p, u, v, rfl, vcur hL3 0 rfl f4 V4, fun b4 b5 h8 hb4 hb5 f8 hL8 => ?_⟩
  have f8 := f8.in_nil
  have z4 := f4.size
  have z8 := f8.size
  have l5 : b5 < h8.size := hL8.head.lt
  have l4 : b4 < h8.size := hL8.tail.head.lt
  have G8 : RdR (Iv h3.size h4.size) h8 t gs := (G4.lowS.mono fun k hk => hk).no f8
  have R8 : RdI (Iv h3.size h4.size) h8 u rs := ((RdV.lt R4).mono fun k hk => hk).no f8
  have Q8 : RdI (Iv h3.size h4.size) h8 v cs := ((RdV.lt Q4).mono fun k hk => hk).no f8
  generalize hFF : (fun X : Heap => RdR (Iv h3.size h4.size) X t gs ∧ RdI (Iv h3.size h4.size) X u rs ∧ RdI (Iv h3.size h4.size) X v cs ∧ Fr (fun k => h.size ≤ k) h X ∧ h8.size ≤ X.size) = FF
  have ffi : ∀ X, FF X ↔ (RdR (Iv h3.size h4.size) X t gs ∧ RdI (Iv h3.size h4.size) X u rs ∧ RdI (Iv h3.size h4.size) X v cs ∧ Fr (fun k => h.size ≤ k) h X ∧ h8.size ≤ X.size) := fun X => by rw [← hFF]
  have ffz : ∀ {X : Heap}, FF X → h8.size ≤ X.size := fun H => ((ffi _).1 H).2.2.2.2
  have ff : ∀ {X Y : Heap}, FF X → Fr (fun k => k = b3 ∨ h8.size ≤ k) X Y → FF Y := fun {X Y} H f => by
    obtain ⟨a1, a2, a3, a4, a5⟩ := (ffi X).1 H
    have off : ∀ k, Iv h3.size h4.size k → ¬ (k = b3 ∨ h8.size ≤ k) := fun k hk hk2 => by
      have := hk.1; have := hk.2; rcases hk2 with e | e <;> omega
    exact (ffi Y).2 ⟨a1.fr f off, a2.fr f off, a3.fr f off, a4.trans (f.mono fun k _ hk => by rcases hk with e | e <;> omega), by have := f.size; omega⟩
  have c3 : ∀ {X Y : Heap}, Fr (In [b3]) X Y → Fr (fun k => k = b3 ∨ h8.size ≤ k) X Y := fun f => f.mono fun k _ hk => .inl (by simpa [In] using hk)
  have ob : ∀ {X Y : Heap} {w : Sl} {zs : List Int}, OwI X (fun k => h8.size ≤ k) w zs → Fr (In [b3]) X Y → OwI Y (fun k => h8.size ≤ k) w zs := fun O f => Ow.fr O f fun k hk hk2 => by simp [In] at hk2; have := (O.foot hk).1; omega
  have hoff : ∀ (A B C E F : List Value) (q : Nat × List Value), q ∈ [(b5, A), (b4, B), (b3, C), (b2, E), (b1, F)] → q.1 < h8.size := fun A B C E F q hq => by
    simp only [List.mem_cons, List.not_mem_nil, or_false] at hq
    rcases hq with rfl | rfl | rfl | rfl | rfl <;> simp only <;> omega
  have F8 : FF h8 := (ffi h8).2 ⟨G8, R8, Q8, (f3.of_no.trans (f4.mono fun k _ hk => by simp [In] at hk; omega)).trans f8.of_no, Nat.le_refl _⟩
  have D8 := D4.no f8
  have out : ∀ {X Y Z : Heap}, FF X → Fr (In [b1]) X Y → Fr (In [b2]) Y Z → RdR (fun k => h.size ≤ k) Z t gs ∧ RdI (fun k => h.size ≤ k) Z u rs ∧ RdI (fun k => h.size ≤ k) Z v cs ∧ Fr No h Z ∧ Fr (fun k => k = b1 ∨ k = b2) X Z := fun {X Y Z} H f f' => by
    obtain ⟨a1, a2, a3, a4, a5⟩ := (ffi X).1 H
    have g32 : Fr (fun k => k = b1 ∨ k = b2) X Z := (f.mono fun k _ hk => .inl (by simpa [In] using hk)).trans (f'.mono fun k _ hk => .inr (by simpa [In] using hk))
    have off : ∀ k, Iv h3.size h4.size k → ¬ (k = b1 ∨ k = b2) := fun k hk hk2 => by have := hk.1; rcases hk2 with e | e <;> omega
    exact ⟨(a1.fr g32 off).mono fun k hk => by have := hk.1; omega, (a2.fr g32 off).mono fun k hk => by have := hk.1; omega, (a3.fr g32 off).mono fun k hk => by have := hk.1; omega, (a4.trans (g32.mono fun k _ hk => by rcases hk with e | e <;> omega)).mono fun k hk hk2 => absurd hk2 (by omega), g32⟩
  refine k_pick hL8.tail.tail.head hb3 D8 (by omega) 6 _ fun k0 i9 sd9 h9 k00 k01 V9 D9 f9 => ⟨code, i9, sd9, k0, rfl, vcur hL8 2 rfl f9 V9, ?_⟩
  have k01 := k01 (by omega)
  refine ⟨fun m ch k d i' sd' h' => m = k.toNat ∧ 0 ≤ k ∧ k ≤ 6 ∧ d = code ∧ CurD h.size (500 + 20 * (6 - k).toNat) h' code i' ∧ (∃ ns, OwI h' (fun k => h8.size ≤ k) ch ns ∧ (ns.length : Int) + k ≤ 6) ∧ FF h', ⟨k0.toNat, rfl, k00, by omega, rfl, D9.up (by omega), ⟨[], Ow.nil _ _ _ _, by simp; omega⟩, ff F8 (c3 f9)⟩, ?_⟩
  rintro m ch k d i10 sd10 h10 ⟨rfl, k1, k2, rfl, D10, ⟨ns, o10, e10⟩, F10⟩ hL10
  have z10 := ffz F10
  refine ⟨fun e => ?_, fun e => ?_⟩
  · simp only [decide_eq_true_eq] at e
    refine ⟨fun ch' d' i' sd' h' => d' = d ∧ CurD h.size (500 + 20 * (6 - k).toNat + 10) h' d i' ∧ (∃ ns', OwI h' (fun k => h8.size ≤ k) ch' ns' ∧ ns'.length = ns.length + 1) ∧ FF h', ?_, ?_⟩
    · obtain ⟨a1, a2, a3, a4, a5⟩ := (ffi h10).1 F10
      have R10 : RdI (fun k => h8.size ≤ k) h10 ch ns := Ow.rdF o10
      refine k_spec_MoveInOrder a1 a2 a3 R10 p _ fun x y m1 h11 o11 q11 y1 y2 f11 => ⟨x, y, _, rfl, hL10.of_no f11, ?_⟩
      have z11 := f11.size
      have F11 := ff F10 f11.of_no
      have C11 : RdI (Iv m1 h11.size) h11 y _ := Ow.rdI q11
      have ylen := (mioP_len gs p (rs, cs) ns).2
      -- the end of each case: one more place
      have last : ∀ (b6 : Nat) (A : List Value) (z : Int) (i' sd' : Int) (X : Heap), h11.size ≤ b6 → b6 < X.size → Vars X [(b6, A), (b5, [u.v, v.v]), (b4, [t.v]), (b3, [d.v, VI i', .int .u64 sd']), (b2, [nilSl.v, nilSl.v]), (b1, [nilSl.v])] → OwI X (fun k => h8.size ≤ k ∧ k ≠ b6) ch ns → CurD h.size (500 + 20 * (6 - k).toNat + 10) X d i' → FF X → eop Try.prog (Instr.buildSlice tIs 1 #[(0, VI z)]) X fun rv h1 => ∃ t' : Sl, rv = t'.v ∧ Vars h1 [(b6, A), (b5, [u.v, v.v]), (b4, [t.v]), (b3, [d.v, VI i', .int .u64 sd']), (b2, [nilSl.v, nilSl.v]), (b1, [nilSl.v])] ∧ eop Try.prog (appS tIs tIs tIs ch.v t'.v) h1 fun rv2 h2 => ∃ t2 : Sl, rv2 = t2.v ∧ Vars h2 [(b6, A), (b5, [u.v, v.v]), (b4, [t.v]), (b3, [d.v, VI i', .int .u64 sd']), (b2, [nilSl.v, nilSl.v]), (b1, [nilSl.v])] ∧ (d = d ∧ CurD h.size (500 + 20 * (6 - k).toNat + 10) h2 d i' ∧ (∃ ns', OwI h2 (fun k => h8.size ≤ k) t2 ns' ∧ ns'.length = ns.length + 1) ∧ FF h2) := fun b6 A z i' sd' X hb6 lb6 VX OX DX FX => by
        refine eop_putI OX (fun k hk => ⟨by have := ffz FX; omega, by omega⟩) VX (fun q hq hk => by
          rcases List.mem_cons.1 hq with rfl | hq
          · exact hk.2 rfl
          · have := hoff _ _ _ _ _ q hq
            have := hk.1
            omega) (by omega) (fun t2 h2 => (d = d ∧ CurD h.size (500 + 20 * (6 - k).toNat + 10) h2 d i' ∧ (∃ ns', OwI h2 (fun k => h8.size ≤ k) t2 ns' ∧ ns'.length = ns.length + 1) ∧ FF h2)) fun t2 Y OY fY VY => ⟨rfl, DX.fr fY fun k hk hk2 => by have := hk2.1; omega, ⟨_, OY.mono fun k _ hk => hk.1, by simp⟩, ff FX (fY.mono fun k _ hk => .inr hk.1)⟩
      have own6 : ∀ {X : Heap} {b6 : Nat}, h11.size ≤ b6 → Fr (fun k => k = b3 ∨ h11.size ≤ k) h11 X → OwI X (fun k => h8.size ≤ k ∧ k ≠ b6) ch ns := fun {X b6} hb f => by
        have O11 := Ow.no o10 f11
        have O11' : OwI h11 (fun k => h8.size ≤ k ∧ k ≠ b6) ch ns := O11.mono fun k hk hk2 => ⟨hk2, by have := (O11.foot hk).2; omega⟩
        exact Ow.fr O11' f fun k hk hk2 => by
          have h1 := O11.foot hk
          have := h1.1
          have := h1.2
          rcases hk2 with e | e <;> omega
      have d3 : ∀ {X Y : Heap}, Fr (In [b3]) X Y → Fr (fun k => k = b3 ∨ h11.size ≤ k) X Y := fun f => f.mono fun k _ hk => .inl (by simpa [In] using hk)
      refine ⟨fun _ b6 h13 hb6 f13 hL13 => ?_, fun _ b6 h13 hb6 f13 hL13 => ?_⟩
      · have f13 := f13.in_nil
        have z13 := f13.size
        have l6 : b6 < h13.size := hL13.head.lt
        refine k_chLoaded (C11.no f13) (by omega) p _ fun w4 h14 o14 f14 => ⟨w4, rfl, hL13.of_no f14, fun e43 => ?_, fun _ => ?_⟩
        · have hL14 := hL13.of_no f14
          have z14 := f14.size
          refine k_one hL14.tail.tail.tail.head hb3 (((D10.no f11).no f13).no f14) (by omega) 6 _ fun yy i15 sd15 h15 V15 D15 f15 => ⟨d, i15, sd15, yy, rfl, vcur hL14 3 rfl f15 V15, fun _ => ?_, fun _ => ?_⟩
          · have hL15 := vcur hL14 3 rfl f15 V15
            have z15 := f15.size
            have C15 : RdI (Iv m1 h11.size) h15 y _ := (((C11.no f13).no f14).fr f15 fun k hk hk2 => by simp [In] at hk2; have := hk.1; omega)
            simp only [decide_eq_true_eq] at e43
            have w4n := (show RdI (Iv h13.size h14.size) h14 w4 _ from Ow.rdI o14).len
            refine k_chLoaded C15 (by omega) p _ fun w5 h16 o16 f16 => ⟨w5, rfl, (show Vars h15 [(b6, [x.v, y.v]), (b5, [u.v, v.v]), (b4, [t.v]), (b3, [d.v, VI i15, .int .u64 sd15]), (b2, [nilSl.v, nilSl.v]), (b1, [nilSl.v])] from hL15).of_no f16, ?_⟩
            have z16 := f16.size
            have W16 : RdI (Iv h15.size h16.size) h16 w5 _ := Ow.rdI o16
            have w5n := W16.len
            have hL16 := (show Vars h15 [(b6, [x.v, y.v]), (b5, [u.v, v.v]), (b4, [t.v]), (b3, [d.v, VI i15, .int .u64 sd15]), (b2, [nilSl.v, nilSl.v]), (b1, [nilSl.v])] from hL15).of_no f16
            refine k_pick hL16.tail.tail.tail.head hb3 (D15.no f16) (by omega) _ _ fun q i17 sd17 h17 q0 q1 V17 D17 f17 => ⟨d, i17, sd17, q, rfl, vcur hL16 3 rfl f17 V17, ?_⟩
            have q1 := q1 (by omega)
            have z17 := f17.size
            have W17 : RdI (Iv h15.size h16.size) h17 w5 _ := W16.fr f17 fun k hk hk2 => by simp [In] at hk2; have := hk.1; omega
            refine ⟨W17.inb q0 (by omega), _, W17.get q0 (by omega), ?_⟩
            exact last b6 _ _ i17 sd17 h17 hb6 (by omega) (vcur hL16 3 rfl f17 V17) (own6 hb6 ((((f13.of_no.trans f14.of_no).trans (d3 f15)).trans f16.of_no).trans (d3 f17))) (D17.up (by omega)) (ff (ff (ff (ff (ff F11 f13.of_no) f14.of_no) (c3 f15)) f16.of_no) (c3 f17))
          · have hL15 := vcur hL14 3 rfl f15 V15
            refine k_drplace hL15.tail.tail.tail.head hb3 D15 (by omega) t _ fun q i20 sd20 h20 V20 D20 f20 => ⟨d, i20, sd20, q, rfl, vcur hL15 3 rfl f20 V20, ?_⟩
            exact last b6 _ q i20 sd20 h20 hb6 (by have := f15.size; have := f20.size; omega) (vcur hL15 3 rfl f20 V20) (own6 hb6 (((f13.of_no.trans f14.of_no).trans (d3 f15)).trans (d3 f20))) (D20.up (by omega)) (ff (ff (ff (ff F11 f13.of_no) f14.of_no) (c3 f15)) (c3 f20))
        · have hL14 := hL13.of_no f14
          refine k_drplace hL14.tail.tail.tail.head hb3 (((D10.no f11).no f13).no f14) (by omega) t _ fun q i20 sd20 h20 V20 D20 f20 => ⟨d, i20, sd20, q, rfl, vcur hL14 3 rfl f20 V20, ?_⟩
          exact last b6 _ q i20 sd20 h20 hb6 (by have := f14.size; have := f20.size; omega) (vcur hL14 3 rfl f20 V20) (own6 hb6 ((f13.of_no.trans f14.of_no).trans (d3 f20))) (D20.up (by omega)) (ff (ff (ff F11 f13.of_no) f14.of_no) (c3 f20))
      · have f13 := f13.in_nil
        have l6 : b6 < h13.size := hL13.head.lt
        refine k_drplace hL13.tail.tail.tail.head hb3 ((D10.no f11).no f13) (by omega) t _ fun q i20 sd20 h20 V20 D20 f20 => ⟨d, i20, sd20, q, rfl, vcur hL13 3 rfl f20 V20, ?_⟩
        exact last b6 _ q i20 sd20 h20 hb6 (by have := f20.size; omega) (vcur hL13 3 rfl f20 V20) (own6 hb6 (f13.of_no.trans (d3 f20))) (D20.up (by omega)) (ff (ff F11 f13.of_no) (c3 f20))
    rintro ch' d' i29 sd29 h29 ⟨rfl, D29, ⟨ns', o29, e29⟩, F29⟩ hL29
    rw [w64_eq (k - 1) (by omega) (by omega)]
    exact ⟨(k - 1).toNat, by omega, rfl, by omega, by omega, rfl, D29.up (by omega), ⟨ns', o29, by omega⟩, F29⟩
  · intro h30 f30 hL30 h31 f31 hL31
    obtain ⟨a1, a2, a3, a4, a5⟩ := out F10 f30 f31
    have R10 : RdI (fun k => h8.size ≤ k) h10 ch ns := Ow.rdF o10
    exact HK t u v ch gs rs cs ns p h31 a1 a2 a3 ((R10.fr a5 fun k hk hk2 => by rcases hk2 with e | e <;> omega).mono fun k hk => by omega) a4

theorem w64_add (a b : Int) : w64 (w64 a + b) = w64 (a + b) := by
  simp only [w64, IntKind.wrap, IntKind.bits, IntKind.signed]
  simp
  try omega

theorem k_big (s t : Sl) (h : Heap) (K : Value → Heap → Prop) (HK : ∀ b, K (VB b) h) : callM Try.prog 32 #[s.v, t.v] h K :=
  v32 s t h K ⟨fun _ => HK true, fun _ => HK _⟩

theorem k_xSum {S : Nat → Prop} {h : Heap} {s : Sl} {xs : List Int} (H : RdI S h s xs) (K : Value → Heap → Prop) (HK : K (VI (w64 xs.sum)) h) : callM Try.prog 41 #[s.v] h K := by
  refine v41 s h K ⟨fun n t i h' => h' = h ∧ 0 ≤ i ∧ i + n = (xs.length : Int) ∧ t = w64 (xs.take i.toNat).sum, ⟨xs.length, rfl, by omega, by omega, by simp [w64_eq]⟩, ?_⟩
  rintro n t i _ ⟨rfl, i0, i1, e1⟩ hL
  refine ⟨fun e => ?_, fun e => ?_⟩
  · have hi := H.lt e
    refine ⟨H.inb i0 hi, _, H.get i0 hi, ?_⟩
    rw [H.succ i0 hi]
    refine ⟨n - 1, by omega, rfl, by omega, by omega, ?_⟩
    rw [take_snoc xs i0 hi, List.sum_append, e1, w64_add]
    simp
  · have hi := H.ge e
    rw [List.take_of_length_le (by omega)] at e1
    rw [e1]
    exact HK

theorem k_xSame {S S' : Nat → Prop} {h : Heap} {a b : Sl} {xs ys : List Int} (H : RdI S h a xs) (H' : RdI S' h b ys) (K : Value → Heap → Prop) (HK : K (VB (decide (xs = ys))) h) : callM Try.prog 45 #[a.v, b.v] h K := by
  refine v45 a b h K ⟨fun e => ?_, fun e => ?_⟩
  · have e1 := not_t e
    rw [H.len, H'.len] at e1
    have : ¬ xs = ys := fun e2 => by subst e2; simp at e1
    rw [decide_eq_false this] at HK
    exact HK
  · have e1 := not_f e
    rw [H.len, H'.len] at e1
    have hl : xs.length = ys.length := by simp at e1; omega
    refine ⟨fun n i h' => h' = h ∧ 0 ≤ i ∧ i + n = (xs.length : Int) ∧ decide (xs = ys) = decide (xs.drop i.toNat = ys.drop i.toNat), ⟨xs.length, rfl, by omega, by omega, by simp⟩, ?_⟩
    rintro n i hh ⟨rfl, h0, h1, h2⟩ hL
    refine ⟨fun e => ?_, fun e => ?_⟩
    · have hi := H.lt e
      have hi' : i < (ys.length : Int) := by omega
      refine ⟨H.inb h0 hi, _, H.get h0 hi, H'.inb h0 hi', _, H'.get h0 hi', fun e => ?_, fun e => ?_⟩
      · rw [drop_cons xs h0 hi, drop_cons ys h0 hi'] at h2
        have e3 := not_t e
        simp only [decide_eq_false_iff_not] at e3
        rw [h2, decide_eq_false (fun e4 => e3 (List.cons.inj e4).1)] at HK
        exact HK
      · rw [drop_cons xs h0 hi, drop_cons ys h0 hi'] at h2
        have e3 := not_f e
        simp only [decide_eq_true_eq] at e3
        rw [H.succ h0 hi]
        refine ⟨n - 1, by omega, rfl, by omega, by omega, h2.trans ?_⟩
        rw [e3]
        simp
    · have hi := H.ge e
      rw [List.drop_of_length_le (by omega), List.drop_of_length_le (by omega)] at h2
      rw [h2] at HK
      exact HK

theorem k_xLoad {S S' T T' : Nat → Prop} {h : Heap} {a b c d : Sl} {xs ys us ws : List Int} (H : RdI S h a xs) (G : RdI S' h b ys) (H' : RdI T h c us) (G' : RdI T' h d ws) : Ret Try.prog 40 #[.agg #[a.v, b.v], .agg #[c.v, d.v]] h (VB (decide (xs = us ∧ ys = ws))) := by
  intro K HK
  refine v40 a b c d h K fun b1 b2 h2 hb1 hb2 f2 hL2 => ?_
  have f2 := f2.in_nil
  refine k_xSame (H.no f2) (H'.no f2) _ ⟨_, rfl, hL2, fun e => ?_, fun e => ?_⟩
  · simp only [decide_eq_true_eq] at e
    refine k_xSame (G.no f2) (G'.no f2) _ ⟨_, rfl, hL2, ?_⟩
    have : decide (xs = us ∧ ys = ws) = decide (ys = ws) := by simp [e]
    rw [this] at HK
    exact HK h2 f2
  · simp only [decide_eq_false_iff_not] at e
    rw [decide_eq_false fun e2 => e e2.1] at HK
    exact HK h2 f2

set_option maxHeartbeats 8000000 in
set_option maxRecDepth 100000 in
theorem k_lawChipsInAnyOrder {h : Heap} {S0 S1 : Nat → Prop} {s0 s1 : Sl} {x0 x1 : List Value} (G0 : RdV S0 h 1 s0 x0) (B0 : ∀ v, v ∈ x0 → ∃ m : Int, v = Value.int .u8 m ∧ 0 ≤ m ∧ m ≤ 255) (G1 : RdV S1 h 1 s1 x1) (B1 : ∀ v, v ∈ x1 → ∃ m : Int, v = Value.int .u8 m ∧ 0 ≤ m ∧ m ≤ 255) : Ret Try.prog 7 #[s0.v, s1.v] h (VB true) := by
  intro K HK
  refine v7 s0 s1 h K ?_
  refine k_big s0 s1 h _ fun b0 => ⟨b0, rfl, .nil, fun _ => HK h (Fr.refl _ _), fun _ => ?_⟩
  refine k_DrawEndOfLoad G0 B0 _ fun t u v w gs rs cs ns p h2 G2 R2 Q2 N2 B2 f2 => ⟨t, p, u, v, w, rfl, .nil, fun b1 b2 h6 hb1 hb2 f6 hL6 => ?_⟩
  have f6 := f6.in_nil
  refine k_EndOfLoad (G2.no f6) (R2.no f6) (Q2.no f6) (N2.no f6) B2 p _ fun x y m1 h7 o7 q7 _ _ f7 => ⟨x, y, _, rfl, hL6.of_no f7, fun b3 h9 hb3 f9 hL9 => ?_⟩
  have f9 := f9.in_nil
  have f29 := (f6.no_trans f7).no_trans f9
  refine k_spec_EndOfLoad (G2.no f29) (R2.no f29) (Q2.no f29) (N2.no f29) B2 p _ fun x' y' m2 h10 o10 q10 _ _ f10 => ⟨x', y', _, rfl, hL9.of_no f10, fun b4 h12 hb4 f12 hL12 => ?_⟩
  have f12 := f12.in_nil
  have f212 := (f29.no_trans f10).no_trans f12
  refine k_MovesOfLoad (G2.no f212) (R2.no f212) (Q2.no f212) p _ fun a h13 o13 f13 => ⟨a, _, rfl, hL12.of_no f13, ?_⟩
  have f213 := f212.no_trans f13
  refine k_spec_MovesOfLoad (G2.no f213) (R2.no f213) (Q2.no f213) p _ fun a' h14 o14 f14 => ⟨a', _, rfl, (hL12.of_no f13).of_no f14, fun e => by simp at e, fun _ => ?_⟩
  have hL14 := (hL12.of_no f13).of_no f14
  have f1014 := f12.no_trans (f13.no_trans f14)
  have f714 := f9.no_trans (f10.no_trans f1014)
  refine k_xLoad (RdI.no (Ow.rdI o7) f714) (RdI.no (Ow.rdI q7) f714) (RdI.no (Ow.rdI o10) f1014) (RdI.no (Ow.rdI q10) f1014) _ fun h15 f15 => ⟨_, rfl, hL14.of_no f15, fun e => by simp at e, fun _ => ⟨fun e => by simp at e, fun _ => ?_⟩⟩
  refine k_xSame ((Ow.rdI o13).no (f14.no_trans f15)) ((Ow.rdI o14).no f15) _ ⟨_, rfl, hL14.of_no f15, fun e => by simp at e, fun _ => ⟨fun e1 => ?_, fun _ => ?_⟩⟩
  rotate_left
  · have F15 := f2.no_trans (f213.no_trans (f14.no_trans f15))
    refine ⟨fun h' => Fr No h15 h', Fr.refl _ _, fun h28 f28 hL28 => ?_⟩
    have F28 := F15.no_trans f28
    refine k_DrawMoveInOrder (G1.no F28) B1 _ fun t u v w gs rs cs ns p h29 G29 R29 Q29 N29 f29 => ⟨t, p, u, v, w, rfl, hL28.of_no f29, fun b7 b8 h33 hb7 hb8 f33 hL33 => ?_⟩
    have f33 := f33.in_nil
    refine k_MoveInOrder (G29.no f33) (R29.no f33) (Q29.no f33) (N29.no f33) p _ fun x y m1 h34 o34 q34 _ _ f34 => ⟨x, y, _, rfl, hL33.of_no f34, fun b9 h36 hb9 f36 hL36 => ?_⟩
    have f36 := f36.in_nil
    have g36 := (f33.no_trans f34).no_trans f36
    refine k_spec_MoveInOrder (G29.no g36) (R29.no g36) (Q29.no g36) (N29.no g36) p _ fun x' y' m2 h37 o37 q37 _ _ f37 => ⟨x', y', _, rfl, hL36.of_no f37, fun b10 h39 hb10 f39 hL39 => ?_⟩
    have f39 := f39.in_nil
    have g39 := (g36.no_trans f37).no_trans f39
    have F39 := (F28.no_trans f29).no_trans g39
    refine k_DrawMoveChip (G1.no F39) B1 _ fun t2 u2 v2 gs2 rs2 cs2 p2 q2 h40 G40 R40 Q40 f40 => ⟨t2, p2, u2, v2, q2, rfl, hL39.of_no f40, fun b11 b12 h44 hb11 hb12 f44 hL44 => ?_⟩
    have f44 := f44.in_nil
    refine k_MoveChip (G40.no f44) (R40.no f44) (Q40.no f44) p2 q2 _ fun x2 y2 m3 h45 o45 q45 _ _ f45 => ⟨x2, y2, _, rfl, hL44.of_no f45, fun b13 h47 hb13 f47 hL47 => ?_⟩
    have f47 := f47.in_nil
    have g47 := (f44.no_trans f45).no_trans f47
    refine k_spec_MoveChip (G40.no g47) (R40.no g47) (Q40.no g47) p2 q2 _ fun x3 y3 m4 h48 o48 q48 _ _ f48 => ⟨x3, y3, _, rfl, hL47.of_no f48, fun b14 h50 hb14 f50 hL50 => ?_⟩
    have f50 := f50.in_nil
    have F50 := ((F39.no_trans f40).no_trans g47).no_trans (f48.no_trans f50)
    refine k_DrawIsLoad (G1.no F50) B1 _ fun t4 u4 v4 gs4 rs4 cs4 p4 h51 G51 R51 Q51 f51 => ⟨t4, p4, u4, v4, rfl, hL50.of_no f51, fun b15 b16 h55 hb15 hb16 f55 hL55 => ?_⟩
    have f55 := f55.in_nil
    refine k_IsLoad (l := (rs4, cs4)) (G51.no f55) (R51.no f55) (Q51.no f55) p4 _ fun h56 f56 => ⟨_, _, rfl, hL55.of_no f56, ?_⟩
    have f5556 := f55.no_trans f56
    refine k_spec_IsLoad (l := (rs4, cs4)) (G51.no f5556) (R51.no f5556) (Q51.no f5556) p4 _ fun h57 f57 => ⟨_, _, rfl, (hL55.of_no f56).of_no f57, fun e => by simp at e, fun _ => ?_⟩
    have hL57 := (hL55.of_no f56).of_no f57
    have g3957 := (f40.no_trans g47).no_trans ((f48.no_trans f50).no_trans (f51.no_trans (f5556.no_trans f57)))
    have g3657 := (f37.no_trans f39).no_trans g3957
    have g3457 := f36.no_trans g3657
    have F57 := F39.no_trans g3957
    have X57 := (Ow.rdI o34).no g3457
    have Y57 := (Ow.rdI q34).no g3457
    refine k_xLoad X57 Y57 (RdI.no (Ow.rdI o37) (f39.no_trans g3957)) (RdI.no (Ow.rdI q37) (f39.no_trans g3957)) _ fun h58 f58 => ⟨_, rfl, hL57.of_no f58, fun e => by simp at e, fun _ => ⟨fun e => by simp at e, fun _ => ?_⟩⟩
    have g4858 := (f50.no_trans (f51.no_trans (f5556.no_trans f57))).no_trans f58
    have g4558 := (f47.no_trans f48).no_trans g4858
    refine k_xLoad (RdI.no (Ow.rdI o45) g4558) (RdI.no (Ow.rdI q45) g4558) (RdI.no (Ow.rdI o48) g4858) (RdI.no (Ow.rdI q48) g4858) _ fun h59 f59 => ⟨_, rfl, (hL57.of_no f58).of_no f59, fun e => by simp at e, fun _ => ⟨fun e => by simp at e, fun _ => ⟨fun e => by simp at e, fun _ => ⟨fun e3 => ?_, fun _ => HK h59 ((F57.no_trans f58).no_trans f59)⟩⟩⟩⟩
    have hL59 := (hL57.of_no f58).of_no f59
    have F59 := (F57.no_trans f58).no_trans f59
    have f5759 := f58.no_trans f59
    have g59 := (g39.no_trans g3957).no_trans f5759
    have X59 := X57.no f5759
    have Y59 := Y57.no f5759
    obtain ⟨w1, w2⟩ := later_law e3
    refine k_EndOfLoad (G29.no g59) (R29.no g59) (Q29.no g59) (rdI_nil h59) (by simp) p _ fun z z' m5 h60 o60 q60 _ _ f60 => ⟨z, z', _, rfl, hL59.of_no f60, fun b17 h62 hb17 f62 hL62 => ?_⟩
    have f62 := f62.in_nil
    have f5962 := f60.no_trans f62
    refine k_EndOfLoad ((G29.no g59).no f5962) (X59.no f5962) (Y59.no f5962) (rdI_nil h62) (by simp) p _ fun zz zz' m6 h63 o63 q63 _ _ f63 => ⟨zz, zz', _, rfl, hL62.of_no f63, fun b18 h65 hb18 f65 hL65 => ?_⟩
    have f65 := f65.in_nil
    have f5965 := (f5962.no_trans f63).no_trans f65
    refine k_MovesOfLoad ((G29.no g59).no f5965) ((R29.no g59).no f5965) ((Q29.no g59).no f5965) p _ fun a h66 o66 f66 => ⟨a, _, rfl, hL65.of_no f66, ?_⟩
    have f5966 := f5965.no_trans f66
    refine k_MovesOfLoad ((G29.no g59).no f5966) (X59.no f5966) (Y59.no f5966) p _ fun b h67 o67 f67 => ⟨b, _, rfl, (hL65.of_no f66).of_no f67, ?_⟩
    have hL67 := (hL65.of_no f66).of_no f67
    have F67 := F59.no_trans (f5966.no_trans f67)
    have A67 := (Ow.rdI o66).no f67
    have B67 := Ow.rdI o67
    have wn := N29.len
    have sums : ∀ (X : Heap), Fr No h67 X → (molP gs p (rs, cs)).2 = true → (molP gs p (mioP gs p (rs, cs) ns).1).2 = true → ((!decide (w64 (molP gs p (rs, cs)).1.sum = w64 (w64 (molP gs p (mioP gs p (rs, cs) ns).1).1.sum + (w.n : Int)))) = true → K (VB false) X) ∧ ((!decide (w64 (molP gs p (rs, cs)).1.sum = w64 (w64 (molP gs p (mioP gs p (rs, cs) ns).1).1.sum + (w.n : Int)))) = false → K (VB true) X) := fun X fX a1 a2 => by
      refine ⟨fun e => ?_, fun _ => HK X (F67.no_trans fX)⟩
      exfalso
      have e := not_t e
      simp only [decide_eq_false_iff_not] at e
      exact e (by rw [w64_add, w2 a1 a2, wn])
    refine ⟨fun c1 => ⟨fun c2 => ?_, fun _ => ⟨fun d1 => ⟨fun d2 => ?_, fun _ => HK h67 F67⟩, fun _ => HK h67 F67⟩⟩, fun _ => ⟨fun d1 => ⟨fun d2 => ?_, fun _ => HK h67 F67⟩, fun _ => HK h67 F67⟩⟩
    · have f6067 := f62.no_trans (f63.no_trans (f65.no_trans (f66.no_trans f67)))
      have f6367 := f65.no_trans (f66.no_trans f67)
      refine k_xLoad (RdI.no (Ow.rdI o60) f6067) (RdI.no (Ow.rdI q60) f6067) (RdI.no (Ow.rdI o63) f6367) (RdI.no (Ow.rdI q63) f6367) _ fun h68 f68 => ⟨_, rfl, hL67.of_no f68, fun e => ?_, fun _ => ⟨fun d1 => ⟨fun d2 => ?_, fun _ => HK h68 (F67.no_trans f68)⟩, fun _ => HK h68 (F67.no_trans f68)⟩⟩
      · exfalso
        have e := not_t e
        simp only [decide_eq_false_iff_not] at e
        have := w1 c1 c2
        exact e ⟨congrArg Prod.fst this, congrArg Prod.snd this⟩
      · refine k_xSum (A67.no f68) _ ⟨_, rfl, hL67.of_no f68, k_xSum (B67.no f68) _ ⟨_, rfl, hL67.of_no f68, sums h68 f68 d1 d2⟩⟩
    · exact k_xSum A67 _ ⟨_, rfl, hL67, k_xSum B67 _ ⟨_, rfl, hL67, sums h67 (Fr.refl _ _) d1 d2⟩⟩
    · exact k_xSum A67 _ ⟨_, rfl, hL67, k_xSum B67 _ ⟨_, rfl, hL67, sums h67 (Fr.refl _ _) d1 d2⟩⟩
  have hL15 := hL14.of_no f15
  have f215 := f213.no_trans (f14.no_trans f15)
  have F15 := f2.no_trans f215
  have X15 := RdI.no (Ow.rdI o7) (f714.no_trans f15)
  have Y15 := RdI.no (Ow.rdI q7) (f714.no_trans f15)
  have A15 := RdI.no (Ow.rdI o13) (f14.no_trans f15)
  have G15 := G2.no f215
  have R15 := R2.no f215
  have Q15 := Q2.no f215
  obtain ⟨l1, l2, l3, l4, l5, l6, l7⟩ := any_law e1
  obtain ⟨m1', m2', m3'⟩ := mol_rng l1
  have hld : loadB gs p (rs, cs) = true := (eol_of e1).1
  obtain ⟨hk, L0, hnn⟩ := load_of hld
  obtain ⟨hgr, p0, p1, _⟩ := sink_of hk
  obtain ⟨_, L3, _⟩ := load_of l3
  have hl1 : rs.length = gs.length := L0.w.len
  have xl : (eolP gs p (rs, cs) ns).1.1.length = gs.length := L3.w.len
  have yl : (eolP gs p (rs, cs) ns).1.2.length = gs.length := L3.len
  refine ⟨fun e => by rw [l1] at e; simp at e, fun _ => ⟨fun h' => Fr No h15 h', ?_, ?_⟩⟩
  · refine k_EndOfLoad G15 R15 Q15 (rdI_nil h15) (by simp) p _ fun z z' m5 h17 o17 q17 _ _ f17 => ⟨z, z', _, rfl, hL15.of_no f17, fun b5 h19 hb5 f19 hL19 => ?_⟩
    have f19 := f19.in_nil
    have f1519 := f17.no_trans f19
    refine k_IsLoad (l := (eolP gs p (rs, cs) ns).1) (G15.no f1519) (X15.no f1519) (Y15.no f1519) p _ fun h20 f20 => ⟨_, _, rfl, hL19.of_no f20, fun e => by rw [l2, e1] at e; simp at e, fun _ => ?_⟩
    have f1520 := f1519.no_trans f20
    refine k_xLoad (RdI.no (Ow.rdI o17) (f19.no_trans f20)) (RdI.no (Ow.rdI q17) (f19.no_trans f20)) (X15.no f1520) (Y15.no f1520) _ fun h21 f21 => ⟨_, rfl, (hL19.of_no f20).of_no f21, fun e => ?_, fun _ => ⟨fun e => by rw [hk] at e; simp at e, fun _ => ⟨fun e => by rw [hk, l3] at e; simp at e, fun _ => ?_⟩⟩⟩
    · exfalso
      have e := not_t e
      simp only [decide_eq_false_iff_not] at e
      rw [l2] at e
      exact e ⟨rfl, rfl⟩
    have f1521 := f1520.no_trans f21
    have hL21 := (hL19.of_no f20).of_no f21
    have Y21 := Y15.no f1521
    have A21 := A15.no f1521
    have yi : p < ((eolP gs p (rs, cs) ns).1.2.length : Int) := by omega
    have ai : p < ((molP gs p (rs, cs)).1.length : Int) := by omega
    refine ⟨Y21.inb p0 yi, _, Y21.get p0 yi, k_xSum (Q15.no f1521) _ ⟨_, rfl, hL21, Y21.get p0 yi, fun e => ?_, fun _ => ⟨A21.inb p0 ai, _, A21.get p0 ai, fun e => ?_, fun _ => ?_⟩⟩⟩
    · exfalso
      have e := not_t e
      simp only [decide_eq_false_iff_not] at e
      refine e ?_
      rw [getD_getI (by omega)] at l4
      rw [l4]
      have hs := le_sum (xs := cs) hnn
      have : cs.sum ≤ 20 := by
        unfold loadB at hld
        simp only [Bool.and_eq_true, decide_eq_true_eq] at hld
        exact hld.2.2.2.2
      rw [w64_eq _ (by omega) (by omega)]
    · exfalso
      have e := not_t e
      simp only [decide_eq_false_iff_not] at e
      rw [getD_getI (by omega)] at l5
      exact e l5
    · have G21 := G15.no f1521
      have R21 := R15.no f1521
      have X21 := X15.no f1521
      refine ⟨fun n i h' => h21 = h' ∧ 0 ≤ i ∧ i + n = (gs.length : Int), ⟨gs.length, rfl, by omega, by omega⟩, ?_⟩
      rintro n i _ ⟨rfl, i0, i1⟩ hL
      refine ⟨fun e => ?_, fun e => ?_⟩
      · have hi := G21.lt e
        obtain ⟨si, c1, r1⟩ := G21.get i0 hi
        have sn := r1.len
        have next : ∃ m : Nat, m < n ∧ (h21 = h21 ∧ 0 ≤ w64 (i + 1) ∧ w64 (i + 1) + m = (gs.length : Int)) := by
          rw [G21.succ i0 hi]
          exact ⟨n - 1, by omega, rfl, by omega, by omega⟩
        have ri : i < (rs.length : Int) := by omega
        have xi : i < ((eolP gs p (rs, cs) ns).1.1.length : Int) := by omega
        have mi : i < ((molP gs p (rs, cs)).1.length : Int) := by omega
        refine ⟨G21.inb i0 hi, si, c1, fun e2 => ?_, fun _ => next⟩
        have e2 := not_t e2
        simp only [decide_eq_false_iff_not] at e2
        obtain ⟨q1, q2⟩ := l6 i.toNat (by omega) (by omega)
        rw [getD_get (by omega)] at q1 q2
        refine ⟨fun e3 => ?_, fun _ => ⟨X21.inb i0 xi, _, X21.get i0 xi, R21.inb i0 ri, _, R21.get i0 ri, A21.inb i0 mi, _, A21.get i0 mi, by omega, fun e4 => ?_, fun _ => next⟩⟩
        · exfalso
          simp only [decide_eq_true_eq] at e3
          omega
        · exfalso
          have e4 := not_t e4
          simp only [decide_eq_false_iff_not] at e4
          refine e4 ?_
          rw [getD_getI (by omega), getD_getI (show i.toNat < rs.length by omega), getD_getI (show i.toNat < (molP gs p (rs, cs)).1.length by omega)] at q2
          have b1 := m2' _ (List.getElem_mem (show i.toNat < (molP gs p (rs, cs)).1.length by omega))
          have b2 := L0.w.rot i.toNat (show i.toNat < rs.length by omega) (show i.toNat < gs.length by omega)
          have b3 := (graph_mem hgr (List.getElem_mem (show i.toNat < gs.length by omega))).1
          simp only at b2
          rw [w64_eq _ (by omega) (by omega), sn]
          exact q2
      · refine k_ForceMoves G21 R21 (Q15.no f1521) A21 p _ fun y1 y2 m6 h24 o24 q24 _ _ f24 => ⟨y1, y2, _, rfl, hL21.of_no f24, fun e2 b6 h26 hb6 f26 hL26 => ?_, fun _ b6 h26 hb6 f26 hL26 => f1521.no_trans (f24.no_trans f26.in_nil)⟩
        have f26 := f26.in_nil
        have f2126 := f24.no_trans f26
        refine k_xLoad (RdI.no (Ow.rdI o24) f26) (RdI.no (Ow.rdI q24) f26) (X21.no f2126) ((Y15.no f1521).no f2126) _ fun h27 f27 => ⟨_, rfl, hL26.of_no f27, fun e => ?_, fun _ => f1521.no_trans (f2126.no_trans f27)⟩
        exfalso
        have e := not_t e
        simp only [decide_eq_false_iff_not] at e
        have := l7 e2
        exact e ⟨congrArg Prod.fst this, congrArg Prod.snd this⟩
  · intro h28 f28 hL28
    have F28 := F15.no_trans f28
    refine k_DrawMoveInOrder (G1.no F28) B1 _ fun t u v w gs rs cs ns p h29 G29 R29 Q29 N29 f29 => ⟨t, p, u, v, w, rfl, hL28.of_no f29, fun b7 b8 h33 hb7 hb8 f33 hL33 => ?_⟩
    have f33 := f33.in_nil
    refine k_MoveInOrder (G29.no f33) (R29.no f33) (Q29.no f33) (N29.no f33) p _ fun x y m1 h34 o34 q34 _ _ f34 => ⟨x, y, _, rfl, hL33.of_no f34, fun b9 h36 hb9 f36 hL36 => ?_⟩
    have f36 := f36.in_nil
    have g36 := (f33.no_trans f34).no_trans f36
    refine k_spec_MoveInOrder (G29.no g36) (R29.no g36) (Q29.no g36) (N29.no g36) p _ fun x' y' m2 h37 o37 q37 _ _ f37 => ⟨x', y', _, rfl, hL36.of_no f37, fun b10 h39 hb10 f39 hL39 => ?_⟩
    have f39 := f39.in_nil
    have g39 := (g36.no_trans f37).no_trans f39
    have F39 := (F28.no_trans f29).no_trans g39
    refine k_DrawMoveChip (G1.no F39) B1 _ fun t2 u2 v2 gs2 rs2 cs2 p2 q2 h40 G40 R40 Q40 f40 => ⟨t2, p2, u2, v2, q2, rfl, hL39.of_no f40, fun b11 b12 h44 hb11 hb12 f44 hL44 => ?_⟩
    have f44 := f44.in_nil
    refine k_MoveChip (G40.no f44) (R40.no f44) (Q40.no f44) p2 q2 _ fun x2 y2 m3 h45 o45 q45 _ _ f45 => ⟨x2, y2, _, rfl, hL44.of_no f45, fun b13 h47 hb13 f47 hL47 => ?_⟩
    have f47 := f47.in_nil
    have g47 := (f44.no_trans f45).no_trans f47
    refine k_spec_MoveChip (G40.no g47) (R40.no g47) (Q40.no g47) p2 q2 _ fun x3 y3 m4 h48 o48 q48 _ _ f48 => ⟨x3, y3, _, rfl, hL47.of_no f48, fun b14 h50 hb14 f50 hL50 => ?_⟩
    have f50 := f50.in_nil
    have F50 := ((F39.no_trans f40).no_trans g47).no_trans (f48.no_trans f50)
    refine k_DrawIsLoad (G1.no F50) B1 _ fun t4 u4 v4 gs4 rs4 cs4 p4 h51 G51 R51 Q51 f51 => ⟨t4, p4, u4, v4, rfl, hL50.of_no f51, fun b15 b16 h55 hb15 hb16 f55 hL55 => ?_⟩
    have f55 := f55.in_nil
    refine k_IsLoad (l := (rs4, cs4)) (G51.no f55) (R51.no f55) (Q51.no f55) p4 _ fun h56 f56 => ⟨_, _, rfl, hL55.of_no f56, ?_⟩
    have f5556 := f55.no_trans f56
    refine k_spec_IsLoad (l := (rs4, cs4)) (G51.no f5556) (R51.no f5556) (Q51.no f5556) p4 _ fun h57 f57 => ⟨_, _, rfl, (hL55.of_no f56).of_no f57, fun e => by simp at e, fun _ => ?_⟩
    have hL57 := (hL55.of_no f56).of_no f57
    have g3957 := (f40.no_trans g47).no_trans ((f48.no_trans f50).no_trans (f51.no_trans (f5556.no_trans f57)))
    have g3657 := (f37.no_trans f39).no_trans g3957
    have g3457 := f36.no_trans g3657
    have F57 := F39.no_trans g3957
    have X57 := (Ow.rdI o34).no g3457
    have Y57 := (Ow.rdI q34).no g3457
    refine k_xLoad X57 Y57 (RdI.no (Ow.rdI o37) (f39.no_trans g3957)) (RdI.no (Ow.rdI q37) (f39.no_trans g3957)) _ fun h58 f58 => ⟨_, rfl, hL57.of_no f58, fun e => by simp at e, fun _ => ⟨fun e => by simp at e, fun _ => ?_⟩⟩
    have g4858 := (f50.no_trans (f51.no_trans (f5556.no_trans f57))).no_trans f58
    have g4558 := (f47.no_trans f48).no_trans g4858
    refine k_xLoad (RdI.no (Ow.rdI o45) g4558) (RdI.no (Ow.rdI q45) g4558) (RdI.no (Ow.rdI o48) g4858) (RdI.no (Ow.rdI q48) g4858) _ fun h59 f59 => ⟨_, rfl, (hL57.of_no f58).of_no f59, fun e => by simp at e, fun _ => ⟨fun e => by simp at e, fun _ => ⟨fun e => by simp at e, fun _ => ⟨fun e3 => ?_, fun _ => HK h59 ((F57.no_trans f58).no_trans f59)⟩⟩⟩⟩
    have hL59 := (hL57.of_no f58).of_no f59
    have F59 := (F57.no_trans f58).no_trans f59
    have f5759 := f58.no_trans f59
    have g59 := (g39.no_trans g3957).no_trans f5759
    have X59 := X57.no f5759
    have Y59 := Y57.no f5759
    obtain ⟨w1, w2⟩ := later_law e3
    refine k_EndOfLoad (G29.no g59) (R29.no g59) (Q29.no g59) (rdI_nil h59) (by simp) p _ fun z z' m5 h60 o60 q60 _ _ f60 => ⟨z, z', _, rfl, hL59.of_no f60, fun b17 h62 hb17 f62 hL62 => ?_⟩
    have f62 := f62.in_nil
    have f5962 := f60.no_trans f62
    refine k_EndOfLoad ((G29.no g59).no f5962) (X59.no f5962) (Y59.no f5962) (rdI_nil h62) (by simp) p _ fun zz zz' m6 h63 o63 q63 _ _ f63 => ⟨zz, zz', _, rfl, hL62.of_no f63, fun b18 h65 hb18 f65 hL65 => ?_⟩
    have f65 := f65.in_nil
    have f5965 := (f5962.no_trans f63).no_trans f65
    refine k_MovesOfLoad ((G29.no g59).no f5965) ((R29.no g59).no f5965) ((Q29.no g59).no f5965) p _ fun a h66 o66 f66 => ⟨a, _, rfl, hL65.of_no f66, ?_⟩
    have f5966 := f5965.no_trans f66
    refine k_MovesOfLoad ((G29.no g59).no f5966) (X59.no f5966) (Y59.no f5966) p _ fun b h67 o67 f67 => ⟨b, _, rfl, (hL65.of_no f66).of_no f67, ?_⟩
    have hL67 := (hL65.of_no f66).of_no f67
    have F67 := F59.no_trans (f5966.no_trans f67)
    have A67 := (Ow.rdI o66).no f67
    have B67 := Ow.rdI o67
    have wn := N29.len
    have sums : ∀ (X : Heap), Fr No h67 X → (molP gs p (rs, cs)).2 = true → (molP gs p (mioP gs p (rs, cs) ns).1).2 = true → ((!decide (w64 (molP gs p (rs, cs)).1.sum = w64 (w64 (molP gs p (mioP gs p (rs, cs) ns).1).1.sum + (w.n : Int)))) = true → K (VB false) X) ∧ ((!decide (w64 (molP gs p (rs, cs)).1.sum = w64 (w64 (molP gs p (mioP gs p (rs, cs) ns).1).1.sum + (w.n : Int)))) = false → K (VB true) X) := fun X fX a1 a2 => by
      refine ⟨fun e => ?_, fun _ => HK X (F67.no_trans fX)⟩
      exfalso
      have e := not_t e
      simp only [decide_eq_false_iff_not] at e
      exact e (by rw [w64_add, w2 a1 a2, wn])
    refine ⟨fun c1 => ⟨fun c2 => ?_, fun _ => ⟨fun d1 => ⟨fun d2 => ?_, fun _ => HK h67 F67⟩, fun _ => HK h67 F67⟩⟩, fun _ => ⟨fun d1 => ⟨fun d2 => ?_, fun _ => HK h67 F67⟩, fun _ => HK h67 F67⟩⟩
    · have f6067 := f62.no_trans (f63.no_trans (f65.no_trans (f66.no_trans f67)))
      have f6367 := f65.no_trans (f66.no_trans f67)
      refine k_xLoad (RdI.no (Ow.rdI o60) f6067) (RdI.no (Ow.rdI q60) f6067) (RdI.no (Ow.rdI o63) f6367) (RdI.no (Ow.rdI q63) f6367) _ fun h68 f68 => ⟨_, rfl, hL67.of_no f68, fun e => ?_, fun _ => ⟨fun d1 => ⟨fun d2 => ?_, fun _ => HK h68 (F67.no_trans f68)⟩, fun _ => HK h68 (F67.no_trans f68)⟩⟩
      · exfalso
        have e := not_t e
        simp only [decide_eq_false_iff_not] at e
        have := w1 c1 c2
        exact e ⟨congrArg Prod.fst this, congrArg Prod.snd this⟩
      · refine k_xSum (A67.no f68) _ ⟨_, rfl, hL67.of_no f68, k_xSum (B67.no f68) _ ⟨_, rfl, hL67.of_no f68, sums h68 f68 d1 d2⟩⟩
    · exact k_xSum A67 _ ⟨_, rfl, hL67, k_xSum B67 _ ⟨_, rfl, hL67, sums h67 (Fr.refl _ _) d1 d2⟩⟩
    · exact k_xSum A67 _ ⟨_, rfl, hL67, k_xSum B67 _ ⟨_, rfl, hL67, sums h67 (Fr.refl _ _) d1 d2⟩⟩
end Go.Proofs.Ytbhnecochpehdaa
