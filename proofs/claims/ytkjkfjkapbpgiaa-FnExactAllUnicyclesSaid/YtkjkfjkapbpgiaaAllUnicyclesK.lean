/-
  What each function that the law 'FnExactAllUnicycles' comes to does: the contracts.
-/
import Derived.Test.YtkjkfjkapbpgiaaAllUnicyclesK0
set_option linter.unusedVariables false
set_option linter.unusedSimpArgs false
namespace Go.Proofs.Ytkjkfjkapbpgiaa
open Go Go.Mx
theorem occ_append (x : Int) : ∀ a b : List Int, occ x (a ++ b) = occ x a + occ x b
  | [], b => by simp [occ]
  | y :: a, b => by rw [List.cons_append, occ, occ, occ_append x a b]; omega
/-- A row of the Laplace matrix, of all places. -/
def rowV (n : Nat) (p : Nat) (len : Int) (l : List Int) : List Int := (List.range n).map fun q : Nat => (if q = p then len else 0) - occ q l
theorem rowV_len (n p : Nat) (len : Int) (l : List Int) : (rowV n p len l).length = n := by simp [rowV]
theorem rowV_get {n p : Nat} {len : Int} {l : List Int} {q : Nat} (h : q < (rowV n p len l).length) : (rowV n p len l)[q] = (if q = p then len else 0) - occ q l := by simp [rowV]
theorem rowV_start {n p : Nat} (hp : p < n) (len : Int) : rowV n p len [] = (List.replicate n (0 : Int)).set p len := by
  apply List.ext_getElem (by simp [rowV_len])
  intro q h1 h2
  rw [rowV_get h1, List.getElem_set, List.getElem_replicate, occ]
  by_cases e : q = p
  · rw [if_pos e, if_pos e.symm]; omega
  · rw [if_neg e, if_neg fun x => e x.symm]; omega
theorem rowV_step {n p : Nat} {len x : Int} {l : List Int} (h0 : 0 ≤ x) (h1 : x < (n : Int)) : rowV n p len (l ++ [x]) = (rowV n p len l).set x.toNat ((rowV n p len l).getD x.toNat 0 - 1) := by
  have hx : x.toNat < (rowV n p len l).length := by rw [rowV_len]; omega
  apply List.ext_getElem (by simp [rowV_len])
  intro q h2 h3
  have h4 : q < (rowV n p len l).length := by rw [rowV_len] at h2 ⊢; exact h2
  rw [rowV_get h2, List.getElem_set, occ_append]
  simp only [occ]
  by_cases e : x.toNat = q
  · rw [if_pos e, if_pos (show x = (q : Int) by omega), getD_getI hx, rowV_get hx, e]; omega
  · rw [if_neg e, if_neg (show ¬ x = (q : Int) by omega), rowV_get h4]; omega
theorem occ_bound (x : Int) : ∀ l : List Int, 0 ≤ occ x l ∧ occ x l ≤ l.length
  | [] => by simp [occ]
  | y :: l => by
    have := occ_bound x l
    rw [occ, List.length_cons]
    split <;> omega
def lapRow (g : List (List Int)) (s : Int) (p : Nat) : List Int := (rowV g.length p (g.getD p []).length (g.getD p [])).eraseIdx s.toNat
def lapL (g : List (List Int)) (s : Int) : List (List Int) := ((List.range g.length).filter (notS s)).map (lapRow g s)
theorem erase_filter : ∀ (l : List Nat) (i : Nat) (h : i < l.length), l.Nodup → l.eraseIdx i = l.filter fun x => !decide (x = l[i])
  | x :: l, 0, _, hd => by
    rw [List.nodup_cons] at hd
    rw [List.eraseIdx_zero, List.tail_cons, List.getElem_cons_zero, List.filter_cons_of_neg (by simp)]
    refine (List.filter_eq_self.2 fun a ha => ?_).symm
    have : a ≠ x := fun e => hd.1 (e ▸ ha)
    simpa using this
  | x :: l, i + 1, h, hd => by
    rw [List.nodup_cons] at hd
    have hi : i < l.length := by simpa using h
    have hx : x ≠ l[i] := fun e => hd.1 (e ▸ List.getElem_mem hi)
    rw [List.eraseIdx_cons_succ, List.getElem_cons_succ, List.filter_cons_of_pos (by simpa using hx), erase_filter l i hi hd.2]
theorem erase_range {n : Nat} {s : Int} (h0 : 0 ≤ s) (h1 : s < (n : Int)) : (List.range n).eraseIdx s.toNat = (List.range n).filter (notS s) := by
  rw [erase_filter _ _ (by rw [List.length_range]; omega) List.nodup_range]
  refine List.filter_congr fun x _ => ?_
  rw [List.getElem_range]
  unfold notS
  congr 1
  by_cases e : x = s.toNat
  · rw [decide_eq_true e, decide_eq_true (by omega)]
  · rw [decide_eq_false e, decide_eq_false (by omega)]
theorem map_erase {α β : Type} (f : α → β) : ∀ (l : List α) (i : Nat), (l.map f).eraseIdx i = (l.eraseIdx i).map f
  | [], _ => by simp
  | x :: l, 0 => by simp
  | x :: l, i + 1 => by rw [List.map_cons, List.eraseIdx_cons_succ, List.eraseIdx_cons_succ, List.map_cons, map_erase f l i]
theorem lapRow_eq {g : List (List Int)} {s : Int} (h0 : 0 ≤ s) (h1 : s < (g.length : Int)) (p : Nat) : lapRow g s p = ((List.range g.length).filter (notS s)).map fun q : Nat => (if q = p then ((g.getD p []).length : Int) else 0) - occ q (g.getD p []) := by
  unfold lapRow rowV
  rw [map_erase, erase_range h0 h1]
theorem names_len {n : Nat} {s : Int} (h0 : 0 ≤ s) (h1 : s < (n : Int)) : ((List.range n).filter (notS s)).length = n - 1 := by
  rw [← erase_range h0 h1, List.length_eraseIdx, List.length_range, if_pos (by omega)]
theorem lap_sq {g : List (List Int)} {s : Int} (h0 : 0 ≤ s) (h1 : s < (g.length : Int)) : (lapL g s).length = g.length - 1 ∧ Sq (g.length - 1) (lapL g s) := by
  have e : (lapL g s).length = g.length - 1 := by unfold lapL; rw [List.length_map, names_len h0 h1]
  refine ⟨e, e, fun i hi => ?_⟩
  unfold lapL at hi ⊢
  rw [List.getElem_map, lapRow_eq h0 h1, List.length_map, names_len h0 h1]
theorem lap_mat {g : List (List Int)} {s : Int} (h0 : 0 ≤ s) (h1 : s < (g.length : Int)) {i j : Nat} (hi : i < g.length - 1) (hj : j < g.length - 1) : matL (lapL g s) i j = lapM (tsOf g s) i j := by
  have hl := names_len (n := g.length) h0 h1
  have hi' : i < ((List.range g.length).filter (notS s)).length := by omega
  have hj' : j < ((List.range g.length).filter (notS s)).length := by omega
  have e1 : ∀ k (hk : k < ((List.range g.length).filter (notS s)).length), nmT (tsOf g s) k = ((((List.range g.length).filter (notS s))[k] : Nat) : Int) ∧ exT (tsOf g s) k = g.getD ((List.range g.length).filter (notS s))[k] [] := fun k hk => by
    unfold nmT exT tsOf
    rw [List.getD_eq_getElem?_getD, List.getElem?_eq_getElem (by rw [List.length_map]; exact hk), List.getElem_map]
    exact ⟨rfl, rfl⟩
  have hr : i < (lapL g s).length := by rw [(lap_sq h0 h1).1]; exact hi
  have er : (lapL g s)[i] = lapRow g s ((List.range g.length).filter (notS s))[i] := by
    show (((List.range g.length).filter (notS s)).map (lapRow g s))[i]'_ = _
    exact List.getElem_map _
  unfold matL lapM
  rw [getD_get hr, er, lapRow_eq h0 h1, getD_getI (by rw [List.length_map]; exact hj'), List.getElem_map, (e1 i hi').2, (e1 j hj').1]
  congr 1
  by_cases e : i = j
  · subst e; rw [if_pos rfl, if_pos rfl]
  · rw [if_neg e, if_neg fun x => e ?_]
    have nd : ((List.range g.length).filter (notS s)).Nodup := List.Pairwise.filter _ List.nodup_range
    have hp := List.pairwise_iff_getElem.1 nd
    rcases Nat.lt_trichotomy i j with a | a | a
    · exact absurd x.symm (hp i j hi' hj' a)
    · exact a
    · exact absurd x (hp j i hj' hi' a)
theorem lap_small {g : List (List Int)} {s : Int} (hg : graphB g = true) (h0 : 0 ≤ s) (h1 : s < (g.length : Int)) : Small (g.length - 1) (matL (lapL g s)) := fun i j hi hj => by
  rw [lap_mat h0 h1 hi hj]
  unfold lapM
  have hb : (exT (tsOf g s) i).length ≤ 5 := by
    have hl := names_len (n := g.length) h0 h1
    unfold exT tsOf
    rw [List.getD_eq_getElem?_getD, List.getElem?_eq_getElem (by rw [List.length_map]; omega), List.getElem_map]
    have hm := List.getElem_mem (show i < ((List.range g.length).filter (notS s)).length by omega)
    rw [List.mem_filter, List.mem_range] at hm
    show (g.getD _ []).length ≤ 5
    rw [getD_get hm.1]
    exact (graph_mem hg (List.getElem_mem hm.1)).1
  have := occ_bound (nmT (tsOf g s) j) (exT (tsOf g s) i)
  split <;> omega
/-- The number of trees. -/
def treesN (g : List (List Int)) (s : Int) : Int := det (g.length - 1) (matL (lapL g s))
theorem treesN_eq {g : List (List Int)} {s : Int} (hg : graphB g = true) (h0 : 0 ≤ s) (h1 : s < (g.length : Int)) : treesN g s = ((treesL g s).length : Int) := by
  rw [trees_count hg h0 h1]
  exact det_congr fun i j hi hj => lap_mat h0 h1 hi hj

theorem k_laplace {S : Nat → Prop} {h : Heap} {g : Sl} {xss : List (List Int)} (G : RdR S h g xss) (hg : graphB xss = true) {s : Int} (s0 : 0 ≤ s) (s1 : s < (xss.length : Int)) (K : Value → Heap → Prop) (HK : ∀ t h', OwX h' (Iv h.size h'.size) t (lapL xss s) → Fr No h h' → K t.v h') : callM Try.prog 117 #[.agg #[g.v], VI s] h K := by
  refine v117 g s h K fun b1 h1 hb1 f1 hL1 => ?_
  have f1 := f1.in_nil
  have z1 := f1.size
  have l1 : b1 < h1.size := hL1.head.lt
  have gl := graph_len hg
  have gn := G.len
  have no_ : ∀ {x : Heap}, Fr (fun k => h.size ≤ k) h x → Fr No h x := fun f => f.mono fun k hk hk2 => absurd hk2 (by omega)
  refine eop_lit rIss (fun k => h1.size ≤ k) (fun _ h => h) 0 (by omega) [] rfl rfl fun o h2 n2 c2 o2 f2 m2 _ => ⟨o, rfl, hL1.of_no f2, ?_⟩
  have z2 := f2.size
  have o2' : OwX h2 (fun k => h1.size ≤ k) o [] := ⟨[], rfl, o2, fun i h1 => by simp at h1, fun i j h1 => by simp at h1, fun i h1 => by simp at h1⟩
  refine ⟨fun m x p h' => 0 ≤ p ∧ p + m = (xss.length : Int) ∧ OwX h' (fun k => h1.size ≤ k) x (((List.range p.toNat).filter (notS s)).map (lapRow xss s)) ∧ Fr (fun k => h.size ≤ k) h h' ∧ h1.size ≤ h'.size, ⟨xss.length, Int.le_refl _, by omega, o2', f1.of_no.trans f2.of_no, by omega⟩, ?_⟩
  rintro m x p h3 ⟨p0, p1, o3, f3, z3⟩ hL3
  have g3 := no_ f3
  refine ⟨fun e => ?_, fun e => ?_⟩
  · have hp := G.lt e
    have G3 := G.no g3
    obtain ⟨sp, cp, rp⟩ := G3.get p0 hp
    have pl := rp.len
    have eg : xss.getD p.toNat [] = xss[p.toNat]'(by omega) := getD_get (by omega)
    have gm := graph_mem hg (List.getElem_mem (show p.toNat < xss.length by omega))
    rw [G.succ p0 hp]
    refine ⟨G3.inb p0 hp, sp, cp, fun e2 => ?_, fun e2 => ?_⟩
    · simp only [decide_eq_true_eq] at e2
      refine ⟨m - 1, by omega, by omega, by omega, ?_, f3, z3⟩
      rw [show (p + 1).toNat = p.toNat + 1 by omega, List.range_succ, List.filter_append, List.filter_cons_of_neg (notS_f (by omega)), List.filter_nil, List.append_nil]
      exact o3
    simp only [decide_eq_false_iff_not] at e2
    refine eop_make rIs (fun k => h3.size ≤ k) (fun _ h => h) .i64 .i64 g.n g.n (Nat.le_refl _) (by omega) fun t h4 n4 c4 o4 f4 m4 _ => ⟨t, rfl, hL3.of_no f4, ?_⟩
    have z4 := f4.size
    have o4 : OwI h4 (fun k => h3.size ≤ k) t (List.replicate xss.length 0) := by
      have e : (List.replicate g.n [VI 0]).flatten = (List.replicate xss.length (0 : Int)).map VI := by rw [gn]; simp [List.flatten_replicate_singleton]
      rw [e] at o4; exact o4
    refine int_set (L := [(b1, [g.v])]) (F := fun k => h3.size ≤ k) o4 p0 (by rw [List.length_replicate]; omega) (hL3.of_no f4) (fun q hq => by
      simp only [List.mem_cons, List.not_mem_nil, or_false] at hq
      subst hq; show ¬ h3.size ≤ b1; omega) _ fun h5 o5 f5 V5 => ?_
    rw [pl, ← rowV_start (by omega)] at o5
    have f35 := (f4.of_no (T := fun k => h3.size ≤ k)).trans f5
    refine ⟨fun m2 j h' => 0 ≤ j ∧ j + m2 = ((xss[p.toNat]'(by omega)).length : Int) ∧ OwI h' (fun k => h3.size ≤ k) t (rowV xss.length p.toNat (xss[p.toNat]'(by omega)).length ((xss[p.toNat]'(by omega)).take j.toNat)) ∧ Fr (fun k => h3.size ≤ k) h3 h', ⟨(xss[p.toNat]'(by omega)).length, Int.le_refl _, by omega, by simpa using o5, f35⟩, ?_⟩
    rintro m2 j h6 ⟨j0, j1, o6, f6⟩ hL6
    have r6 := (rp.low.fr f6 fun k hk hk2 => by omega)
    refine ⟨fun e3 => ?_, fun e3 => ?_⟩
    · have hj := r6.lt e3
      have hv := gm.2 _ (List.getElem_mem (show j.toNat < (xss[p.toNat]'(by omega)).length by omega))
      have R6 := o6.rdF
      have rl := rowV_len xss.length p.toNat (xss[p.toNat]'(by omega)).length ((xss[p.toNat]'(by omega)).take j.toNat)
      have hvl : (xss[p.toNat]'(by omega))[j.toNat]'(by omega) < ((rowV xss.length p.toNat (xss[p.toNat]'(by omega)).length ((xss[p.toNat]'(by omega)).take j.toNat)).length : Int) := by rw [rl]; omega
      refine ⟨r6.inb j0 hj, _, r6.get j0 hj, RdI.inb R6 hv.1 hvl, _, RdI.get R6 hv.1 hvl, int_set (L := [(b1, [g.v])]) (F := fun k => h3.size ≤ k) o6 hv.1 hvl hL6 (fun q hq => by
        simp only [List.mem_cons, List.not_mem_nil, or_false] at hq
        subst hq; show ¬ h3.size ≤ b1; omega) _ fun h7 o7 f7 V7 => ?_⟩
      rw [RdI.succ r6 j0 hj]
      refine ⟨m2 - 1, by omega, by omega, by omega, ?_, f6.trans f7⟩
      rw [take_snoc _ j0 hj, rowV_step hv.1 hv.2, getD_getI (show ((xss[p.toNat]'(by omega))[j.toNat]'(by omega)).toNat < (rowV xss.length p.toNat (xss[p.toNat]'(by omega)).length ((xss[p.toNat]'(by omega)).take j.toNat)).length by omega)]
      have hb : w64 ((rowV xss.length p.toNat (xss[p.toNat]'(by omega)).length ((xss[p.toNat]'(by omega)).take j.toNat))[((xss[p.toNat]'(by omega))[j.toNat]'(by omega)).toNat]'(by omega) - 1) = (rowV xss.length p.toNat (xss[p.toNat]'(by omega)).length ((xss[p.toNat]'(by omega)).take j.toNat))[((xss[p.toNat]'(by omega))[j.toNat]'(by omega)).toNat]'(by omega) - 1 := by
        rw [rowV_get]
        have ob := occ_bound ((((xss[p.toNat]'(by omega))[j.toNat]'(by omega)).toNat : Nat) : Int) ((xss[p.toNat]'(by omega)).take j.toNat)
        rw [List.length_take] at ob
        have := gm.1
        exact w64_eq _ (by split <;> omega) (by split <;> omega)
      rw [hb] at o7
      exact o7
    · have hj := r6.ge e3
      rw [List.take_of_length_le (by omega)] at o6
      have sw : w64 (s + 1) = ((s.toNat + 1 : Nat) : Int) := by rw [w64_eq _ (by omega) (by omega)]; omega
      have ss : s = ((s.toNat : Nat) : Int) := by omega
      rw [sw]
      refine cast (congrArg (fun z : Int => callM Try.prog 134 #[t.v, VI z, VI (s.toNat + 1 : Nat)] h6 _) ss.symm) ?_
      refine k_Delete o6 (i := s.toNat) (by rw [rowV_len]; omega) _ fun t8 h8 o8 f8 m8 => ⟨t8, rfl, ?_, ?_⟩
      · exact hL6.fr f8 fun q hq hk => by
          simp only [List.mem_cons, List.not_mem_nil, or_false] at hq
          subst hq
          have := (Ow.foot o6 hk).1
          (try simp only at this)
          omega
      have f8' : Fr (fun k => h3.size ≤ k) h6 h8 := f8.mono fun k _ hk => (Ow.foot o6 hk).1
      have f38 := f6.trans f8'
      have z8 := f38.size
      have hL8 : Vars h8 [(b1, [g.v])] := hL6.fr f8' fun q hq hk => by
        simp only [List.mem_cons, List.not_mem_nil, or_false] at hq
        subst hq
        (try simp only at hk)
        omega
      refine eop_putR (lo := h1.size) (m := h3.size) (OwR.fr (OwR.toIv o3) f38 fun k hk hk2 hk3 => by have := hk2.2; omega) o8 z3 z8 hL8 (fun q hq => by
        simp only [List.mem_cons, List.not_mem_nil, or_false] at hq
        subst hq; exact l1) (by
          rw [List.length_map]
          have := List.length_filter_le (notS s) (List.range p.toNat)
          rw [List.length_range] at this
          omega) _ fun t2 h10 o10 f10 V10 => ?_
      refine ⟨m - 1, by omega, by omega, by omega, ?_, (f3.trans (f38.mono fun k _ hk => by omega)).trans (f10.mono fun k _ hk => by omega), by have := f10.size; omega⟩
      rw [show (p + 1).toNat = p.toNat + 1 by omega, List.range_succ, List.filter_append, List.filter_cons_of_pos (notS_t.2 (by omega)), List.filter_nil, List.map_append, List.map_cons, List.map_nil]
      have el : lapRow xss s p.toNat = (rowV xss.length p.toNat (xss[p.toNat]'(by omega)).length (xss[p.toNat]'(by omega))).eraseIdx s.toNat := by unfold lapRow; rw [eg]
      rw [el]
      exact o10
  · have hp := G.ge e
    have ep : p.toNat = xss.length := by omega
    rw [ep] at o3
    exact HK x h3 (o3.mono fun k hk hk2 => ⟨by omega, hk⟩) g3

def szR (g : List (List Int)) (s : Int) (p : Nat) : Nat := if (p : Int) = s ∨ (g.getD p []).length = 0 then 1 else (g.getD p []).length
theorem cand_sz (g : List (List Int)) (s : Int) (p : Nat) : cand g s p = rngI (szR g s p) := by
  unfold cand szR
  split
  · rfl
  · rfl
theorem allRot_sz (g : List (List Int)) (s : Int) : allRot g s = prodL (((List.range g.length).map (szR g s)).map rngI) := by
  unfold allRot
  rw [List.map_map]
  congr 1
  exact List.map_congr_left fun p _ => cand_sz g s p
theorem szR_pos (g : List (List Int)) (s : Int) : ∀ n, n ∈ (List.range g.length).map (szR g s) → 1 ≤ n := fun n hn => by
  obtain ⟨p, _, rfl⟩ := List.mem_map.1 hn
  unfold szR
  split <;> omega
theorem rot_next {g : List (List Int)} {s : Int} {pre post : List (List Int)} {x : List Int} (h : allRot g s = pre ++ x :: post) : nextD ((List.range g.length).map (szR g s)) x = post.head? := by
  have := chain_all _ (szR_pos g s)
  rw [← allRot_sz, h] at this
  have h2 := Ch.at this
  cases post with
  | nil => exact h2
  | cons y l => exact h2
theorem rot_mem {g : List (List Int)} {s : Int} {x : List Int} (h : x ∈ allRot g s) : x.length = g.length ∧ ∀ i (hi : i < x.length), 0 ≤ x[i] ∧ x[i] < (szR g s i : Int) := by
  obtain ⟨e1, e2⟩ := (mem_prodL _ _).1 h
  rw [List.length_map, List.length_range] at e1
  refine ⟨e1, fun i hi => ?_⟩
  have := e2 i hi (by rw [List.length_map, List.length_range]; omega)
  rw [List.getElem_map, List.getElem_range, cand_sz] at this
  exact mem_rngI.1 this
def curR (x : List Int) (p : Nat) : List Int := x.take p ++ List.replicate (x.length - p) 0
theorem curR_len {x : List Int} {p : Nat} (h : p ≤ x.length) : (curR x p).length = x.length := by simp [curR]; omega
theorem curR_all (x : List Int) : curR x x.length = x := by simp [curR]
theorem curR_get {x : List Int} {p : Nat} (h : p < x.length) (h' : p < (curR x (p + 1)).length) : (curR x (p + 1))[p] = x[p] := by
  have e : (curR x (p + 1))[p]? = x[p]? := by
    unfold curR
    rw [List.getElem?_append_left (by rw [List.length_take]; omega), List.getElem?_take_of_lt (by omega)]
  rw [List.getElem?_eq_getElem h', List.getElem?_eq_getElem h] at e
  exact Option.some.inj e
theorem curR_set {x : List Int} {p : Nat} (h : p < x.length) (v : Int) : (curR x (p + 1)).set p v = x.take p ++ v :: List.replicate (x.length - (p + 1)) 0 := by
  unfold curR
  rw [List.take_succ_eq_append_getElem h, List.append_assoc, List.set_append_right _ _ (by rw [List.length_take]; omega), List.length_take, Nat.min_eq_left (by omega), Nat.sub_self]
  rfl
theorem curR_zero {x : List Int} {p : Nat} (h : p < x.length) : (curR x (p + 1)).set p 0 = curR x p := by
  rw [curR_set h]
  unfold curR
  rw [show x.length - p = (x.length - (p + 1)) + 1 by omega, List.replicate_succ]

theorem k_allRotors {S : Nat → Prop} {h : Heap} {g : Sl} {xss : List (List Int)} (G : RdR S h g xss) (hg : graphB xss = true) (s : Int) (f : Value) (I : Nat → Nat → List (List Int) → Heap → Prop) (St : List (List Int) → Prop)
    (hG : ∀ a b pre h', I a b pre h' → RdR S h' g xss)
    (hI0 : ∀ h', Fr No h h' → I h.size h'.size [] h') (hIf : ∀ a b pre h1 h2, I a b pre h1 → Fr (Iv a b) h1 h2 → a = h.size → I a b pre h2)
    (hS : ∀ b pre x post t h1 (K : Value → Heap → Prop), allRot xss s = pre ++ x :: post → I h.size b pre h1 → b ≤ h1.size → RdI (Iv h.size b) h1 t x → (∀ go h2, I h.size b (pre ++ [x]) h2 → Fr (fun k => ¬ Iv h.size b k) h1 h2 → (go = false → St (pre ++ [x])) → K (VB go) h2) → callV Try.prog f [t.v] h1 K)
    (K : Value → Heap → Prop) (HK : ∀ b pre post h', allRot xss s = pre ++ post → (post = [] ∨ St pre) → I h.size b pre h' → K (.tuple #[]) h') : callM Try.prog 90 #[.agg #[g.v], VI s, f] h K := by
  refine v90 g s f h K fun b1 h1 hb1 f1 hL1 => ?_
  have f1 := f1.in_nil
  have z1 := f1.size
  have l1 : b1 < h1.size := hL1.head.lt
  have gl := graph_len hg
  have gn := G.len
  refine eop_make rIs (fun k => h1.size ≤ k) (fun _ h => h) .i64 .i64 g.n g.n (Nat.le_refl _) (by omega) fun t h2 n2 c2 o2 f2 m2 _ => ⟨t, rfl, hL1.of_no f2, ?_⟩
  have z2 := f2.size
  have tn : t.n = xss.length := by omega
  obtain ⟨tl, htl⟩ := prodL_head _ (szR_pos xss s)
  rw [← allRot_sz] at htl
  have zl : zerL ((List.range xss.length).map (szR xss s)) = List.replicate xss.length 0 := by
    unfold zerL
    rw [List.map_map]
    apply List.ext_getElem (by simp)
    intro i h1 h2
    simp
  have o2 : OwI h2 (Iv h1.size h2.size) t (zerL ((List.range xss.length).map (szR xss s))) := by
    have e : (List.replicate g.n [VI 0]).flatten = (List.replicate xss.length (0 : Int)).map VI := by rw [gn]; simp [List.flatten_replicate_singleton]
    rw [e] at o2
    rw [zl]
    exact o2.mono fun k hk hF => ⟨hF, (Ow.foot o2 hk).2⟩
  have oth : ∀ {q : Nat × List Value}, q ∈ [(b1, [g.v])] → Iv h.size h2.size q.1 ∧ ¬ Iv h1.size h2.size q.1 := fun hq => by
    simp only [List.mem_cons, List.not_mem_nil, or_false] at hq
    subst hq
    exact ⟨⟨hb1, by show b1 < _; omega⟩, fun hk => by have := hk.1; (try simp only at this); omega⟩
  have wide : ∀ {k}, Iv h1.size h2.size k → Iv h.size h2.size k := fun hk => ⟨by have := hk.1; omega, hk.2⟩
  refine ⟨fun m h' => ∃ pre x post, allRot xss s = pre ++ x :: post ∧ post.length = m ∧ OwI h' (Iv h1.size h2.size) t x ∧ I h.size h2.size pre h' ∧ h2.size ≤ h'.size, ⟨tl.length, [], _, tl, htl, rfl, o2, hI0 _ (f1.no_trans f2), Nat.le_refl _⟩, ?_⟩
  rintro m h3 ⟨pre, x, post, eA, em, o3, I3, z3⟩ hL3
  have xm : x ∈ allRot xss s := by rw [eA]; simp
  obtain ⟨xl, xr⟩ := rot_mem xm
  have hnx := rot_next eA
  refine hS h2.size pre x post t h3 _ eA I3 z3 (o3.rdF.mono fun k hk => wide hk) fun go h4 I4 f4 hgo => ⟨go, rfl, hL3.fr f4 fun q hq hn => hn (oth hq).1, fun e => ?_, fun e => ?_⟩
  · simp only [Bool.not_eq_true'] at e
    exact HK h2.size (pre ++ [x]) post h4 (by rw [eA]; simp) (.inr (hgo e)) I4
  have z4 := f4.size
  have o4 : OwI h4 (Iv h1.size h2.size) t x := Ow.fr o3 f4 fun k hk hn => hn (wide (Ow.foot o3 hk).1)
  have w1 : w64 ((t.n : Int) - 1) = (xss.length : Int) - 1 := by rw [w64_eq _ (by omega) (by omega)]; omega
  rw [w1]
  refine ⟨fun m2 p h' => m2 = (p + 1).toNat ∧ -1 ≤ p ∧ p < (xss.length : Int) ∧ OwI h' (Iv h1.size h2.size) t (curR x (p + 1).toNat) ∧ (∀ i (hi : i < x.length), p < (i : Int) → (szR xss s i : Int) ≤ x[i] + 1) ∧ I h.size h2.size (pre ++ [x]) h' ∧ h2.size ≤ h'.size, ⟨xss.length, by omega, by omega, by omega, by rw [show ((xss.length : Int) - 1 + 1).toNat = x.length by omega, curR_all]; exact o4, fun i hi hp => by omega, I4, by omega⟩, ?_⟩
  rintro m2 p h5 ⟨em2, p0, p1, o5, hmx, I5, z5⟩ hL5
  have cl : (curR x (p + 1).toNat).length = xss.length := by rw [curR_len (by omega), xl]
  have hoff : ∀ q, q ∈ [(b1, [g.v])] → ¬ Iv h1.size h2.size q.1 := fun q hq => (oth hq).2
  refine ⟨fun e2 => ?_, fun e2 => ?_⟩
  · simp only [decide_eq_true_eq] at e2
    have pl : p < ((curR x (p + 1).toNat).length : Int) := by omega
    have pw : w64 (p - 1) = p - 1 := w64_eq _ (by omega) (by omega)
    have pn : p.toNat < x.length := by omega
    have e1 : (p + 1).toNat = p.toNat + 1 := by omega
    -- a digit that is the greatest becomes 0
    have zero : ∀ (n : Nat), (szR xss s p.toNat : Int) ≤ x[p.toNat] + 1 → InB t p ∧ Writable h5 (t.at p 1) ∧ Vars (hset h5 (t.at p 1) (VI 0)) [(b1, [g.v])] ∧ ∀ h8, h8 = hset h5 (t.at p 1) (VI 0) → Vars h8 [(b1, [g.v])] → ∃ m' : Nat, m' < m2 ∧ (m' = (w64 (p - 1) + 1).toNat ∧ -1 ≤ w64 (p - 1) ∧ w64 (p - 1) < (xss.length : Int) ∧ OwI h8 (Iv h1.size h2.size) t (curR x (w64 (p - 1) + 1).toNat) ∧ (∀ i (hi : i < x.length), w64 (p - 1) < (i : Int) → (szR xss s i : Int) ≤ x[i] + 1) ∧ I h.size h2.size (pre ++ [x]) h8 ∧ h2.size ≤ h8.size) := fun n hx => by
      refine int_set o5 e2 pl hL5 hoff _ fun h8 o8 f8 V8 => ?_
      rw [pw, show (p - 1 + 1).toNat = p.toNat by omega]
      refine ⟨p.toNat, by omega, rfl, by omega, by omega, ?_, fun i hi hp => ?_, hIf _ _ _ _ _ I5 (f8.mono fun k _ hk => wide hk) rfl, by have := f8.size; omega⟩
      · rw [e1, curR_zero pn] at o8
        exact o8
      · by_cases hh : i = p.toNat
        · subst hh; exact hx
        · exact hmx i hi (by omega)
    refine ⟨fun e3 => ?_, fun e3 => ?_⟩
    · simp only [decide_eq_true_eq] at e3
      refine zero 0 ?_
      have : szR xss s p.toNat = 1 := by unfold szR; rw [if_pos (.inl (by omega))]
      have := (xr p.toNat pn).1
      omega
    simp only [decide_eq_false_iff_not] at e3
    have G5 := hG _ _ _ _ I5
    obtain ⟨sp, cp, rp⟩ := G5.get e2 (by omega)
    have spl := rp.len
    have gm := graph_mem hg (List.getElem_mem (show p.toNat < xss.length by omega))
    have sw : w64 ((sp.n : Int) - 1) = (sp.n : Int) - 1 := w64_eq _ (by omega) (by omega)
    have ex : (curR x (p + 1).toNat)[p.toNat]'(by omega) = x[p.toNat] := by
      have := curR_get pn (by rw [curR_len (by omega)]; exact pn)
      simp only [e1]
      exact this
    have R5 := o5.rdF
    have gd : xss.getD p.toNat [] = xss[p.toNat]'(by omega) := getD_get (by omega)
    refine ⟨RdI.inb R5 e2 pl, _, RdI.get R5 e2 pl, G5.inb e2 (by omega), sp, cp, fun e4 => ?_, fun e4 => ⟨fun e5 => ?_, fun _ => ?_⟩⟩
    · rw [sw, ex] at e4
      simp only [decide_eq_true_eq] at e4
      refine zero 0 ?_
      unfold szR
      rw [gd]
      have := (xr p.toNat pn).1
      split <;> omega
    · simp only [decide_eq_true_eq] at e5; omega
    · rw [sw, ex] at e4
      simp only [decide_eq_false_iff_not] at e4
      refine ⟨RdI.inb R5 e2 pl, _, RdI.get R5 e2 pl, ?_⟩
      rw [ex, w64_eq (x[p.toNat] + 1) (by have := (xr p.toNat pn).1; omega) (by have := gm.1; omega)]
      refine int_set o5 e2 pl hL5 hoff _ fun h8 o8 f8 V8 => ?_
      have nl : ((List.range xss.length).map (szR xss s)).length = xss.length := by simp
      have ng : ∀ i (hi : i < ((List.range xss.length).map (szR xss s)).length), ((List.range xss.length).map (szR xss s))[i] = szR xss s i := fun i hi => by rw [List.getElem_map, List.getElem_range]
      have x0 := (xr p.toNat pn).1
      have hs := nextD_some ((List.range xss.length).map (szR xss s)) x p.toNat (by omega) pn (by omega) (by
        rw [ng]
        unfold szR
        rw [gd, if_neg (by rintro (a | a) <;> omega)]
        omega) fun i hi hi' hpi => by rw [ng]; exact hmx i hi (by omega)
      rw [hs] at hnx
      cases post with
      | nil => cases hnx
      | cons y post' =>
        simp only [List.head?_cons, Option.some.injEq] at hnx
        have em : post'.length + 1 = m := em
        refine ⟨post'.length, by omega, pre ++ [x], y, post', by rw [eA]; simp, rfl, ?_, hIf _ _ _ _ _ I5 (f8.mono fun k _ hk => wide hk) rfl, by have := f8.size; omega⟩
        rw [e1, curR_set pn] at o8
        rw [← hnx]
        have ez : zerL (((List.range xss.length).map (szR xss s)).drop (p.toNat + 1)) = List.replicate (x.length - (p.toNat + 1)) 0 := by
          unfold zerL
          apply List.ext_getElem (by simp; omega)
          intro i h1 h2
          simp
        rw [ez]
        exact o8
  · simp only [decide_eq_false_iff_not] at e2
    refine ⟨fun _ => ?_, fun e3 => by simp only [decide_eq_false_iff_not] at e3; omega⟩
    have nl : ((List.range xss.length).map (szR xss s)).length = xss.length := by simp
    have hn := nextD_none ((List.range xss.length).map (szR xss s)) x (by omega) fun i hi hi' => by
      rw [List.getElem_map, List.getElem_range]
      exact hmx i hi (by omega)
    rw [hn] at hnx
    cases post with
    | nil => exact HK h2.size (pre ++ [x]) [] h5 (by rw [eA]; simp) (.inl rfl) I5
    | cons y post' => cases hnx

/-! Unicycles and trees; lists in lexicographic order. -/
theorem nx_set {g : List (List Int)} {rs : List Int} {p c q : Int} (p0 : 0 ≤ p) (h : q ≠ p) : nx g (rs.set p.toNat c) q = nx g rs q := by
  unfold nx
  by_cases h0 : q < 0
  · rw [if_pos h0, if_pos h0]
  · have : (rs.set p.toNat c).getD q.toNat 0 = rs.getD q.toNat 0 := by
      rw [List.getD_eq_getElem?_getD, List.getElem?_set, if_neg (by omega), List.getD_eq_getElem?_getD]
    rw [this]
theorem itx_set {g : List (List Int)} {rs : List Int} {p c q : Int} (p0 : 0 ≤ p) : ∀ m, (∀ j, j < m → itx g rs q j ≠ p) → itx g (rs.set p.toNat c) q m = itx g rs q m
  | 0, _ => rfl
  | m + 1, h => by rw [itx, itx, itx_set p0 m fun j hj => h j (by omega), nx_set p0 (h m (by omega))]
theorem itx_add2 {g : List (List Int)} {rs : List Int} (p : Int) (m : Nat) : ∀ k, itx g rs p (m + k) = itx g rs (itx g rs p m) k
  | 0 => rfl
  | k + 1 => by rw [← Nat.add_assoc, itx, itx_add2 p m k]; rfl
theorem wok_at {g : List (List Int)} {rs : List Int} {a b : Int} (W : WOK g (rs, a)) (h0 : 0 ≤ b) (h1 : b < (g.length : Int)) : WOK g (rs, b) := ⟨W.graph, W.len, h0, h1, W.rot⟩
theorem wok_put {g : List (List Int)} {rs : List Int} {a c : Int} (W : WOK g (rs, a)) {p : Nat} (h : p < g.length) (c0 : 0 ≤ c) (c1 : c ≤ max ((g[p].length : Int) - 1) 0) : WOK g (rs.set p c, a) := ⟨W.graph, by simpa using W.len, W.lo, W.hi, fun i x y => by
  (try simp only at x ⊢)
  rw [List.getElem_set]
  split
  · rename_i e; subst e; exact ⟨c0, c1⟩
  · exact W.rot i (by rw [List.length_set] at x; exact x) y⟩
theorem uni_tree {g : List (List Int)} {rs : List Int} {p : Int} (W : WOK g (rs, p)) : uniB g rs p = true ↔ (g.getD p.toNat []).length ≠ 0 ∧ treeB g (rs.set p.toNat 0) p = true := by
  have p0 : 0 ≤ p := W.lo
  have p1 : p < (g.length : Int) := W.hi
  have hp : p.toNat < g.length := by omega
  have W' : WOK g (rs.set p.toNat 0, p) := wok_put W hp (Int.le_refl _) (by omega)
  constructor
  · intro h
    have hu : ∀ q : Nat, q < g.length → 0 ≤ itx g rs q g.length ∧ ∃ k, g.length ≤ k ∧ itx g rs q k = p := by
      refine Classical.byContradiction fun hh => ?_
      rw [uniB_f hh] at h
      cases h
    refine ⟨fun hz => ?_, (treeB_iff W' p0).2 fun q hq => ?_⟩
    · obtain ⟨a, k, hk, e⟩ := hu p.toNat hp
      have : itx g rs ((p.toNat : Nat) : Int) 1 < 0 := by
        show nx g rs ((p.toNat : Nat) : Int) < 0
        unfold nx
        rw [if_neg (by omega), show (((p.toNat : Nat) : Int)).toNat = p.toNat by omega, if_pos hz]
        omega
      have := itx_neg_mono this (show 1 ≤ g.length by omega)
      omega
    · obtain ⟨_, k, _, e⟩ := hu q hq
      obtain ⟨m, _, m1, m2⟩ := first_hit k e
      exact ⟨m, by rw [itx_set p0 m m2]; exact m1⟩
  · rintro ⟨hz, ht⟩
    have ht := (treeB_iff W' p0).1 ht
    have hr : ∀ q : Nat, q < g.length → ∃ m, itx g rs q m = p := fun q hq => by
      obtain ⟨k, e⟩ := ht q hq
      obtain ⟨m, _, m1, m2⟩ := first_hit k e
      refine ⟨m, ?_⟩
      have := itx_set (c := rs.getD p.toNat 0) (rs := rs.set p.toNat 0) p0 m m2
      have e2 : (rs.set p.toNat 0).set p.toNat (rs.getD p.toNat 0) = rs := by
        have hl : p.toNat < rs.length := by have : rs.length = g.length := W.len; omega
        rw [List.set_set, getD_getI hl, List.set_getElem_self]
      rw [e2] at this
      rw [this]; exact m1
    have hn := nx_some W p0 p1 (by rw [getD_get hp] at hz; exact hz)
    obtain ⟨_, hm, _, en⟩ := hn
    have hv := (graph_mem W.graph (List.getElem_mem (show p.toNat < g.length from hp))).2 _ (List.getElem_mem hm)
    rw [← en] at hv
    obtain ⟨c, hc⟩ := hr (nx g rs p).toNat (by omega)
    rw [show (((nx g rs p).toNat : Nat) : Int) = nx g rs p by omega, itx_cons] at hc
    have loop : ∀ j, itx g rs p (j * (c + 1)) = p := by
      intro j
      induction j with
      | zero => rw [Nat.zero_mul]; rfl
      | succ j ih => rw [Nat.succ_mul, itx_add2, ih, hc]
    refine uniB_t fun q hq => ?_
    obtain ⟨m, hm'⟩ := hr q hq
    have hk : itx g rs q (m + g.length * (c + 1)) = p := by rw [itx_add2, hm', loop]
    have hle : g.length ≤ m + g.length * (c + 1) := by
      have : g.length * 1 ≤ g.length * (c + 1) := Nat.mul_le_mul_left _ (by omega)
      omega
    refine ⟨?_, _, hle, hk⟩
    by_cases hx : itx g rs q g.length < 0
    · have := itx_neg_mono hx hle; omega
    · omega
def ltL : List Int → List Int → Bool
  | x :: a, y :: b => if x = y then ltL a b else decide (x < y)
  | _, _ => false
theorem ltL_irr : ∀ a, ltL a a = false
  | [] => rfl
  | x :: a => by rw [ltL, if_pos rfl, ltL_irr a]
theorem ltL_asym : ∀ {a b : List Int}, ltL a b = true → ltL b a = false
  | [], _, h => by simp [ltL] at h
  | x :: a, [], h => by simp [ltL] at h
  | x :: a, y :: b, h => by
    rw [ltL] at h ⊢
    by_cases e : x = y
    · rw [if_pos e] at h
      rw [if_pos e.symm]
      exact ltL_asym h
    · rw [if_neg e] at h
      rw [if_neg fun z => e z.symm]
      simp only [decide_eq_true_eq, decide_eq_false_iff_not] at h ⊢
      omega
theorem ltL_trans : ∀ {a b c : List Int}, ltL a b = true → ltL b c = true → ltL a c = true
  | [], b, c, h, _ => by simp [ltL] at h
  | x :: a, [], c, h, _ => by simp [ltL] at h
  | x :: a, y :: b, [], _, h => by simp [ltL] at h
  | x :: a, y :: b, z :: c, h1, h2 => by
    rw [ltL] at h1 h2 ⊢
    by_cases e1 : x = y
    · rw [if_pos e1] at h1
      by_cases e2 : y = z
      · rw [if_pos e2] at h2
        rw [if_pos (e1.trans e2)]
        exact ltL_trans h1 h2
      · rw [if_neg e2] at h2
        rw [if_neg (by omega), e1]
        exact h2
    · rw [if_neg e1] at h1
      simp only [decide_eq_true_eq] at h1
      by_cases e2 : y = z
      · rw [if_neg (by omega), ← e2]
        simpa using h1
      · rw [if_neg e2] at h2
        simp only [decide_eq_true_eq] at h2
        rw [if_neg (by omega)]
        simp only [decide_eq_true_eq]
        omega
theorem ltL_tri : ∀ {a b : List Int}, a.length = b.length → ltL a b = false → a ≠ b → ltL b a = true
  | [], [], _, _, h => absurd rfl h
  | [], _ :: _, h, _, _ => by simp at h
  | _ :: _, [], h, _, _ => by simp at h
  | x :: a, y :: b, hl, h1, h2 => by
    rw [ltL] at h1 ⊢
    by_cases e : x = y
    · rw [if_pos e] at h1
      rw [if_pos e.symm]
      exact ltL_tri (by simpa using hl) h1 fun hh => h2 (by rw [e, hh])
    · rw [if_neg e] at h1
      rw [if_neg fun z => e z.symm]
      simp only [decide_eq_true_eq, decide_eq_false_iff_not] at h1 ⊢
      omega
theorem sorted_ext : ∀ {l1 l2 : List (List Int)}, l1.Pairwise (fun a b => ltL a b = true) → l2.Pairwise (fun a b => ltL a b = true) → (∀ x, x ∈ l1 ↔ x ∈ l2) → l1 = l2
  | [], [], _, _, _ => rfl
  | [], y :: l2, _, _, h => by have := (h y).2 (List.mem_cons_self ..); simp at this
  | x :: l1, [], _, _, h => by have := (h x).1 (List.mem_cons_self ..); simp at this
  | x :: l1, y :: l2, h1, h2, h => by
    rw [List.pairwise_cons] at h1 h2
    have e : x = y := by
      rcases List.mem_cons.1 ((h x).1 (List.mem_cons_self ..)) with e | e
      · exact e
      rcases List.mem_cons.1 ((h y).2 (List.mem_cons_self ..)) with e' | e'
      · exact e'.symm
      have a := ltL_asym (h1.1 y e')
      rw [h2.1 x e] at a
      cases a
    subst e
    rw [sorted_ext h1.2 h2.2 fun z => ⟨fun hz => ?_, fun hz => ?_⟩]
    · rcases List.mem_cons.1 ((h z).1 (List.mem_cons_of_mem _ hz)) with e | e
      · have := h1.1 z hz
        rw [e, ltL_irr] at this
        cases this
      · exact e
    · rcases List.mem_cons.1 ((h z).2 (List.mem_cons_of_mem _ hz)) with e | e
      · have := h2.1 z hz
        rw [e, ltL_irr] at this
        cases this
      · exact e
/-- A list is put into its place. -/
def insW (w : List Int) : List (List Int) → List (List Int)
  | [] => [w]
  | x :: l => if ltL x w = true then x :: insW w l else w :: x :: l
theorem mem_insW {w x : List Int} : ∀ {l : List (List Int)}, x ∈ insW w l ↔ x = w ∨ x ∈ l
  | [] => by simp [insW]
  | y :: l => by
    rw [insW]
    split
    · rw [List.mem_cons, mem_insW (l := l), List.mem_cons]
      constructor
      · rintro (a | a | a)
        · exact .inr (.inl a)
        · exact .inl a
        · exact .inr (.inr a)
      · rintro (a | a | a)
        · exact .inr (.inl a)
        · exact .inl a
        · exact .inr (.inr a)
    · rw [List.mem_cons]
theorem insW_len (w : List Int) : ∀ l : List (List Int), (insW w l).length = l.length + 1
  | [] => rfl
  | y :: l => by
    rw [insW]
    split
    · rw [List.length_cons, insW_len w l, List.length_cons]
    · rfl
theorem insW_sorted {w : List Int} : ∀ {l : List (List Int)}, l.Pairwise (fun a b => ltL a b = true) → (∀ x, x ∈ l → x.length = w.length ∧ x ≠ w) → (insW w l).Pairwise (fun a b => ltL a b = true)
  | [], _, _ => List.pairwise_singleton _ _
  | y :: l, h, hw => by
    rw [List.pairwise_cons] at h
    rw [insW]
    split
    · rename_i hy
      rw [List.pairwise_cons]
      refine ⟨fun z hz => ?_, insW_sorted h.2 fun x hx => hw x (List.mem_cons_of_mem _ hx)⟩
      rcases mem_insW.1 hz with e | e
      · rw [e]; exact hy
      · exact h.1 z e
    · rename_i hy
      have hy : ltL y w = false := by simpa using hy
      obtain ⟨a, b⟩ := hw y (List.mem_cons_self ..)
      have wy := ltL_tri a hy b
      rw [List.pairwise_cons, List.pairwise_cons]
      refine ⟨fun z hz => ?_, h⟩
      rcases List.mem_cons.1 hz with e | e
      · rw [e]; exact wy
      · exact ltL_trans wy (h.1 z e)
theorem insW_cut {w : List Int} : ∀ {l : List (List Int)} {i : Nat}, i ≤ l.length → (∀ j (h : j < l.length), j < i → ltL l[j] w = true) → (∀ h : i < l.length, ltL l[i] w = false) → insW w l = l.take i ++ w :: l.drop i
  | [], i, h, _, _ => by
    have : i = 0 := by simpa using h
    subst this; rfl
  | y :: l, 0, _, _, h => by
    have := h (by simp)
    simp only [List.getElem_cons_zero] at this
    rw [insW, if_neg (by rw [this]; simp)]
    rfl
  | y :: l, i + 1, hi, h1, h2 => by
    have := h1 0 (by simp) (by omega)
    simp only [List.getElem_cons_zero] at this
    rw [insW, if_pos this, insW_cut (l := l) (i := i) (by simpa using hi) (fun j hj hji => h1 (j + 1) (by simpa using hj) (by omega)) fun h => h2 (by simpa using h)]
    rfl
theorem prodL_sorted : ∀ cs : List (List Int), (∀ c, c ∈ cs → c.Pairwise (· < ·)) → (prodL cs).Pairwise fun a b => ltL a b = true
  | [], _ => List.pairwise_singleton _ _
  | c :: cs, h => by
    have ih := prodL_sorted cs fun d hd => h d (List.mem_cons_of_mem _ hd)
    have hc := h c (List.mem_cons_self ..)
    rw [prodL]
    have : ∀ d : List Int, d.Pairwise (· < ·) → (d.flatMap fun x => (prodL cs).map (x :: ·)).Pairwise fun a b => ltL a b = true := by
      intro d
      induction d with
      | nil => intro _; exact List.Pairwise.nil
      | cons x d ihd =>
        intro hd
        rw [List.pairwise_cons] at hd
        rw [List.flatMap_cons, List.pairwise_append]
        refine ⟨?_, ihd hd.2, fun a ha b hb => ?_⟩
        · rw [List.pairwise_map]
          exact ih.imp fun h => by rw [ltL, if_pos rfl]; exact h
        · obtain ⟨a', _, rfl⟩ := List.mem_map.1 ha
          obtain ⟨y, hy, hb'⟩ := List.mem_flatMap.1 hb
          obtain ⟨b', _, rfl⟩ := List.mem_map.1 hb'
          have := hd.1 y hy
          rw [ltL, if_neg (by omega)]
          simpa using this
    exact this c hc
theorem rngI_sorted (n : Nat) : (rngI n).Pairwise (· < ·) := by
  unfold rngI
  rw [List.pairwise_map]
  exact List.pairwise_lt_range.imp fun h => by omega
theorem allRot_sorted (g : List (List Int)) (s : Int) : (allRot g s).Pairwise fun a b => ltL a b = true := by
  refine prodL_sorted _ fun c hc => ?_
  obtain ⟨p, _, rfl⟩ := List.mem_map.1 hc
  unfold cand
  split
  · exact List.pairwise_singleton _ _
  · exact rngI_sorted _
noncomputable def allUni (g : List (List Int)) (p : Int) : List (List Int) := (allRot g (-1)).filter fun rs => uniB g rs p
theorem mem_allRot {g : List (List Int)} {s : Int} {rs : List Int} : rs ∈ allRot g s ↔ rs.length = g.length ∧ ∀ i (h : i < rs.length), rs[i] ∈ cand g s i := by
  unfold allRot
  have ll : ((List.range g.length).map (cand g s)).length = g.length := by rw [List.length_map, List.length_range]
  rw [mem_prodL]
  constructor
  · rintro ⟨a, b⟩
    refine ⟨a.trans ll, fun i h => ?_⟩
    have := b i h (by rw [List.length_map, List.length_range]; omega)
    rw [List.getElem_map, List.getElem_range] at this
    exact this
  · rintro ⟨a, b⟩
    refine ⟨a.trans ll.symm, fun i h1 h2 => ?_⟩
    rw [List.getElem_map, List.getElem_range]
    exact b i h1
theorem cand_ne {g : List (List Int)} {s t : Int} {i : Nat} (h : (i : Int) ≠ s) (h' : (i : Int) ≠ t) : cand g s i = cand g t i := by
  unfold cand
  by_cases e : (g.getD i []).length = 0
  · rw [if_pos (.inr e), if_pos (.inr e)]
  · rw [if_neg (by rintro (a | a); exact h a; exact e a), if_neg (by rintro (a | a); exact h' a; exact e a)]
/-- The unicycles at a place are the trees to it with each rotor of its own. -/
theorem mem_allUni {g : List (List Int)} (hg : graphB g = true) {p : Int} (p0 : 0 ≤ p) (p1 : p < (g.length : Int)) {rs : List Int} : rs ∈ allUni g p ↔ ∃ t k, t ∈ treesL g p ∧ k ∈ rngI (g.getD p.toNat []).length ∧ rs = t.set p.toNat k := by
  have hp : p.toNat < g.length := by omega
  unfold allUni treesL
  rw [List.mem_filter]
  constructor
  · rintro ⟨hr, hu⟩
    have W := (rot_ok (a := p) hg p0 p1 hr).1
    obtain ⟨hz, ht⟩ := (uni_tree W).1 hu
    obtain ⟨l1, l2⟩ := mem_allRot.1 hr
    refine ⟨rs.set p.toNat 0, rs.getD p.toNat 0, List.mem_filter.2 ⟨mem_allRot.2 ⟨by rw [List.length_set]; exact l1, fun i hi => ?_⟩, ht⟩, ?_, ?_⟩
    · rw [List.getElem_set]
      by_cases e : p.toNat = i
      · rw [if_pos e]
        unfold cand
        rw [if_pos (.inl (by omega))]
        exact List.mem_singleton.2 rfl
      · rw [if_neg e, cand_ne (t := -1) (by omega) (by omega)]
        exact l2 i _
    · have := l2 p.toNat (by omega)
      unfold cand at this
      rw [if_neg (by rintro (a | a); omega; exact hz a)] at this
      rw [getD_getI (by omega)]
      exact this
    · rw [List.set_set, getD_getI (by omega), List.set_getElem_self]
  · rintro ⟨t, k, ht, hk, rfl⟩
    rw [List.mem_filter] at ht
    obtain ⟨l1, l2⟩ := mem_allRot.1 ht.1
    have hk' := mem_rngI.1 hk
    have Wt := (rot_ok (a := p) hg p0 p1 ht.1)
    have e0 : t.set p.toNat 0 = t := by
      have := Wt.2 p0
      rw [getD_getI (by omega)] at this
      rw [← this, List.set_getElem_self]
    have hr : t.set p.toNat k ∈ allRot g (-1) := mem_allRot.2 ⟨by rw [List.length_set]; exact l1, fun i hi => by
      rw [List.getElem_set]
      by_cases e : p.toNat = i
      · rw [if_pos e]
        subst e
        unfold cand
        rw [if_neg (by rintro (a | a) <;> omega)]
        exact hk
      · rw [if_neg e, ← cand_ne (s := p) (by omega) (by omega)]
        exact l2 i _⟩
    refine ⟨hr, (uni_tree (rot_ok (a := p) hg p0 p1 hr).1).2 ⟨by omega, ?_⟩⟩
    rw [List.set_set, e0]
    exact ht.2
theorem allUni_sorted (g : List (List Int)) (p : Int) : (allUni g p).Pairwise fun a b => ltL a b = true := List.Pairwise.filter _ (allRot_sorted g _)
def insAll (p : Nat) (ts : List (List Int)) (n : Nat) (out : List (List Int)) : List (List Int) := ts.foldl (fun o t => (rngI n).foldl (fun o k => insW (t.set p k) o) o) out
theorem ins_row {L p : Nat} {t : List Int} (hl : t.length = L) (hp : p < L) : ∀ (ks : List Int) (out : List (List Int)), ks.Nodup → out.Pairwise (fun a b => ltL a b = true) → (∀ x, x ∈ out → x.length = L) → (∀ x, x ∈ out → ∀ k, k ∈ ks → x ≠ t.set p k) →
    (ks.foldl (fun o k => insW (t.set p k) o) out).Pairwise (fun a b => ltL a b = true) ∧ (∀ x, x ∈ ks.foldl (fun o k => insW (t.set p k) o) out ↔ x ∈ out ∨ ∃ k, k ∈ ks ∧ x = t.set p k) ∧ (ks.foldl (fun o k => insW (t.set p k) o) out).length = out.length + ks.length
  | [], out, _, h1, _, _ => ⟨h1, fun x => by simp, by simp⟩
  | k :: ks, out, hd, h1, h2, h3 => by
    rw [List.nodup_cons] at hd
    rw [List.foldl_cons]
    have s1 := insW_sorted (w := t.set p k) h1 fun x hx => ⟨by rw [h2 x hx, List.length_set, hl], h3 x hx k (List.mem_cons_self ..)⟩
    obtain ⟨a, b, c⟩ := ins_row hl hp ks (insW (t.set p k) out) hd.2 s1 (fun x hx => by
      rcases mem_insW.1 hx with e | e
      · rw [e, List.length_set, hl]
      · exact h2 x e) fun x hx j hj => by
      rcases mem_insW.1 hx with e | e
      · rw [e]
        intro hh
        have hp' : p < t.length := by omega
        have e1 : (t.set p k)[p]? = (t.set p j)[p]? := by rw [hh]
        rw [List.getElem?_set, List.getElem?_set, if_pos rfl, if_pos rfl, if_pos hp', if_pos hp'] at e1
        have : k = j := Option.some.inj e1
        exact hd.1 (this ▸ hj)
      · exact h3 x e j (List.mem_cons_of_mem _ hj)
    refine ⟨a, fun x => ?_, by rw [c, insW_len, List.length_cons]; omega⟩
    rw [b x, mem_insW]
    constructor
    · rintro ((h | h) | ⟨j, hj, h⟩)
      · exact .inr ⟨k, List.mem_cons_self .., h⟩
      · exact .inl h
      · exact .inr ⟨j, List.mem_cons_of_mem _ hj, h⟩
    · rintro (h | ⟨j, hj, h⟩)
      · exact .inl (.inr h)
      · rcases List.mem_cons.1 hj with e | e
        · subst e; exact .inl (.inl h)
        · exact .inr ⟨j, e, h⟩
theorem rngI_nodup (n : Nat) : (rngI n).Nodup := (rngI_sorted n).imp fun h => by omega
theorem ins_all {L p n : Nat} (hp : p < L) : ∀ (ts out : List (List Int)), ts.Nodup → (∀ t, t ∈ ts → t.length = L ∧ t.getD p 0 = 0) → out.Pairwise (fun a b => ltL a b = true) → (∀ x, x ∈ out → x.length = L) → (∀ x, x ∈ out → ∀ t, t ∈ ts → ∀ k, k ∈ rngI n → x ≠ t.set p k) →
    (insAll p ts n out).Pairwise (fun a b => ltL a b = true) ∧ (∀ x, x ∈ insAll p ts n out ↔ x ∈ out ∨ ∃ t k, t ∈ ts ∧ k ∈ rngI n ∧ x = t.set p k) ∧ (insAll p ts n out).length = out.length + ts.length * n
  | [], out, _, _, h1, _, _ => ⟨h1, fun x => by simp [insAll], by simp [insAll]⟩
  | t :: ts, out, hd, ht, h1, h2, h3 => by
    rw [List.nodup_cons] at hd
    obtain ⟨t1, t2⟩ := ht t (List.mem_cons_self ..)
    obtain ⟨a, b, c⟩ := ins_row t1 hp (rngI n) out (rngI_nodup n) h1 h2 fun x hx k hk => h3 x hx t (List.mem_cons_self ..) k hk
    have ln : (rngI n).length = n := by simp [rngI]
    obtain ⟨a', b', c'⟩ := ins_all hp ts ((rngI n).foldl (fun o k => insW (t.set p k) o) out) hd.2 (fun u hu => ht u (List.mem_cons_of_mem _ hu)) a (fun x hx => by
      rcases (b x).1 hx with e | ⟨k, _, e⟩
      · exact h2 x e
      · rw [e, List.length_set, t1]) fun x hx u hu k hk => by
      rcases (b x).1 hx with e | ⟨j, hj, e⟩
      · exact h3 x e u (List.mem_cons_of_mem _ hu) k hk
      · rw [e]
        intro hh
        obtain ⟨u1, u2⟩ := ht u (List.mem_cons_of_mem _ hu)
        have e1 := congrArg (fun l : List Int => l.set p 0) hh
        (try simp only at e1)
        rw [List.set_set, List.set_set] at e1
        have z : ∀ v : List Int, v.length = L → v.getD p 0 = 0 → v.set p 0 = v := fun v hv h0 => by
          rw [getD_getI (by omega)] at h0
          rw [← h0, List.set_getElem_self]
        rw [z t t1 t2, z u u1 u2] at e1
        exact hd.1 (e1 ▸ hu)
    refine ⟨a', fun x => ?_, ?_⟩
    · show x ∈ insAll p ts n _ ↔ _
      rw [b' x, b x]
      constructor
      · rintro ((h | ⟨k, hk, h⟩) | ⟨u, k, hu, hk, h⟩)
        · exact .inl h
        · exact .inr ⟨t, k, List.mem_cons_self .., hk, h⟩
        · exact .inr ⟨u, k, List.mem_cons_of_mem _ hu, hk, h⟩
      · rintro (h | ⟨u, k, hu, hk, h⟩)
        · exact .inl (.inl h)
        · rcases List.mem_cons.1 hu with e | e
          · subst e; exact .inl (.inr ⟨k, hk, h⟩)
          · exact .inr ⟨u, k, e, hk, h⟩
    · show (insAll p ts n _).length = _
      rw [c', c, ln, List.length_cons, Nat.succ_mul]
      omega
theorem sorted_nodup {l : List (List Int)} (h : l.Pairwise fun a b => ltL a b = true) : l.Nodup := h.imp fun {a b} hab e => by
  rw [e, ltL_irr] at hab
  cases hab
theorem trees_sorted (g : List (List Int)) (s : Int) : (treesL g s).Pairwise fun a b => ltL a b = true := List.Pairwise.filter _ (allRot_sorted g s)
theorem ins_uni {g : List (List Int)} (hg : graphB g = true) {p : Int} (p0 : 0 ≤ p) (p1 : p < (g.length : Int)) : insAll p.toNat (treesL g p) (g.getD p.toNat []).length [] = allUni g p ∧ (allUni g p).length = (treesL g p).length * (g.getD p.toNat []).length := by
  obtain ⟨a, b, c⟩ := ins_all (L := g.length) (p := p.toNat) (n := (g.getD p.toNat []).length) (by omega) (treesL g p) [] (sorted_nodup (trees_sorted g p)) (fun t ht => by
    unfold treesL at ht
    rw [List.mem_filter] at ht
    exact ⟨(mem_allRot.1 ht.1).1, (rot_ok (a := p) hg p0 p1 ht.1).2 p0⟩) List.Pairwise.nil (fun x hx => by simp at hx) fun x hx => by simp at hx
  have e : insAll p.toNat (treesL g p) (g.getD p.toNat []).length [] = allUni g p := sorted_ext a (allUni_sorted g p) fun x => by
    rw [b x, mem_allUni hg p0 p1]
    simp
  refine ⟨e, ?_⟩
  rw [← e, c]
  simp

theorem RdR.tl2 {S : Nat → Prop} {h : Heap} {s : Sl} {xss : List (List Int)} (H : RdR S h s xss) (h1 : 1 ≤ xss.length) : RdR S h (s.cut 1 1 s.n s.c) xss.tail := by
  obtain ⟨ss, e, h2, h3⟩ := H.out
  have sn := H.len
  have c := RdV.cut h2 (l := 1) (m := s.n) (by omega) (Nat.le_refl _)
  have ec : ((ss.map Sl.v).drop (1 * 1)).take ((s.n - 1) * 1) = ss.tail.map Sl.v := by
    rw [List.take_of_length_le (by simp; omega)]
    cases ss <;> rfl
  rw [ec] at c
  refine ⟨ss.tail, by simp [e], c, fun i a b => ?_⟩
  have := h3 (i + 1) (by simp at a; omega) (by simp at b; omega)
  simpa using this
theorem eop_erase {L : List (Nat × List Value)} {S : Nat → Prop} {h : Heap} {s : Sl} {xs : List Int} (R : RdI S h s xs) {k : Int} (k0 : 0 ≤ k) (k1 : k < (xs.length : Int)) (hb : xs.length ≤ 1000000) (hL : Vars h L) (C : Sl → Heap → Prop) (HC : ∀ t h', OwI h' (fun q => h.size ≤ q) t (xs.eraseIdx k.toNat) → Fr No h h' → Vars h' L → C t h') :
    pop Try.prog (Instr.sliceAt tIs s.v none (some (VI k)) none) fun rv => ∃ a : Sl, rv = a.v ∧ pop Try.prog (Instr.sliceAt tIs s.v (some (VI (w64 (k + 1)))) none none) fun rv => ∃ b : Sl, rv = b.v ∧ callM Try.prog 87 #[a.v] h fun rv h1 => ∃ c : Sl, rv = c.v ∧ Vars h1 L ∧ eop Try.prog (appS tIs tIs tIs c.v b.v) h1 fun rv2 h2 => ∃ d : Sl, rv2 = d.v ∧ Vars h2 L ∧ C d h2 := by
  have sn := RdI.len R
  have sc := RdV.cap R
  have kw : w64 (k + 1) = k + 1 := w64_eq _ (by omega) (by omega)
  rw [kw]
  refine pop_cut_h rIs .i64 k0 (by omega) ⟨_, rfl, pop_cut_l rIs .i64 (by omega) (by omega) ⟨_, rfl, ?_⟩⟩
  have r1 := RdI.cut R (l := 0) (m := k.toNat) (Nat.zero_le _) (by omega)
  have r2 := RdI.cut R (l := (k + 1).toNat) (m := s.n) (by omega) (by omega)
  rw [List.drop_zero, Nat.sub_zero] at r1
  rw [List.take_of_length_le (by rw [List.length_drop]; omega)] at r2
  refine k_l1Own r1 (by rw [List.length_take]; omega) _ fun c h1 o1 f1 => ⟨c, rfl, hL.of_no f1, ?_⟩
  have cn : c.n = (xs.take k.toNat).length := by have := o1.len; simp at this; simp; omega
  have dn : (s.cut 1 (k + 1).toNat s.n s.c).n = s.n - (k + 1).toNat := rfl
  have z1 := f1.size
  have pv : ((xs.drop (k + 1).toNat).map VI).all plainV = true := by rw [List.all_map, List.all_eq_true]; intro x _; rfl
  refine eop_append rIs (o1.mono (F' := fun q => h.size ≤ q) fun q _ hq => hq.1) (fun q hq => by omega) (RdV.no r2 f1) pv (by rw [cn, dn, List.length_take]; omega) fun d h2 hd o2 f2 m2 => ⟨d, rfl, ?_, ?_⟩
  · exact (hL.of_no f1).fr f2 fun p hp ho => by
      have := (hL.mem p hp).lt
      have := (Ow.foot o1 ho).1.1
      omega
  · rw [← List.map_append] at o2
    refine HC d h2 ?_ ((f1.of_no.trans (f2.mono fun q _ hq => (Ow.foot o1 hq).1)).mono fun q hq hq2 => absurd hq2.1 (by omega)) ?_
    · rw [List.eraseIdx_eq_take_drop_succ, show k.toNat + 1 = (k + 1).toNat by omega]
      exact o2
    · exact (hL.of_no f1).fr f2 fun p hp ho => by
        have := (hL.mem p hp).lt
        have := (Ow.foot o1 ho).1.1
        omega

theorem mat_rest {xss : List (List Int)} {n k : Nat} (Q : Sq (n + 1) xss) (hk : k < n + 1) : Sq n (xss.tail.map fun r => r.eraseIdx k) ∧ ∀ i j, i < n → j < n → matL (xss.tail.map fun r => r.eraseIdx k) i j = matL xss (i + 1) (skp k j) := by
  have ln := Q.len
  have hr : ∀ i (h : i < xss.tail.length), xss.tail[i] = xss[i + 1]'(by rw [List.length_tail] at h; omega) := fun i h => by rw [List.getElem_tail]
  refine ⟨⟨by simp; omega, fun i hi => ?_⟩, fun i j hi hj => ?_⟩
  · rw [List.length_map] at hi
    rw [List.getElem_map, hr i hi, List.length_eraseIdx, Q.row]
    rw [if_pos hk]
    omega
  · have hi' : i < xss.tail.length := by rw [List.length_tail]; omega
    have h1 : i + 1 < xss.length := by omega
    have e2 := Q.row (i + 1) h1
    have hs : skp k j < (xss[i + 1]'h1).length := by unfold skp; split <;> omega
    rw [matL_get h1 hs, matL_get (by rw [List.length_map]; exact hi') (by rw [List.getElem_map, hr i hi', List.length_eraseIdx, e2, if_pos hk]; omega)]
    have : ((xss.tail.map fun r => r.eraseIdx k)[i]'(by rw [List.length_map]; exact hi')) = (xss[i + 1]'h1).eraseIdx k := by rw [List.getElem_map, hr i hi']
    have e3 : ((xss.tail.map fun r => r.eraseIdx k)[i]'(by rw [List.length_map]; exact hi'))[j]? = (xss[i + 1]'h1)[skp k j]? := by
      rw [this, List.getElem?_eraseIdx]
      unfold skp
      split <;> rfl
    rw [List.getElem?_eq_getElem (by rw [List.getElem_map, hr i hi', List.length_eraseIdx, e2, if_pos hk]; omega), List.getElem?_eq_getElem hs] at e3
    exact Option.some.inj e3
theorem sgn_w (k : Nat) : w64 (0 - sgn k) = sgn (k + 1) := by
  rw [sgn_succ]
  unfold sgn
  split <;> rfl
theorem det_part {n : Nat} {A : Mat} (h : ∀ i j, i < n + 1 → j < n + 1 → (A i j).natAbs ≤ 10) {t : Nat} (ht : t ≤ n + 1) : (sumZ (fun k => sgn k * A 0 k * det n (fun i j => A (i + 1) (skp k j))) t).natAbs ≤ dbN (n + 1) := by
  have := sumZ_bound (f := fun k => sgn k * A 0 k * det n (fun i j => A (i + 1) (skp k j))) (b := 10 * dbN n) (n := t) fun k hk => by
    (try simp only)
    rw [Int.natAbs_mul, Int.natAbs_mul, sgn_abs, Nat.one_mul]
    exact Nat.mul_le_mul (h 0 k (by omega) (by omega)) (det_bound fun i j hi hj => h (i + 1) (skp k j) (by omega) (by unfold skp; split <;> omega))
  rw [dbN, Nat.mul_assoc]
  exact Nat.le_trans this (Nat.mul_le_mul_right _ ht)
theorem k_trDet : ∀ (n : Nat) {S : Nat → Prop} {h : Heap} {s : Sl} {xss : List (List Int)} (M : RdR S h s xss) (Q : Sq n xss) (hn : n ≤ 7) (hb : Small n (matL xss)), Ret Try.prog 84 #[s.v] h (VI (det n (matL xss)))
  | 0, S, h, s, xss, M, Q, _, _ => by
    intro K HK
    have sn := M.len
    have ln := Q.len
    refine v84 s h K ⟨fun _ => HK h (Fr.refl _ _), fun e => ?_⟩
    simp only [decide_eq_false_iff_not] at e
    omega
  | n + 1, S, h, s, xss, M, Q, hn, hb => by
    intro K HK
    have sn := M.len
    have ln := Q.len
    refine v84 s h K ⟨fun e => ?_, fun _ => ?_⟩
    · simp only [decide_eq_true_eq] at e
      omega
    obtain ⟨s0, c0, r0⟩ := M.get (i := 0) (Int.le_refl _) (by omega)
    have l0 := Q.row 0 (by omega)
    have r0 : RdI S h s0 (xss[0]'(by omega)) := r0
    have s0n := RdI.len r0
    refine ⟨M.inb (Int.le_refl _) (by omega), s0, c0, ?_⟩
    have pb : ∀ t, t ≤ n + 1 → (sumZ (fun k => sgn k * matL xss 0 k * det n (fun i j => matL xss (i + 1) (skp k j))) t).natAbs ≤ 50400000000 := fun t ht => Nat.le_trans (det_part hb ht) (Nat.le_trans (dbN_le (show n + 1 ≤ 7 by omega)) (by rw [dbN7]; exact Nat.le_refl _))
    refine ⟨fun m sm sg t h' => 0 ≤ t ∧ t + m = ((n + 1 : Nat) : Int) ∧ sm = sumZ (fun k => sgn k * matL xss 0 k * det n (fun i j => matL xss (i + 1) (skp k j))) t.toNat ∧ sg = sgn t.toNat ∧ Fr No h h', ⟨n + 1, Int.le_refl _, by omega, rfl, rfl, Fr.refl _ _⟩, ?_⟩
    rintro m sm sg t h1 ⟨t0, t1, rfl, rfl, f1⟩ hL1
    have M1 := M.no f1
    have r1 := RdI.no r0 f1
    refine ⟨fun e => ?_, fun e => ?_⟩
    · have ht := r1.lt e
      have htn : t.toNat < n + 1 := by omega
      have e00 : (xss[0]'(by omega))[t.toNat]'(by omega) = matL xss 0 t.toNat := (matL_get (by omega) (by omega)).symm
      have hx := abs_le (hb 0 t.toNat (by omega) htn)
      have tw : w64 (t + 1) = t + 1 := w64_eq _ (by omega) (by omega)
      have nxt : ∀ (x : Int) h', x = sumZ (fun k => sgn k * matL xss 0 k * det n (fun i j => matL xss (i + 1) (skp k j))) (t.toNat + 1) → Fr No h h' → ∃ m' : Nat, m' < m ∧ 0 ≤ w64 (t + 1) ∧ w64 (t + 1) + m' = ((n + 1 : Nat) : Int) ∧ x = sumZ (fun k => sgn k * matL xss 0 k * det n (fun i j => matL xss (i + 1) (skp k j))) (w64 (t + 1)).toNat ∧ w64 (0 - sgn t.toNat) = sgn (w64 (t + 1)).toNat ∧ Fr No h h' := fun x h' hx f => by
        rw [tw, show (t + 1).toNat = t.toNat + 1 by omega]
        exact ⟨m - 1, by omega, by omega, by omega, hx, sgn_w _, f⟩
      refine ⟨r1.inb t0 ht, _, r1.get t0 ht, fun x h' => x = sumZ (fun k => sgn k * matL xss 0 k * det n (fun i j => matL xss (i + 1) (skp k j))) (t.toNat + 1) ∧ Fr No h h', ⟨fun e2 => ?_, fun e2 => ?_⟩, fun x h' hx hL' => nxt x h' hx.1 hx.2⟩
      · rw [e00]
        refine pop_cut_l rIss .i64 (show (0 : Int) ≤ 1 by omega) (by omega) ⟨_, rfl, ?_⟩
        have T1 := RdR.tl2 M1 (by omega)
        have tln : xss.tail.length = n := by rw [List.length_tail]; omega
        have T1n : (s.cut 1 1 s.n s.c).n = n := by rw [T1.len, tln]
        have no_ : ∀ {x : Heap}, Fr (fun k => h1.size ≤ k) h1 x → Fr No h1 x := fun f => f.mono fun k hk hk2 => absurd hk2 (by omega)
        refine ⟨fun m2 r j h' => 0 ≤ j ∧ j + m2 = (n : Int) ∧ OwX h' (fun q => h1.size ≤ q) r ((xss.tail.take j.toNat).map fun l => l.eraseIdx t.toNat) ∧ Fr (fun q => h1.size ≤ q) h1 h', ⟨n, Int.le_refl _, by omega, OwR.nil _ _ _ _, Fr.refl _ _⟩, ?_⟩
        rintro m2 r j h2 ⟨j0, j1, o2, f2⟩ hL2
        have T2 := T1.no (no_ f2)
        refine ⟨fun e3 => ?_, fun e3 => ?_⟩
        · have hj := T2.lt e3
          obtain ⟨sj, cj, rj⟩ := T2.get j0 hj
          have lj : (xss.tail[j.toNat]'(by omega)).length = n + 1 := by rw [List.getElem_tail]; exact Q.row _ (by omega)
          refine ⟨T2.inb j0 hj, sj, cj, eop_erase rj t0 (by omega) (by omega) .nil _ fun d h4 o4 f4 V4 => ?_⟩
          have z4 := f4.size
          refine eop_putR (lo := h1.size) (m := h2.size) (OwR.toIv o2 |>.no f4) o4 f2.size z4 .nil (fun p hp => by simp at hp) (by rw [List.length_map, List.length_take]; omega) _ fun t2 h5 o5 f5 V5 => ?_
          rw [w64_eq (j + 1) (by omega) (by omega)]
          refine ⟨m2 - 1, by omega, by omega, by omega, ?_, (f2.trans f4.of_no).trans f5⟩
          rw [take_snoc _ j0 hj, List.map_append, List.map_cons, List.map_nil]
          exact o5
        · have hj := T2.ge e3
          rw [List.take_of_length_le (by omega)] at o2
          obtain ⟨Qr, er⟩ := mat_rest Q htn
          have hbr : Small n (matL (xss.tail.map fun r => r.eraseIdx t.toNat)) := fun i j hi hj => by rw [er i j hi hj]; exact hb _ _ (by omega) (by unfold skp; split <;> omega)
          refine k_trDet n (OwR.rd o2) Qr (by omega) hbr _ fun h7 f7 => ⟨_, rfl, .nil, ?_, f1.no_trans ((no_ f2).no_trans f7)⟩
          rw [det_congr er]
          rw [sumZ]
          have b1 := abs_le (pb t.toNat (by omega))
          have b2 := abs_le (pb (t.toNat + 1) (by omega))
          rw [sumZ] at b2
          have b3 : -10 ≤ sgn t.toNat * matL xss 0 t.toNat ∧ sgn t.toNat * matL xss 0 t.toNat ≤ 10 := by
            unfold sgn
            split <;> omega
          rw [w64_eq (sgn t.toNat * matL xss 0 t.toNat) (by omega) (by omega)]
          generalize sgn t.toNat * matL xss 0 t.toNat * det n (fun i j => matL xss (i + 1) (skp t.toNat j)) = y at b2 ⊢
          generalize sumZ (fun k => sgn k * matL xss 0 k * det n (fun i j => matL xss (i + 1) (skp k j))) t.toNat = z at b1 b2 ⊢
          rw [w64_eq y (by omega) (by omega), w64_eq (z + y) (by omega) (by omega)]
      · rw [e00] at e2
        simp only [Bool.not_eq_false', decide_eq_true_eq] at e2
        refine ⟨?_, f1⟩
        rw [sumZ, e2]
        simp
    · have ht := r1.ge e
      have : t.toNat = n + 1 := by omega
      rw [this]
      exact HK h1 f1

theorem k_trLaplace {S : Nat → Prop} {h : Heap} {g : Sl} {xss : List (List Int)} (G : RdR S h g xss) (hg : graphB xss = true) {s : Int} (s0 : 0 ≤ s) (s1 : s < (xss.length : Int)) (K : Value → Heap → Prop) (HK : ∀ t h', OwX h' (Iv h.size h'.size) t (lapL xss s) → Fr No h h' → K t.v h') : callM Try.prog 85 #[.agg #[g.v], VI s] h K := by
  refine v85 g s h K fun b1 h1 hb1 f1 hL1 => ?_
  have f1 := f1.in_nil
  have z1 := f1.size
  have l1 : b1 < h1.size := hL1.head.lt
  have gl := graph_len hg
  have gn := G.len
  have no_ : ∀ {x : Heap}, Fr (fun k => h.size ≤ k) h x → Fr No h x := fun f => f.mono fun k hk hk2 => absurd hk2 (by omega)
  refine ⟨fun m x p h' => 0 ≤ p ∧ p + m = (xss.length : Int) ∧ OwX h' (fun k => h1.size ≤ k) x (((List.range p.toNat).filter (notS s)).map (lapRow xss s)) ∧ Fr (fun k => h.size ≤ k) h h' ∧ h1.size ≤ h'.size, ⟨xss.length, Int.le_refl _, by omega, OwR.nil _ _ _ _, f1.of_no, Nat.le_refl _⟩, ?_⟩
  rintro m x p h3 ⟨p0, p1, o3, f3, z3⟩ hL3
  have g3 := no_ f3
  refine ⟨fun e => ?_, fun e => ?_⟩
  · have hp := G.lt e
    have G3 := G.no g3
    obtain ⟨sp, cp, rp⟩ := G3.get p0 hp
    have pl := rp.len
    have eg : xss.getD p.toNat [] = xss[p.toNat]'(by omega) := getD_get (by omega)
    have gm := graph_mem hg (List.getElem_mem (show p.toNat < xss.length by omega))
    rw [G.succ p0 hp]
    refine ⟨G3.inb p0 hp, sp, cp, fun e2 => ?_, fun e2 => ?_⟩
    · simp only [decide_eq_true_eq] at e2
      refine ⟨m - 1, by omega, by omega, by omega, ?_, f3, z3⟩
      rw [show (p + 1).toNat = p.toNat + 1 by omega, List.range_succ, List.filter_append, List.filter_cons_of_neg (notS_f (by omega)), List.filter_nil, List.append_nil]
      exact o3
    simp only [decide_eq_false_iff_not] at e2
    refine eop_make rIs (fun k => h3.size ≤ k) (fun _ h => h) .i64 .i64 g.n g.n (Nat.le_refl _) (by omega) fun t h4 n4 c4 o4 f4 m4 _ => ⟨t, rfl, hL3.of_no f4, ?_⟩
    have z4 := f4.size
    have o4 : OwI h4 (fun k => h3.size ≤ k) t (List.replicate xss.length 0) := by
      have e : (List.replicate g.n [VI 0]).flatten = (List.replicate xss.length (0 : Int)).map VI := by rw [gn]; simp [List.flatten_replicate_singleton]
      rw [e] at o4; exact o4
    refine int_set (L := [(b1, [g.v])]) (F := fun k => h3.size ≤ k) o4 p0 (by rw [List.length_replicate]; omega) (hL3.of_no f4) (fun q hq => by
      simp only [List.mem_cons, List.not_mem_nil, or_false] at hq
      subst hq; show ¬ h3.size ≤ b1; omega) _ fun h5 o5 f5 V5 => ?_
    rw [pl, ← rowV_start (by omega)] at o5
    have f35 := (f4.of_no (T := fun k => h3.size ≤ k)).trans f5
    refine ⟨fun m2 j h' => 0 ≤ j ∧ j + m2 = ((xss[p.toNat]'(by omega)).length : Int) ∧ OwI h' (fun k => h3.size ≤ k) t (rowV xss.length p.toNat (xss[p.toNat]'(by omega)).length ((xss[p.toNat]'(by omega)).take j.toNat)) ∧ Fr (fun k => h3.size ≤ k) h3 h', ⟨(xss[p.toNat]'(by omega)).length, Int.le_refl _, by omega, by simpa using o5, f35⟩, ?_⟩
    rintro m2 j h6 ⟨j0, j1, o6, f6⟩ hL6
    have r6 := (rp.low.fr f6 fun k hk hk2 => by omega)
    refine ⟨fun e3 => ?_, fun e3 => ?_⟩
    · have hj := r6.lt e3
      have hv := gm.2 _ (List.getElem_mem (show j.toNat < (xss[p.toNat]'(by omega)).length by omega))
      have R6 := o6.rdF
      have rl := rowV_len xss.length p.toNat (xss[p.toNat]'(by omega)).length ((xss[p.toNat]'(by omega)).take j.toNat)
      have hvl : (xss[p.toNat]'(by omega))[j.toNat]'(by omega) < ((rowV xss.length p.toNat (xss[p.toNat]'(by omega)).length ((xss[p.toNat]'(by omega)).take j.toNat)).length : Int) := by rw [rl]; omega
      refine ⟨r6.inb j0 hj, _, r6.get j0 hj, RdI.inb R6 hv.1 hvl, _, RdI.get R6 hv.1 hvl, int_set (L := [(b1, [g.v])]) (F := fun k => h3.size ≤ k) o6 hv.1 hvl hL6 (fun q hq => by
        simp only [List.mem_cons, List.not_mem_nil, or_false] at hq
        subst hq; show ¬ h3.size ≤ b1; omega) _ fun h7 o7 f7 V7 => ?_⟩
      rw [RdI.succ r6 j0 hj]
      refine ⟨m2 - 1, by omega, by omega, by omega, ?_, f6.trans f7⟩
      rw [take_snoc _ j0 hj, rowV_step hv.1 hv.2, getD_getI (show ((xss[p.toNat]'(by omega))[j.toNat]'(by omega)).toNat < (rowV xss.length p.toNat (xss[p.toNat]'(by omega)).length ((xss[p.toNat]'(by omega)).take j.toNat)).length by omega)]
      have hb : w64 ((rowV xss.length p.toNat (xss[p.toNat]'(by omega)).length ((xss[p.toNat]'(by omega)).take j.toNat))[((xss[p.toNat]'(by omega))[j.toNat]'(by omega)).toNat]'(by omega) - 1) = (rowV xss.length p.toNat (xss[p.toNat]'(by omega)).length ((xss[p.toNat]'(by omega)).take j.toNat))[((xss[p.toNat]'(by omega))[j.toNat]'(by omega)).toNat]'(by omega) - 1 := by
        rw [rowV_get]
        have ob := occ_bound ((((xss[p.toNat]'(by omega))[j.toNat]'(by omega)).toNat : Nat) : Int) ((xss[p.toNat]'(by omega)).take j.toNat)
        rw [List.length_take] at ob
        have := gm.1
        exact w64_eq _ (by split <;> omega) (by split <;> omega)
      rw [hb] at o7
      exact o7
    · have hj := r6.ge e3
      rw [List.take_of_length_le (by omega)] at o6
      refine eop_erase o6.rdF s0 (by rw [rowV_len]; omega) (by rw [rowV_len]; omega) hL6 _ fun t8 h8 o8 f8 V8 => ?_
      have f8' : Fr (fun k => h3.size ≤ k) h6 h8 := f8.of_no
      have z6 := f6.size
      have o8 := o8.mono (F' := fun k => h3.size ≤ k) fun k _ hk => by omega
      have f38 := f6.trans f8'
      have z8 := f38.size
      have hL8 : Vars h8 [(b1, [g.v])] := V8
      refine eop_putR (lo := h1.size) (m := h3.size) (OwR.fr (OwR.toIv o3) f38 fun k hk hk2 hk3 => by have := hk2.2; omega) o8 z3 z8 hL8 (fun q hq => by
        simp only [List.mem_cons, List.not_mem_nil, or_false] at hq
        subst hq; exact l1) (by
          rw [List.length_map]
          have := List.length_filter_le (notS s) (List.range p.toNat)
          rw [List.length_range] at this
          omega) _ fun t2 h10 o10 f10 V10 => ?_
      refine ⟨m - 1, by omega, by omega, by omega, ?_, (f3.trans (f38.mono fun k _ hk => by omega)).trans (f10.mono fun k _ hk => by omega), by have := f10.size; omega⟩
      rw [show (p + 1).toNat = p.toNat + 1 by omega, List.range_succ, List.filter_append, List.filter_cons_of_pos (notS_t.2 (by omega)), List.filter_nil, List.map_append, List.map_cons, List.map_nil]
      have el : lapRow xss s p.toNat = (rowV xss.length p.toNat (xss[p.toNat]'(by omega)).length (xss[p.toNat]'(by omega))).eraseIdx s.toNat := by unfold lapRow; rw [eg]
      rw [el]
      exact o10
  · have hp := G.ge e
    have ep : p.toNat = xss.length := by omega
    rw [ep] at o3
    exact HK x h3 (o3.mono fun k hk hk2 => ⟨by omega, hk⟩) g3

theorem k_loops {S S' : Nat → Prop} {h : Heap} {b : Nat} {g r f : Sl} {xss : List (List Int)} {rs : List Int} {a s mo : Int} (V : IsVar h b [g.v, VI s, r.v, f.v, VI mo]) (G : RdR S h g xss) (H : RdI S' h r rs) (W : WOK xss (rs, a)) {p : Int} (p0 : 0 ≤ p) (p1 : p < (xss.length : Int)) (K : Value → Heap → Prop) (HK : ∀ h', Fr No h h' → K (VB (lpB xss s rs p)) h') : callM Try.prog 133 #[VP b 0, VI p] h K := by
  have gn := G.len
  have gl := graph_len W.graph
  refine v133 b g s r f mo p h K (.cons V (by simp) .nil) ⟨fun m q n6 h' => 0 ≤ n6 ∧ n6 + m = (xss.length : Int) + 1 ∧ 0 ≤ q ∧ q < (xss.length : Int) ∧ lpB xss s rs p = lpG xss s rs p m q ∧ Fr No h h', ⟨xss.length + 1, Int.le_refl _, by omega, p0, p1, rfl, Fr.refl _ _⟩, ?_⟩
  rintro m q n6 h1 ⟨n0, n1, q0, q1, el, f1⟩ hL1
  refine ⟨fun e => ?_, fun e => ?_⟩
  · simp only [decide_eq_true_eq] at e
    obtain ⟨k, rfl⟩ : ∃ k, m = k + 1 := ⟨m - 1, by omega⟩
    rw [lpG] at el
    refine ⟨fun e2 => ?_, fun e2 => ⟨fun e3 => ?_, fun e3 => ?_⟩⟩
    · simp only [decide_eq_true_eq] at e2
      rw [if_pos (.inl e2)] at el
      rw [← el]
      exact HK h1 f1
    · simp only [decide_eq_true_eq] at e3
      rw [if_pos (.inr e3)] at el
      rw [← el]
      exact HK h1 f1
    · simp only [decide_eq_false_iff_not] at e2 e3
      rw [if_neg (by rintro (x | x); exact e2 x; exact e3 x)] at el
      refine k_trNext (G.no f1) (RdI.no H f1) W q0 q1 _ fun h2 f2 => ⟨_, rfl, hL1.of_no f2, fun e4 => ?_, fun e4 => ?_⟩
      · simp only [decide_eq_true_eq] at e4
        rw [if_pos e4] at el
        rw [← el]
        exact HK h2 (f1.no_trans f2)
      · simp only [decide_eq_false_iff_not] at e4
        rw [if_neg e4] at el
        rw [w64_eq _ (by omega) (by omega)]
        exact ⟨k, by omega, by omega, by omega, by omega, (nx_lt W q1).2, el, f1.no_trans f2⟩
  · simp only [decide_eq_false_iff_not] at e
    have : m = 0 := by omega
    subst this
    rw [show lpG xss s rs p 0 q = true from rfl] at el
    rw [← el]
    exact HK h1 f1

theorem set_self {rs : List Int} {p : Nat} (h : p < rs.length) (e : rs[p] = 0) : rs.set p 0 = rs := by rw [← e]; exact List.set_getElem_self h
theorem wok_set {g : List (List Int)} {rs : List Int} {a c : Int} (W : WOK g (rs, a)) {p : Nat} (h : p < g.length) (c0 : 0 ≤ c) (c1 : c ≤ max ((g[p].length : Int) - 1) 0) : WOK g (rs.set p c, a) := ⟨W.graph, by simpa using W.len, W.lo, W.hi, fun i x y => by
  (try simp only at x ⊢)
  rw [List.getElem_set]
  split
  · rename_i e; subst e; exact ⟨c0, c1⟩
  · exact W.rot i (by rw [List.length_set] at x; exact x) y⟩
theorem getD_set_ne {rs : List Int} {p i : Nat} {c : Int} (h : i ≠ p) : (rs.set p c).getD i 0 = rs.getD i 0 := by
  rw [List.getD_eq_getElem?_getD, List.getElem?_set, if_neg fun e => h e.symm, List.getD_eq_getElem?_getD]
theorem rngI_snoc (k : Nat) : rngI (k + 1) = rngI k ++ [(k : Int)] := by unfold rngI; rw [List.range_succ, List.map_append]; rfl
theorem k_look : ∀ (d : Nat) {S R : Nat → Prop} {h : Heap} {b lo : Nat} {g r f : Sl} {xss found : List (List Int)} {rs : List Int} {a s : Int} {p mo : Nat} (V : IsVar h b [g.v, VI s, r.v, f.v, VI mo]) (G : RdR S h g xss) (H : OwI h R r rs) (O : OwX h (fun k => lo ≤ k) f found) (W : WOK xss (rs, a)) (hS : ∀ k, S k → k ≠ b ∧ ¬ R k ∧ k < lo) (hR : ∀ k, R k → k ≠ b ∧ k < lo) (hb : b < lo) (hlo : lo ≤ h.size)
    (s0 : 0 ≤ s) (s1 : s < (xss.length : Int)) (hd : p + d = xss.length) (hz : ∀ i (hi : i < rs.length), p ≤ i → rs[i] = 0) (hn : ∀ i : Nat, i < p → (i : Int) ≠ s → lpB xss s rs i = false) (hf : found.length ≤ mo + 1) (hm : mo ≤ 1000) (K : Value → Heap → Prop)
    (HK : ∀ h' f', IsVar h' b [g.v, VI s, r.v, Sl.v f', VI mo] → OwI h' R r rs → OwX h' (fun k => lo ≤ k) f' ((found ++ ptL xss s rs p).take (mo + 1)) → Fr (fun k => k = b ∨ R k ∨ lo ≤ k) h h' → K (.tuple #[]) h'), callM Try.prog 115 #[VP b 0, VI p] h K := by
  intro d
  induction d using Nat.strongRecOn with
  | ind d ih =>
  intro S R h b lo g r f xss found rs a s p mo V G H O W hS hR hb hlo s0 s1 hd hz hn hf hm K HK
  have gn := G.len
  have gl := graph_len W.graph
  have on := O.len
  have rl : rs.length = xss.length := W.len
  refine v115 b g s r f mo p h K (.cons V (by simp) .nil) ⟨fun e => ?_, fun e => ⟨fun e2 => ?_, fun e2 => ⟨fun e3 => ?_, fun e3 => ?_⟩⟩⟩
  · simp only [decide_eq_true_eq] at e
    refine HK h f V H ?_ (Fr.refl _ _)
    rw [List.take_append_of_le_length (by omega), List.take_of_length_le (by omega)]
    exact O
  · simp only [decide_eq_false_iff_not] at e
    simp only [decide_eq_true_eq] at e2
    have ep : p = xss.length := by omega
    subst ep
    refine k_l1Own H.rdF (by omega) _ fun t h1 o1 f1 => ⟨t, rfl, .cons (V.fr f1 fun x => x) (by simp) .nil, ?_⟩
    refine eop_putR (lo := lo) (m := h.size) (OwR.toIv O |>.no f1) (o1.mono fun k _ hk => hk.1) hlo f1.size (L := [(b, [g.v, VI s, r.v, f.v, VI mo])]) (.cons (V.fr f1 fun x => x) (by simp) .nil) (fun q hq => by
      simp only [List.mem_cons, List.not_mem_nil, or_false] at hq
      subst hq; exact hb) (by omega) _ fun t2 h3 o3 f3 V3 => ?_
    intro h4 f4 hL4
    have fb : Fr (fun k => k = b ∨ R k ∨ lo ≤ k) h3 h4 := f4.mono fun k _ hk => .inl (by simpa [In] using hk)
    have f13 : Fr (fun k => k = b ∨ R k ∨ lo ≤ k) h h3 := f1.of_no.trans (f3.mono fun k _ hk => .inr (.inr hk))
    refine HK h4 t2 hL4.head ?_ ?_ (f13.trans fb)
    · refine Ow.fr (Ow.fr (Ow.no H f1) f3 fun k hk hk2 => ?_) f4 fun k hk hk2 => ?_
      · have := (hR k (Ow.foot H hk).1).2; omega
      · exact (hR k (Ow.foot H hk).1).1 (by simpa [In] using hk2)
    · rw [ptL_end rl, lp_tree W s0 fun i hi his => hn i hi his, if_pos rfl, List.take_of_length_le (by simp; omega)]
      exact OwR.fr o3 f4 fun k _ hk hk2 => by
        have : k = b := by simpa [In] using hk2
        omega
  · simp only [decide_eq_false_iff_not] at e e2
    simp only [decide_eq_true_eq] at e3
    have pw : w64 ((p : Int) + 1) = ((p + 1 : Nat) : Int) := by rw [w64_eq _ (by omega) (by omega)]; omega
    rw [pw]
    have hp : p < xss.length := by omega
    have rp := hz p (by omega) (Nat.le_refl _)
    refine ih (d - 1) (by omega) V G H O W hS hR hb hlo s0 s1 (by omega) (fun i hi hpi => hz i hi (by omega)) (fun i hi his => hn i (by omega) his) hf hm _ fun h5 f5 V5 H5 O5 F5 => ⟨g, s, r, f5, mo, .cons V5 (by simp) .nil, ?_⟩
    refine HK h5 f5 V5 H5 ?_ F5
    rw [ptL_step rl hp]
    have hc : cand xss s p = [0] := by unfold cand; rw [if_pos (.inl e3)]
    rw [hc, List.flatMap_cons, List.flatMap_nil, List.append_nil, set_self (by omega) rp]
    exact O5
  · simp only [decide_eq_false_iff_not] at e e2 e3
    have hp : p < xss.length := by omega
    have rp := hz p (by omega) (Nat.le_refl _)
    obtain ⟨sp, cp, rp'⟩ := G.get (i := (p : Int)) (by omega) (by omega)
    have spl : sp.n = xss[p].length := rp'.len
    have gm := graph_mem W.graph (List.getElem_mem hp)
    have ge : xss[((p : Nat) : Int).toNat]'(by omega) = xss[p] := rfl
    have pw : w64 ((p : Int) + 1) = ((p + 1 : Nat) : Int) := by rw [w64_eq _ (by omega) (by omega)]; omega
    refine ⟨G.inb (by omega) (by omega), sp, cp, fun m k x6 x7 x8 x9 x10 h' => x6 = g ∧ x7 = s ∧ x8 = r ∧ x10 = (mo : Int) ∧ 0 ≤ k ∧ k + m = (xss[p].length : Int) ∧ (∃ c, OwI h' R r (rs.set p c)) ∧ OwX h' (fun k => lo ≤ k) x9 ((found ++ (rngI k.toNat).flatMap fun j => ptL xss s (rs.set p j) (p + 1)).take (mo + 1)) ∧ Fr (fun k => k = b ∨ R k ∨ lo ≤ k) h h', ⟨xss[p].length, rfl, rfl, rfl, rfl, Int.le_refl _, by omega, ⟨0, by rw [set_self (by omega) rp]; exact H⟩, ?_, Fr.refl _ _⟩, ?_⟩
    · have : rngI (0 : Int).toNat = [] := rfl
      rw [this, List.flatMap_nil, List.append_nil, List.take_of_length_le hf]
      exact O
    rintro m k x6 x7 x8 x9 x10 h6 ⟨rfl, rfl, rfl, rfl, k0, k1, ⟨c, H6⟩, O6, F6⟩ hL6
    have off : ∀ q, q ∈ [(b, [x6.v, VI x7, x8.v, x9.v, VI mo])] → ¬ R q.1 := fun q hq => by
      simp only [List.mem_cons, List.not_mem_nil, or_false] at hq
      subst hq
      exact fun hr => (hR _ hr).1 rfl
    refine ⟨fun e4 => ?_, fun e4 => ?_⟩
    · simp only [decide_eq_true_eq] at e4
      have k2 : k < (xss[p].length : Int) := by omega
      have kw : w64 (k + 1) = k + 1 := w64_eq _ (by omega) (by omega)
      refine int_set H6 (by omega) (by rw [List.length_set]; omega) hL6 off _ fun h7 H7 f7 V7 => ?_
      rw [show ((p : Nat) : Int).toNat = p from rfl, List.set_set] at H7
      have W7 : WOK xss (rs.set p k, a) := wok_set W hp k0 (by omega)
      have F7 : Fr (fun k => k = b ∨ R k ∨ lo ≤ k) h h7 := F6.trans (f7.mono fun q _ hq => .inr (.inl hq))
      have G7 := G.fr F7 fun q hq hq2 => by
        obtain ⟨a1, a2, a3⟩ := hS q hq
        rcases hq2 with x | x | x
        · exact a1 x
        · exact a2 x
        · omega
      have O7 := OwR.fr O6 f7 fun q _ hq hq2 => by have := (hR q hq2).2; omega
      rw [kw]
      have snoc : rngI (k + 1).toNat = rngI k.toNat ++ [k] := by
        rw [show (k + 1).toNat = k.toNat + 1 by omega, rngI_snoc, show ((k.toNat : Nat) : Int) = k by omega]
      refine k_loops V7.head G7 H7.rdF W7 (by omega) (by omega) _ fun h8 f8 => ⟨x6, x7, x8, x9, mo, _, rfl, V7.of_no f8, fun e5 => ?_, fun e5 => ?_⟩
      · simp only [Bool.not_eq_true'] at e5
        rw [pw]
        refine ih (d - 1) (by omega) (V7.of_no f8).head (G7.no f8) (Ow.no H7 f8) (OwR.no O7 f8) W7 hS hR hb (by have := F7.size; have := f8.size; omega) s0 s1 (by omega) (fun i hi hpi => ?_) (fun i hi his => ?_) (by rw [List.length_take]; omega) hm _ fun h9 f9 V9 H9 O9 F9 => ⟨x6, x7, x8, f9, mo, .cons V9 (by simp) .nil, m - 1, by omega, rfl, rfl, rfl, rfl, by omega, by omega, ⟨k, H9⟩, ?_, (F7.trans f8.of_no).trans F9⟩
        · rw [List.getElem_set, if_neg (by omega)]
          exact hz i (by rw [List.length_set] at hi; exact hi) (by omega)
        · by_cases hip : i = p
          · subst hip; exact e5
          · have := hn i (by omega) his
            unfold lpB at this ⊢
            rw [← this]
            exact lpG_agree (fun j hj => getD_set_ne (by omega)) _ _
        · rw [take_app] at O9
          rw [snoc, List.flatMap_append, List.flatMap_cons, List.flatMap_nil, List.append_nil, ← List.append_assoc]
          exact O9
      · simp only [Bool.not_eq_false'] at e5
        have en := ptL_no W.graph s0 hp (by rw [List.length_set]; exact rl) (fun i h1 h2 _ => W7.rot i h1 h2) e5
        refine ⟨m - 1, by omega, rfl, rfl, rfl, rfl, by omega, by omega, ⟨k, Ow.no H7 f8⟩, ?_, F7.trans f8.of_no⟩
        rw [snoc, List.flatMap_append, List.flatMap_cons, List.flatMap_nil, List.append_nil, en, List.append_nil]
        exact OwR.no O7 f8
    · simp only [decide_eq_false_iff_not] at e4
      have ek : k.toNat = xss[p].length := by omega
      refine int_set H6 (by omega) (by rw [List.length_set]; omega) hL6 off _ fun h7 H7 f7 V7 => ?_
      rw [show ((p : Nat) : Int).toNat = p from rfl, List.set_set, set_self (by omega) rp] at H7
      have F7 : Fr (fun k => k = b ∨ R k ∨ lo ≤ k) h h7 := F6.trans (f7.mono fun q _ hq => .inr (.inl hq))
      have O7 := OwR.fr O6 f7 fun q _ hq hq2 => by have := (hR q hq2).2; omega
      refine HK h7 x9 V7.head H7 ?_ F7
      rw [ptL_step rl hp]
      rw [ek] at O7
      by_cases hl : xss[p].length = 0
      · have hc : cand xss x7 p = [0] := by unfold cand; rw [if_pos (.inr (by rw [getD_get hp]; exact hl))]
        have lpt : lpB xss x7 rs p = true := by
          unfold lpB
          rw [lpG, if_neg (by rintro (x | x) <;> omega), if_pos]
          unfold nx
          rw [if_neg (by omega), show ((p : Nat) : Int).toNat = p from rfl, getD_get hp, if_pos hl]
          omega
        have en := ptL_no W.graph s0 hp rl (fun i h1 h2 _ => W.rot i h1 h2) lpt
        rw [hc, List.flatMap_cons, List.flatMap_nil, set_self (by omega) rp, en]
        rw [hl] at O7
        exact O7
      · have hc : cand xss x7 p = rngI xss[p].length := by
          unfold cand
          rw [getD_get hp, if_neg (by rintro (x | x); exact e3 x; exact hl x)]
        rw [hc]
        exact O7

theorem k_trAll {S : Nat → Prop} {h : Heap} {g : Sl} {xss : List (List Int)} (G : RdR S h g xss) (hg : graphB xss = true) {s : Int} (s0 : 0 ≤ s) (s1 : s < (xss.length : Int)) {mo : Nat} (hm : mo ≤ 1000) (K : Value → Heap → Prop) (HK : ∀ t h', OwX h' (Iv h.size h'.size) t ((treesL xss s).take (mo + 1)) → Fr No h h' → K t.v h') : callM Try.prog 86 #[.agg #[g.v], VI s, VI mo] h K := by
  refine v86 g s mo h K fun b1 h1 hb1 f1 hL1 => ?_
  have f1 := f1.in_nil
  have z1 := f1.size
  have l1 : b1 < h1.size := hL1.head.lt
  have gl := graph_len hg
  have gn := G.len
  refine eop_make rIs (fun k => h1.size ≤ k) (fun _ h => h) .i64 .i64 g.n g.n (Nat.le_refl _) (by omega) fun t h2 n2 c2 o2 f2 m2 _ => ⟨t, rfl, hL1.of_no f2, fun b2 h3 hb2 f3 hL3 => ?_⟩
  have f3 := f3.in_nil
  have z2 := f2.size
  have z3 := f3.size
  have l2 : b2 < h3.size := hL3.head.lt
  have o2 : OwI h2 (Iv h1.size h2.size) t (List.replicate xss.length 0) := by
    have e : (List.replicate g.n [VI 0]).flatten = (List.replicate xss.length (0 : Int)).map VI := by rw [gn]; simp [List.flatten_replicate_singleton]
    rw [e] at o2
    exact o2.mono fun k hk hF => ⟨hF, (Ow.foot o2 hk).2⟩
  have f13 := f2.no_trans f3
  have W : WOK xss (List.replicate xss.length 0, s) := ⟨hg, by simp, s0, s1, fun i a b => by
    (try simp only at a ⊢)
    rw [List.getElem_replicate]
    omega⟩
  refine k_look xss.length (S := fun k => k < h1.size) (R := Iv h1.size h2.size) (lo := h3.size) (found := []) (p := 0) hL3.head ((G.no f1).low.no f13) (Ow.no o2 f3) (OwR.nil _ _ _ _) W (fun k hk => ⟨by omega, fun hr => by have := hr.1; omega, by omega⟩) (fun k hk => ⟨by have := hk.2; omega, by have := hk.2; omega⟩) l2 (Nat.le_refl _) s0 s1 (by omega) (fun i hi _ => by simp) (fun i hi => by omega) (by simp) hm _ fun h4 f4 V4 H4 O4 F4 => ⟨g, s, t, f4, mo, .cons V4 (fun p hp => ?_) (.cons ?_ (by simp) .nil), ?_⟩
  · simp only [List.mem_cons, List.not_mem_nil, or_false] at hp
    subst hp
    show b1 ≠ b2
    omega
  · refine hL3.tail.head.fr F4 fun hk => ?_
    rcases hk with x | x | x
    · omega
    · have := x.1; omega
    · omega
  · rw [List.nil_append, ptL_zero] at O4
    refine HK f4 h4 (O4.mono fun k hk hF => ⟨by omega, hk⟩) ((f1.no_trans f13).of_no.trans (F4.mono (T' := fun k => h.size ≤ k) fun k _ hk => ?_) |>.mono fun k hk hk2 => absurd hk2 (by omega))
    rcases hk with x | x | x
    · omega
    · have := x.1; omega
    · omega

theorem k_countUnicycles {S : Nat → Prop} {h : Heap} {g : Sl} {xss : List (List Int)} (G : RdR S h g xss) (hg : graphB xss = true) {p : Int} (p0 : 0 ≤ p) (p1 : p < (xss.length : Int)) (K : Value → Heap → Prop) (HK : ∀ h', Fr No h h' → K (VI (treesN xss p * (xss.getD p.toNat []).length)) h') : callM Try.prog 89 #[.agg #[g.v], VI p] h K := by
  have gl := graph_len hg
  refine v89 g p h K ⟨G.inb p0 p1, fun b1 h1 hb1 f1 hL1 => ?_⟩
  have f1 := f1.in_nil
  have G1 := G.no f1
  obtain ⟨sp, cp, rp⟩ := G1.get p0 p1
  have spl := rp.len
  have gm := graph_mem hg (List.getElem_mem (show p.toNat < xss.length by omega))
  obtain ⟨ll, Q⟩ := lap_sq p0 p1
  refine ⟨sp, cp, k_laplace G1 hg p0 p1 _ fun t h2 o2 f2 => ⟨t, rfl, hL1.of_no f2, cell_keep G1 p0 p1 f2 (fun _ _ x => x) cp, ?_⟩⟩
  refine k_determinant (OwR.rd o2) (by rw [ll]; exact Q) (by omega) (by rw [ll]; exact lap_small hg p0 p1) _ fun h3 f3 => ⟨_, rfl, (hL1.of_no f2).of_no f3, cell_keep G1 p0 p1 (f2.no_trans f3) (fun _ _ x => x) cp, ?_⟩
  rw [ll]
  have hb := abs_le (Nat.le_trans (det_bound (lap_small hg p0 p1)) (Nat.le_trans (dbN_le (show xss.length - 1 ≤ 7 by omega)) (show dbN 7 ≤ 50400000000 by rw [dbN7]; exact Nat.le_refl _)))
  have h5 : (sp.n : Int) ≤ 5 := by have := gm.1; omega
  have hm : -252000000000 ≤ det (xss.length - 1) (matL (lapL xss p)) * (sp.n : Int) ∧ det (xss.length - 1) (matL (lapL xss p)) * (sp.n : Int) ≤ 252000000000 := by
    have e : sp.n = 0 ∨ sp.n = 1 ∨ sp.n = 2 ∨ sp.n = 3 ∨ sp.n = 4 ∨ sp.n = 5 := by omega
    rcases e with e | e | e | e | e | e <;> rw [e] <;> omega
  rw [w64_eq _ (by omega) (by omega)]
  rw [getD_get (show p.toNat < xss.length by omega), ← spl] at HK
  exact HK h3 (f1.no_trans (f2.no_trans f3))

theorem k_AllUni1 {S S' : Nat → Prop} {h : Heap} {bp bg bo : Nat} {g o t : Sl} {xss : List (List Int)} {x : List Int} {ws : List (List Int × Int)} {p : Int} (Vp : IsVar h bp [VI p]) (Vg : IsVar h bg [g.v]) (Vo : IsVar h bo [o.v]) (n1 : bp ≠ bg) (n2 : bp ≠ bo) (n3 : bg ≠ bo) (G : RdR S h g xss) (X : RdI S' h t x) (W : WOK xss (x, p)) {F : Nat → Prop} (O : OwWS h F o ws) (hF : ∀ k, h.size ≤ k → F k) (hob : ¬ F bo) (hbp : ¬ F bp) (hbg : ¬ F bg) (hw : ws.length ≤ 1000000) (K : Value → Heap → Prop)
    (HK : ∀ h' o', IsVar h' bp [VI p] → IsVar h' bg [g.v] → IsVar h' bo [Sl.v o'] → OwWS h' F o' (if uniB xss x p then ws ++ [(x, p)] else ws) → Fr (fun k => k = bo ∨ F k) h h' → K (VB true) h') : callV Try.prog (.func (.func 91) #[] #[VP bp 0, VP bg 0, VP bo 0]) [t.v] h K := by
  have gl := graph_len W.graph
  have lo_ := Vo.lt
  refine v91 t bp p bg g bo o h K (.cons Vp (fun q hq => by
    simp only [List.mem_cons, List.not_mem_nil, or_false] at hq
    rcases hq with rfl | rfl
    · exact fun e => n1 e.symm
    · exact fun e => n2 e.symm) (.cons Vg (fun q hq => by
      simp only [List.mem_cons, List.not_mem_nil, or_false] at hq
      rcases hq with rfl
      exact fun e => n3 e.symm) (.cons Vo (by simp) .nil))) fun b4 h2 hb4 f2 hL2 => ?_
  have f2 := f2.in_nil
  have X2 : RdI S' h2 t x := RdI.no X f2
  have xl : x.length = xss.length := W.len
  refine k_isUnicycle (G.no f2) X2 W _ fun h3 f3 => ⟨_, rfl, hL2.of_no f3, fun e => ?_, fun e => ?_⟩
  · rw [if_pos e] at HK
    have X3 : RdI S' h3 t x := RdI.no X2 f3
    refine k_copiedW X3 p (by omega) _ fun t4 h4 o4 f4 => ⟨t4, p, rfl, (hL2.of_no f3).of_no f4, ?_⟩
    have f04 : Fr No h h4 := f2.no_trans (f3.no_trans f4)
    have z4 := f04.size
    refine eop_lit rWs (fun k => h4.size ≤ k) (fun _ h => h) 1 (by omega) [t4.v, VI p] rfl rfl fun u h5 n5 c5 o5 f5 m5 _ => ⟨u, rfl, ((hL2.of_no f3).of_no f4).of_no f5, ?_⟩
    have z5 := f5.size
    have hL5 := ((hL2.of_no f3).of_no f4).of_no f5
    have O5 : OwWS h5 (fun k => F k ∧ k < h.size) o ws := OwW.no (OwW.no (O.mono fun k hk hF => ⟨hF, hk⟩) f04) f5
    have z3 : h.size ≤ h3.size := (f2.no_trans f3).size
    refine OwW.snoc rWs O5 (F' := F) (p := p) (fun k _ hk => hk.1) (fun k hk => hF k (by omega)) ((Ow.no o4 f5).mono fun k _ hk => hF k (by have := hk.1; omega)) (fun k hk hk2 => by have := (Ow.foot o4 hk).1.1; have := hk2.2; omega) o5.rd (by omega) fun y h6 o6 f6 => ⟨y, rfl, ?_, fun h7 f7 hL7 => ?_⟩
    · refine hL5.fr f6 fun q hq hk => ?_
      simp only [List.mem_cons, List.not_mem_nil, or_false] at hq
      rcases hq with rfl | rfl | rfl | rfl
      · have := hk.2; (try simp only at this); omega
      · exact hbp hk.1
      · exact hbg hk.1
      · exact hob hk.1
    · have e7 : ∀ k, In [bo] k → k = bo := fun k hk => by simpa [In] using hk
      refine HK h7 y hL7.tail.head hL7.tail.tail.head hL7.tail.tail.tail.head (o6.fr f7 fun k _ hk hk2 => hob (e7 k hk2 ▸ hk)) ?_
      exact ((f04.no_trans f5).of_no.trans (f6.mono fun k _ hk => .inr hk.1)).trans (f7.mono fun k _ hk => .inl (e7 k hk))
  · rw [if_neg (by rw [e]; simp)] at HK
    have f03 := f2.no_trans f3
    have hL3 := hL2.of_no f3
    exact HK h3 o hL3.tail.head hL3.tail.tail.head hL3.tail.tail.tail.head (O.no f03) f03.of_no

noncomputable def allUniP (g : List (List Int)) (p : Int) : List (List Int × Int) × Bool :=
  if graphB g && inR 0 ((g.length : Int) - 1) p then (if treesN g p * (g.getD p.toNat []).length ≤ 300 then ((allUni g p).map fun rs => (rs, p), true) else ([], false)) else ([], false)
theorem allUni_len {g : List (List Int)} (hg : graphB g = true) {p : Int} (p0 : 0 ≤ p) (p1 : p < (g.length : Int)) (h : treesN g p * (g.getD p.toNat []).length ≤ 300) : (allUni g p).length ≤ 300 ∧ ((g.getD p.toNat []).length ≠ 0 → (treesL g p).length ≤ 300) := by
  rw [treesN_eq hg p0 p1] at h
  have e := (ins_uni hg p0 p1).2
  have h2 : (treesL g p).length * (g.getD p.toNat []).length ≤ 300 := by
    have : (((treesL g p).length * (g.getD p.toNat []).length : Nat) : Int) ≤ 300 := by rw [Int.natCast_mul]; exact h
    omega
  refine ⟨by rw [e]; exact h2, fun hz => ?_⟩
  have : (treesL g p).length * 1 ≤ (treesL g p).length * (g.getD p.toNat []).length := Nat.mul_le_mul_left _ (by omega)
  omega
theorem tot_map (p : Int) (n : Nat) : ∀ l : List (List Int), (∀ x, x ∈ l → x.length ≤ n) → totW (l.map fun rs => (rs, p)) ≤ l.length * (n + 1)
  | [], _ => by simp [totW]
  | x :: l, h => by
    have h1 := tot_map p n l fun y hy => h y (List.mem_cons_of_mem _ hy)
    have h2 := h x (List.mem_cons_self ..)
    simp only [totW, List.map_cons, List.sum_cons, List.length_cons, Nat.succ_mul] at h1 ⊢
    omega
theorem allUniP_tot (g : List (List Int)) (p : Int) : totW (allUniP g p).1 ≤ 2700 := by
  unfold allUniP
  split
  · rename_i hh
    rw [Bool.and_eq_true] at hh
    have pr := inR_iff.1 hh.2
    have gl := graph_len hh.1
    split
    · rename_i h3
      have h4 := (allUni_len hh.1 pr.1 (by omega) h3).1
      have := tot_map p 8 (allUni g p) fun x hx => by
        unfold allUni at hx
        rw [List.mem_filter] at hx
        rw [(mem_allRot.1 hx.1).1]
        exact gl.2
      (try simp only)
      omega
    · simp [totW]
  · simp [totW]

theorem k_AllUnicycles {S : Nat → Prop} {h : Heap} {g : Sl} {xss : List (List Int)} (G : RdR S h g xss) (p : Int) (K : Value → Heap → Prop) (HK : ∀ t h', OwWS h' (Iv h.size h'.size) t (allUniP xss p).1 → Fr No h h' → K (.tuple #[t.v, VB (allUniP xss p).2]) h') : callM Try.prog 46 #[.agg #[g.v], VI p] h K := by
  refine v46 g p h K fun b1 b2 h2 hb1 hb2 f2 hL2 => ?_
  have f2 := f2.in_nil
  have z2 := f2.size
  have l2 : b2 < h2.size := hL2.head.lt
  have l1 : b1 < h2.size := hL2.tail.head.lt
  have ne12 : b1 ≠ b2 := hL2.ne _ (List.mem_cons_self ..)
  refine eop_lit rIs (fun k => h2.size ≤ k) (fun _ h => h) 1 (by omega) [VI p] rfl rfl fun t h3 n3 c3 o3 f3 m3 _ => ⟨t, rfl, hL2.of_no f3, ?_⟩
  have r3 : RdI (fun k => h2.size ≤ k) h3 t [p] := o3.rdF
  have f03 := f2.no_trans f3
  refine k_has (G.no f03) r3 _ fun h4 f4 => ⟨_, rfl, (hL2.of_no f3).of_no f4, fun e => ?_, fun e => ?_⟩
  all_goals simp only [List.all_cons, List.all_nil, Bool.and_true] at e
  · have er : allUniP xss p = ([], false) := by unfold allUniP; rw [if_neg (by rw [not_t e]; simp)]
    have := HK nilSl h4 (by rw [er]; exact OwW.nil _ _ _ _) (f03.no_trans f4)
    rw [er] at this
    exact this
  have e := not_f e
  have e' := e
  rw [Bool.and_eq_true] at e'
  have pr := inR_iff.1 e'.2
  have hg := e'.1
  have gl := graph_len hg
  have p1 : p < (xss.length : Int) := by omega
  have f04 := f03.no_trans f4
  refine k_countUnicycles (G.no f04) hg pr.1 p1 _ fun h5 f5 => ⟨_, rfl, ((hL2.of_no f3).of_no f4).of_no f5, fun e2 => ?_, fun e2 => ?_⟩
  · simp only [decide_eq_true_eq] at e2
    have er : allUniP xss p = ([], false) := by unfold allUniP; rw [if_pos e, if_neg (by omega)]
    have := HK nilSl h5 (by rw [er]; exact OwW.nil _ _ _ _) (f04.no_trans f5)
    rw [er] at this
    exact this
  simp only [decide_eq_false_iff_not] at e2
  have er : allUniP xss p = ((allUni xss p).map fun rs => (rs, p), true) := by unfold allUniP; rw [if_pos e, if_pos (by omega)]
  have ul := (allUni_len hg pr.1 p1 (show treesN xss p * (xss.getD p.toNat []).length ≤ 300 by omega)).1
  rw [er] at HK
  have f05 := f04.no_trans f5
  have z5 := f05.size
  have hL5 := ((hL2.of_no f3).of_no f4).of_no f5
  have z25 : h2.size ≤ h5.size := by have := f3.size; have := f4.size; have := f5.size; omega
  refine eop_lit rWs (fun k => h5.size ≤ k) (fun _ h => h) 0 (by omega) [] rfl rfl fun o h6 n6 c6 o6 f6 m6 _ => ⟨o, rfl, hL5.of_no f6, fun b3 h8 hb3 f8 hL8 => ?_⟩
  have f8 := f8.in_nil
  have z6 := f6.size
  have z8 := f8.size
  have l3 : b3 < h8.size := hL8.head.lt
  have O8 : OwWS h8 (fun k => h5.size ≤ k ∧ k < h6.size) o [] := ⟨[], rfl, (Ow.no o6 f8).mono fun k hk hF => ⟨hF, (Ow.foot o6 hk).2⟩, fun i h1 => by simp at h1, fun i j h1 => by simp at h1, fun i h1 => by simp at h1⟩
  have f68 : Fr No h5 h8 := f6.no_trans f8
  have f08 := f05.no_trans f68
  have z08 := f08.size
  have b12 : b2 < h5.size ∧ b1 < h5.size := ⟨by omega, by omega⟩
  -- what the list may lie in: what was made for it, and what comes behind the rotors
  have G8 : RdR (fun k => k < h5.size) h8 g xss := ((G.no f05).low).no f68
  have pf : ∀ {a b k : Nat}, a = h8.size → Iv a b k → ¬ ((h5.size ≤ k ∧ k < h6.size) ∨ (h8.size ≤ k ∧ ¬ Iv a b k)) := fun ha hk hh => by
    have := hk.1
    rcases hh with x | x
    · omega
    · exact x.2 hk
  refine k_allRotors G8 hg (-1) _ (fun a b pre h' => ∃ y, IsVar h' b2 [VI p] ∧ IsVar h' b1 [g.v] ∧ IsVar h' b3 [Sl.v y] ∧ RdR (fun k => k < h5.size) h' g xss ∧ OwWS h' (fun k => (h5.size ≤ k ∧ k < h6.size) ∨ (h8.size ≤ k ∧ ¬ Iv a b k)) y ((pre.filter fun rs => uniB xss rs p).map fun rs => (rs, p)) ∧ Fr (fun k => h5.size ≤ k) h5 h' ∧ h8.size ≤ h'.size) (fun _ => False)
    ?_ ?_ ?_ ?_ _ ?_
  · rintro a b pre h' ⟨y, _, _, _, G', _⟩
    exact G'
  · intro h' f'
    exact ⟨o, hL8.tail.head.fr f' fun x => x, hL8.tail.tail.head.fr f' fun x => x, hL8.head.fr f' fun x => x, G8.no f', (OwW.no O8 f').mono fun k _ hk => .inl hk, f68.of_no.trans f'.of_no, f'.size⟩
  · rintro a b pre h1 h2' ⟨y, v2, v1, v3, G', O', F', z'⟩ f' ha
    have nb : ∀ {k : Nat}, k < h8.size → ¬ Iv a b k := fun hk hh => by have := hh.1; omega
    exact ⟨y, v2.fr f' (nb (by omega)), v1.fr f' (nb (by omega)), v3.fr f' (nb l3), G'.fr f' fun k hk => nb (by omega), O'.fr f' fun k _ hk hk2 => pf ha hk2 hk, F'.trans (f'.mono fun k _ hk => by have := hk.1; omega), by have := f'.size; omega⟩
  · rintro b pre x post t h1 K' eA ⟨y, v2, v1, v3, G', O', F', z'⟩ hb X HK'
    have W := (rot_ok (s := -1) (a := p) hg pr.1 p1 (show x ∈ allRot xss (-1) by rw [eA]; simp)).1
    have pl : ((pre.filter fun rs => uniB xss rs p).map fun rs => (rs, p)).length ≤ 300 := by
      rw [List.length_map]
      have : (allUni xss p).length = (pre.filter fun rs => uniB xss rs p).length + ((x :: post).filter fun rs => uniB xss rs p).length := by
        unfold allUni
        rw [eA, List.filter_append, List.length_append]
      omega
    refine k_AllUni1 v2 v1 v3 (fun e => ne12 e.symm) (by omega) (by omega) G' X W O' (fun k hk => .inr ⟨by omega, fun hh => by have := hh.2; omega⟩) (fun hh => by rcases hh with z | z <;> omega) (fun hh => by rcases hh with z | z <;> omega) (fun hh => by rcases hh with z | z <;> omega) (by omega) _ fun h2' o' v2' v1' v3' O2 F2 => HK' true h2' ⟨o', v2', v1', v3', G'.fr F2 fun k hk hk2 => ?_, ?_, F'.trans (F2.mono fun k _ hk => ?_), by have := F2.size; omega⟩ (F2.mono fun k _ hk hh => ?_) fun e => by cases e
    · rcases hk2 with z | z | z <;> omega
    · rw [List.filter_append, List.map_append]
      by_cases hu : uniB xss x p = true
      · rw [if_pos hu] at O2
        rw [List.filter_cons_of_pos (p := fun rs => uniB xss rs p) hu, List.filter_nil]
        exact O2
      · rw [if_neg hu] at O2
        rw [List.filter_cons_of_neg (p := fun rs => uniB xss rs p) hu, List.filter_nil, List.map_nil, List.append_nil]
        exact O2
    · rcases hk with z | z | z <;> omega
    · have := hh.1
      rcases hk with z | z
      · omega
      · exact pf rfl hh z
  · rintro b pre post h' eA hpost ⟨y, v2, v1, v3, G', O', F', z'⟩
    have ep : post = [] := hpost.elim id fun x => x.elim
    rw [ep, List.append_nil] at eA
    rw [← eA] at O'
    refine ⟨y, p, g, .cons v3 (fun q hq => ?_) (.cons v2 (fun q hq => ?_) (.cons v1 (by simp) .nil)), ?_⟩
    · simp only [List.mem_cons, List.not_mem_nil, or_false] at hq
      rcases hq with rfl | rfl
      · show b2 ≠ b3; omega
      · show b1 ≠ b3; omega
    · simp only [List.mem_cons, List.not_mem_nil, or_false] at hq
      subst hq
      exact ne12
    · refine HK y h' (O'.mono fun k hk hF => ⟨?_, hk⟩) (f05.fresh F' fun k hk => by omega)
      rcases hF with z | z <;> omega

theorem k_trLess {S S' : Nat → Prop} {h : Heap} {a b : Sl} {xs ys : List Int} (H : RdI S h a xs) (H' : RdI S' h b ys) (hl : xs.length = ys.length) (K : Value → Heap → Prop) (HK : K (VB (ltL xs ys)) h) : callM Try.prog 88 #[a.v, b.v] h K := by
  refine v88 a b h K ⟨fun m i h' => h' = h ∧ 0 ≤ i ∧ i + m = (xs.length : Int) ∧ ltL xs ys = ltL (xs.drop i.toNat) (ys.drop i.toNat), ⟨xs.length, rfl, Int.le_refl _, by omega, by simp⟩, ?_⟩
  rintro m i h1 ⟨rfl, i0, i1, el⟩ hL
  refine ⟨fun e => ?_, fun e => ?_⟩
  · have hi := H.lt e
    have hi' : i < (ys.length : Int) := by omega
    rw [drop_cons xs i0 hi, drop_cons ys i0 hi', ltL] at el
    refine ⟨H.inb i0 hi, _, H.get i0 hi, H'.inb i0 hi', _, H'.get i0 hi', fun e2 => ⟨H'.inb i0 hi', _, H'.get i0 hi', ?_⟩, fun e2 => ?_⟩
    · simp only [Bool.not_eq_true', decide_eq_false_iff_not] at e2
      rw [if_neg e2] at el
      rw [← el]
      exact HK
    · simp only [Bool.not_eq_false', decide_eq_true_eq] at e2
      rw [if_pos e2] at el
      rw [H.succ i0 hi]
      exact ⟨m - 1, by omega, rfl, by omega, by omega, el⟩
  · have hi := H.ge e
    rw [List.drop_of_length_le (by omega), List.drop_of_length_le (by omega)] at el
    rw [el] at HK
    exact HK

theorem wcs_plain : ∀ (ss : List Sl) (ps : List Int), (wcs ss ps).all plainV = true
  | [], _ => by cases ‹List Int› <;> rfl
  | _ :: _, [] => rfl
  | s :: ss, p :: ps => by
    rw [wcs, List.all_cons, List.all_cons, wcs_plain ss ps]
    rfl
theorem wcs_take : ∀ (ss : List Sl) (ps : List Int) (i : Nat), ss.length = ps.length → (wcs ss ps).take (i * 2) = wcs (ss.take i) (ps.take i) ∧ (wcs ss ps).drop (i * 2) = wcs (ss.drop i) (ps.drop i)
  | [], [], i, _ => by simp [wcs]
  | [], _ :: _, _, h => by simp at h
  | _ :: _, [], _, h => by simp at h
  | s :: ss, p :: ps, 0, _ => by simp [wcs]
  | s :: ss, p :: ps, i + 1, h => by
    obtain ⟨a, b⟩ := wcs_take ss ps i (by simpa using h)
    rw [show (i + 1) * 2 = i * 2 + 1 + 1 by omega]
    simp only [wcs, List.take_succ_cons, List.drop_succ_cons, a, b, and_self]
theorem wcs_app : ∀ (ss : List Sl) (ps : List Int) (ts : List Sl) (qs : List Int), ss.length = ps.length → wcs ss ps ++ wcs ts qs = wcs (ss ++ ts) (ps ++ qs)
  | [], [], ts, qs, _ => rfl
  | [], _ :: _, _, _, h => by simp at h
  | _ :: _, [], _, _, h => by simp at h
  | s :: ss, p :: ps, ts, qs, h => by
    simp only [wcs, List.cons_append, wcs_app ss ps ts qs (by simpa using h)]
theorem OwW.of {h : Heap} {F : Nat → Prop} {eo ei : TypeId} {s : Sl} {ws : List (List Int × Int)} (ss : List Sl) (hl : ss.length = ws.length) (hs : Ow h F eo 2 s (wcs ss (ws.map (·.2)))) (hz : ∀ p, p ∈ ss.zip ws → Ow h F ei 1 p.1 (p.2.1.map VI)) (hp : ss.Pairwise fun a b => ∀ k, a.own k → ¬ b.own k) (hd : ∀ a, a ∈ ss → ∀ k, s.own k → ¬ a.own k) : OwW h F eo ei s ws := by
  refine ⟨ss, hl, hs, fun i h1 h2 => ?_, fun i j h1 h2 hne k hk hk2 => ?_, fun i h1 k hk => hd _ (List.getElem_mem h1) k hk⟩
  · have : (ss[i], ws[i]) ∈ ss.zip ws := by
      rw [show (ss[i], ws[i]) = (ss.zip ws)[i]'(by simp; omega) by simp]
      exact List.getElem_mem _
    exact hz _ this
  · rw [List.pairwise_iff_getElem] at hp
    rcases Nat.lt_or_gt_of_ne hne with h | h
    · exact hp i j h1 h2 h k hk hk2
    · exact hp j i h2 h1 h k hk2 hk
/-- A walk is put into its place of a list: a new list, with the walks that were there. -/
theorem ins_walk {L : List (Nat × List Value)} {h : Heap} {F : Nat → Prop} {m : Nat} {s x : Sl} {ws : List (List Int × Int)} {xs : List Int} {p : Int} (O : OwWS h (fun k => F k ∧ k < m) s ws) (X : OwI h (fun k => m ≤ k) x xs) (hF : ∀ k, m ≤ k → F k) (hm : m ≤ h.size) (hL : Vars h L) (hw : ws.length ≤ 1000000) {i : Int} (i0 : 0 ≤ i) (i1 : i ≤ (ws.length : Int)) (C : Sl → Heap → Prop)
    (HC : ∀ t h', OwWS h' F t (ws.take i.toNat ++ (xs, p) :: ws.drop i.toNat) → Fr No h h' → Vars h' L → C t h') :
    ∃ J : Sl → Heap → Prop, (pop Try.prog (Instr.sliceAt tWs s.v none (some (VI i)) none) fun rv_7 => ∃ t76 : Sl, rv_7 = t76.v ∧
      (eop Try.prog (Instr.buildSlice tWs 0 #[]) h fun rv_8 h_14 => ∃ t73 : Sl, rv_8 = t73.v ∧ Vars h_14 L ∧
      (eop Try.prog (appS tWs tWs tWs t73.v t76.v) h_14 fun rv_9 h_15 => ∃ t77 : Sl, rv_9 = t77.v ∧ Vars h_15 L ∧
      eop Try.prog (Instr.buildSlice tWs 1 #[(0, (Value.agg #[x.v, VI p]))]) h_15 fun rv_10 h_16 => ∃ t79 : Sl, rv_10 = t79.v ∧ Vars h_16 L ∧
      eop Try.prog (appS tWs tWs tWs t77.v t79.v) h_16 fun rv_11 h_17 => ∃ t80 : Sl, rv_11 = t80.v ∧ Vars h_17 L ∧ J t80 h_17) ∧
      (eop Try.prog (Instr.buildSlice tWs 1 #[(0, (Value.agg #[x.v, VI p]))]) h_14 fun rv_12 h_18 => ∃ t79 : Sl, rv_12 = t79.v ∧ Vars h_18 L ∧
      eop Try.prog (appS tWs tWs tWs t73.v t76.v) h_18 fun rv_13 h_19 => ∃ t77 : Sl, rv_13 = t77.v ∧ Vars h_19 L ∧
      eop Try.prog (appS tWs tWs tWs t77.v t79.v) h_19 fun rv_14 h_20 => ∃ t80 : Sl, rv_14 = t80.v ∧ Vars h_20 L ∧ J t80 h_20)) ∧
      (eop Try.prog (Instr.buildSlice tWs 1 #[(0, (Value.agg #[x.v, VI p]))]) h fun rv_15 h_21 => ∃ t79 : Sl, rv_15 = t79.v ∧ Vars h_21 L ∧
      eop Try.prog (Instr.buildSlice tWs 0 #[]) h_21 fun rv_16 h_22 => ∃ t73 : Sl, rv_16 = t73.v ∧ Vars h_22 L ∧
      eop Try.prog (appS tWs tWs tWs t73.v t76.v) h_22 fun rv_17 h_23 => ∃ t77 : Sl, rv_17 = t77.v ∧ Vars h_23 L ∧
      eop Try.prog (appS tWs tWs tWs t77.v t79.v) h_23 fun rv_18 h_24 => ∃ t80 : Sl, rv_18 = t80.v ∧ Vars h_24 L ∧ J t80 h_24)) ∧
      ∀ (y : Sl) (h_25 : Heap), J y h_25 → Vars h_25 L → pop Try.prog (Instr.sliceAt tWs s.v (some (VI i)) none none) fun rv_19 => ∃ t84 : Sl, rv_19 = t84.v ∧
      eop Try.prog (appS tWs tWs tWs y.v t84.v) h_25 fun rv_20 h_26 => ∃ t85 : Sl, rv_20 = t85.v ∧ Vars h_26 L ∧ C t85 h_26 := by
  have sn := OwW.len O
  obtain ⟨ss, e1, h2, h3, h4, h5⟩ := O.out
  have hps : ss.length = (ws.map (·.2)).length := by simpa using e1
  have cl : (wcs ss (ws.map (·.2))).length = ws.length * 2 := by rw [wcs_length hps, e1]
  obtain ⟨wt, wd⟩ := wcs_take ss (ws.map (·.2)) i.toNat hps
  have scap : s.n ≤ s.c := h2.cap.1
  -- the two parts that are read
  have R := h2.rd
  have R1 := RdV.cut R (l := 0) (m := i.toNat) (Nat.zero_le _) (by omega)
  rw [Nat.zero_mul, List.drop_zero, Nat.sub_zero, wt] at R1
  have R2 := RdV.cut R (l := i.toNat) (m := s.n) (by omega) (Nat.le_refl _)
  rw [wd, List.take_of_length_le (by rw [wcs_length (by simp [e1]), List.length_drop, e1, sn]; omega)] at R2
  have low : ∀ k, s.own k → k < h.size ∧ F k ∧ k < m := fun k hk => ⟨(h2.foot hk).2, (h2.foot hk).1⟩
  have offF : ∀ {a b : Heap}, Fr (fun k => h.size ≤ k) a b → ∀ k, s.own k → ¬ (fun k => h.size ≤ k) k := fun _ k hk hh => by have := (low k hk).1; omega
  have vfr : ∀ {a : Heap}, Fr (fun k => h.size ≤ k) h a → Vars a L := fun f => hL.fr f fun q hq hk => by have := (hL.mem q hq).lt; omega
  have nofr : ∀ {a : Heap}, Fr (fun k => h.size ≤ k) h a → Fr No h a := fun f => f.mono fun k hk hk2 => absurd hk2 (by omega)
  have n1 : (s.cut 2 0 i.toNat s.c).n = i.toNat := rfl
  have n2 : (s.cut 2 i.toNat s.n s.c).n = s.n - i.toNat := rfl
  -- the steps
  have lit0 : ∀ {a : Heap} (J : Sl → Heap → Prop), Fr (fun k => h.size ≤ k) h a → (∀ t b, Ow b (fun k => h.size ≤ k) tW 2 t [] → Fr (fun k => h.size ≤ k) h b → Fr No a b → (∀ k, t.own k → a.size ≤ k) → Vars b L → J t b) → eop Try.prog (Instr.buildSlice tWs 0 #[]) a fun rv b => ∃ t : Sl, rv = t.v ∧ Vars b L ∧ J t b := fun J f HJ =>
    eop_lit rWs (fun k => h.size ≤ k) (fun k hk => by have := f.size; omega) 0 (by omega) [] rfl rfl fun t b _ _ ob fb mb _ => ⟨t, rfl, vfr (f.trans fb.of_no), HJ t b ob (f.trans fb.of_no) fb mb (vfr (f.trans fb.of_no))⟩
  have lit1 : ∀ {a : Heap} (J : Sl → Heap → Prop), Fr (fun k => h.size ≤ k) h a → (∀ t b, Ow b (fun k => a.size ≤ k) tW 2 t [x.v, VI p] → t.n = 1 → Fr (fun k => h.size ≤ k) h b → Fr No a b → Vars b L → J t b) → eop Try.prog (Instr.buildSlice tWs 1 #[(0, (Value.agg #[x.v, VI p]))]) a fun rv b => ∃ t : Sl, rv = t.v ∧ Vars b L ∧ J t b := fun J f HJ =>
    eop_lit rWs (fun k => _ ≤ k) (fun _ h => h) 1 (by omega) [x.v, VI p] rfl rfl fun t b n _ ob fb _ _ => ⟨t, rfl, vfr (f.trans fb.of_no), HJ t b ob n (f.trans fb.of_no) fb (vfr (f.trans fb.of_no))⟩
  have app : ∀ {a : Heap} {t u : Sl} {vs news : List Value} {T : Nat → Prop} (J : Sl → Heap → Prop), Fr (fun k => h.size ≤ k) h a → Ow a (fun k => h.size ≤ k) tW 2 t vs → RdV T a 2 u news → news.all plainV = true → t.n + u.n ≤ 1000000000 → (∀ y b, Ow b (fun k => h.size ≤ k) tW 2 y (vs ++ news) → y.n = t.n + u.n → Fr (fun k => h.size ≤ k) h b → Fr t.own a b → Vars b L → J y b) → eop Try.prog (appS tWs tWs tWs t.v u.v) a fun rv b => ∃ y : Sl, rv = y.v ∧ Vars b L ∧ J y b := fun J f O' R' hp hb HJ =>
    eop_append rWs O' (fun k hk => by have := f.size; omega) R' hp (by omega) fun y b hn ob fb _ => by
      have fb' : Fr (fun k => h.size ≤ k) _ b := fb.mono fun k _ hk => (Ow.foot O' hk).1
      exact ⟨y, rfl, vfr (f.trans fb'), HJ y b ob hn (f.trans fb') fb (vfr (f.trans fb'))⟩
  have R1at : ∀ {a : Heap}, Fr (fun k => h.size ≤ k) h a → RdV s.own a 2 (s.cut 2 0 i.toNat s.c) (wcs (ss.take i.toNat) ((ws.map (·.2)).take i.toNat)) := fun f => RdV.fr R1 f (offF f)
  have p1 := wcs_plain (ss.take i.toNat) ((ws.map (·.2)).take i.toNat)
  have p2 := wcs_plain (ss.drop i.toNat) ((ws.map (·.2)).drop i.toNat)
  have px : [x.v, VI p].all plainV = true := rfl
  refine ⟨fun y a => Ow a (fun k => h.size ≤ k) tW 2 y (wcs (ss.take i.toNat) ((ws.map (·.2)).take i.toNat) ++ [x.v, VI p]) ∧ y.n = i.toNat + 1 ∧ Fr (fun k => h.size ≤ k) h a, pop_cut_h rWs .i64 i0 (by omega) ⟨_, rfl, ?_, ?_⟩, ?_⟩
  · refine lit0 _ (Fr.refl _ _) fun t a o f fa ta V => ⟨?_, ?_⟩
    · have tn : t.n = 0 := by have := o.len; simp at this; omega
      refine app _ f o (R1at f) p1 (by omega) fun t7 b o7 n7 f7 _ V7 => ?_
      refine lit1 _ f7 fun t9 c o9 n9 f9 g9 V9 => ?_
      rw [List.nil_append] at o7
      exact app _ f9 (o7.no g9) o9.rd px (by omega) fun y d oy ny fy _ Vy => ⟨oy, by omega, fy⟩
    · have tn : t.n = 0 := by have := o.len; simp at this; omega
      refine lit1 _ f fun t9 c o9 n9 f9 g9 V9 => ?_
      refine app _ f9 (o.no g9) (R1at f9) p1 (by omega) fun t7 b o7 n7 f7 g7 V7 => ?_
      rw [List.nil_append] at o7
      refine app _ f7 o7 (RdV.fr o9.rd g7 fun k hk hk2 => ?_) px (by omega) fun y d oy ny fy _ Vy => ⟨oy, by omega, fy⟩
      have h1 := (Ow.foot o hk2).2
      have h2 := (Ow.foot o9 hk).1
      (try simp only at h2)
      omega
  · refine lit1 _ (Fr.refl _ _) fun t9 c o9 n9 f9 g9 V9 => ?_
    refine lit0 _ f9 fun t a o f fa tz V => ?_
    have tn : t.n = 0 := by have := o.len; simp at this; omega
    refine app _ f o (R1at f) p1 (by omega) fun t7 b o7 n7 f7 g7 V7 => ?_
    rw [List.nil_append] at o7
    refine app _ f7 o7 (RdV.fr (RdV.no o9.rd fa) g7 fun k hk hk2 => ?_) px (by omega) fun y d oy ny fy _ Vy => ⟨oy, by omega, fy⟩
    have h1 := tz k hk2
    have h2 := (Ow.foot o9 hk).2
    omega
  · rintro y a ⟨oy, yn, fy⟩ V
    refine pop_cut_l rWs .i64 i0 (by omega) ⟨_, rfl, ?_⟩
    refine app _ fy oy (RdV.fr R2 fy (offF fy)) p2 (by omega) fun z b oz zn fz _ Vz => HC z b ?_ (nofr fz) Vz
    have hcell : wcs (ss.take i.toNat) ((ws.map (·.2)).take i.toNat) ++ [x.v, VI p] ++ wcs (ss.drop i.toNat) ((ws.map (·.2)).drop i.toNat) = wcs (ss.take i.toNat ++ x :: ss.drop i.toNat) ((ws.take i.toNat ++ (xs, p) :: ws.drop i.toNat).map (·.2)) := by
      rw [List.append_assoc, List.map_append, List.map_cons, ← List.map_take, ← List.map_drop, ← wcs_app _ _ _ _ (by simp [e1])]
      rfl
    rw [hcell] at oz
    have ex : ∀ (u : Sl) (l : List Int), Ow h (fun k => F k ∧ k < m) tI 1 u (l.map VI) → Ow b F tI 1 u (l.map VI) := fun u l H => (H.fr (nofr fz) fun _ _ x => x).mono fun k _ hk => hk.1
    have zr := List.Pairwise.imp (fun h => h) (show ss.Pairwise fun a b => ∀ k, a.own k → ¬ b.own k from List.pairwise_iff_getElem.2 fun a b ha hb hab k hk => h4 a b ha hb (by omega) k hk)
    have zr2 : (ss.take i.toNat ++ ss.drop i.toNat).Pairwise fun a b => ∀ k, a.own k → ¬ b.own k := by rw [List.take_append_drop]; exact zr
    rw [List.pairwise_append] at zr2
    have inn : ∀ u, u ∈ ss → ∀ k, u.own k → F k ∧ k < m := fun u hu k hk => by
      obtain ⟨j, hj, rfl⟩ := List.getElem_of_mem hu
      exact (Ow.foot (h3 j hj (by omega)) hk).1
    have xo : ∀ k, x.own k → m ≤ k ∧ k < h.size := fun k hk => Ow.foot X hk
    refine OwW.of (ss.take i.toNat ++ x :: ss.drop i.toNat) (by simp; omega) (oz.mono fun k _ hk => hF k (by omega)) (fun q hq => ?_) ?_ fun u hu k hk hk2 => ?_
    · rw [List.zip_append (by simp [e1]), List.zip_cons_cons, List.mem_append, List.mem_cons] at hq
      rcases hq with hq | rfl | hq
      · obtain ⟨j, hj, rfl⟩ := List.getElem_of_mem hq
        rw [List.length_zip, List.length_take, List.length_take] at hj
        rw [List.getElem_zip, List.getElem_take, List.getElem_take]
        exact ex _ _ (h3 j (by omega) (by omega))
      · exact (X.fr (nofr fz) fun _ _ x => x).mono fun k _ hk => hF k hk
      · obtain ⟨j, hj, rfl⟩ := List.getElem_of_mem hq
        rw [List.length_zip, List.length_drop, List.length_drop] at hj
        rw [List.getElem_zip, List.getElem_drop, List.getElem_drop]
        exact ex _ _ (h3 (i.toNat + j) (by omega) (by omega))
    · rw [List.pairwise_append, List.pairwise_cons]
      refine ⟨zr2.1, ⟨fun u hu k hk hk2 => ?_, zr2.2.1⟩, fun u hu v hv k hk hk2 => ?_⟩
      · have := (inn u (List.mem_of_mem_drop hu) k hk2).2
        have := (xo k hk).1
        omega
      · rcases List.mem_cons.1 hv with rfl | hv
        · have := (inn u (List.mem_of_mem_take hu) k hk).2
          have := (xo k hk2).1
          omega
        · exact zr2.2.2 u hu v hv k hk hk2
    · have hz := (Ow.foot oz hk).1
      (try simp only at hz)
      rcases List.mem_append.1 hu with hu | hu
      · have := (inn u (List.mem_of_mem_take hu) k hk2).2; omega
      · rcases List.mem_cons.1 hu with rfl | hu
        · have := (xo k hk2).2; omega
        · have := (inn u (List.mem_of_mem_drop hu) k hk2).2; omega

theorem insW_map (p : Int) {w : List Int} {l : List (List Int)} {i : Nat} (hi : i ≤ l.length) (h1 : ∀ j (h : j < l.length), j < i → ltL l[j] w = true) (h2 : ∀ h : i < l.length, ltL l[i] w = false) : (l.map fun rs => (rs, p)).take i ++ (w, p) :: (l.map fun rs => (rs, p)).drop i = (insW w l).map fun rs => (rs, p) := by
  rw [insW_cut hi h1 h2, List.map_append, List.map_cons, List.map_take, List.map_drop]
theorem insAll_step (p n : Nat) (ts : List (List Int)) (t : List Int) (out : List (List Int)) : insAll p (ts ++ [t]) n out = (rngI n).foldl (fun o k => insW (t.set p k) o) (insAll p ts n out) := by
  unfold insAll
  rw [List.foldl_append, List.foldl_cons, List.foldl_nil]
theorem ins_count (p : Nat) (t : List Int) : ∀ (ks : List Int) (out : List (List Int)), (ks.foldl (fun o k => insW (t.set p k) o) out).length = out.length + ks.length
  | [], out => by simp
  | k :: ks, out => by rw [List.foldl_cons, ins_count p t ks, insW_len, List.length_cons]; omega
theorem insAll_count (p n : Nat) : ∀ (ts out : List (List Int)), (insAll p ts n out).length = out.length + ts.length * n
  | [], out => by simp [insAll]
  | t :: ts, out => by
    have e : insAll p (t :: ts) n out = insAll p ts n ((rngI n).foldl (fun o k => insW (t.set p k) o) out) := rfl
    have ln : (rngI n).length = n := by simp [rngI]
    rw [e, insAll_count p n ts, ins_count, ln, List.length_cons, Nat.succ_mul]
    omega
theorem mem_insAll {p n L : Nat} : ∀ (ts out : List (List Int)), (∀ t, t ∈ ts → t.length = L) → (∀ t, t ∈ out → t.length = L) → ∀ x, x ∈ insAll p ts n out → x.length = L
  | [], out, _, h, x, hx => h x hx
  | t :: ts, out, h1, h2, x, hx => by
    have e : insAll p (t :: ts) n out = insAll p ts n ((rngI n).foldl (fun o k => insW (t.set p k) o) out) := rfl
    rw [e] at hx
    refine mem_insAll ts _ (fun u hu => h1 u (List.mem_cons_of_mem _ hu)) (fun y hy => ?_) x hx
    have : ∀ (ks : List Int) (o : List (List Int)), (∀ t, t ∈ o → t.length = L) → ∀ y, y ∈ ks.foldl (fun o k => insW (t.set p k) o) o → y.length = L := by
      intro ks
      induction ks with
      | nil => intro o ho y hy; exact ho y hy
      | cons k ks ih =>
        intro o ho y hy
        refine ih (insW (t.set p k) o) (fun z hz => ?_) y hy
        rcases mem_insW.1 hz with e | e
        · rw [e, List.length_set]; exact h1 t (List.mem_cons_self ..)
        · exact ho z e
    exact this _ _ h2 y hy
theorem ins_row_len {p L : Nat} {t : List Int} (ht : t.length = L) : ∀ (ks : List Int) (o : List (List Int)), (∀ t, t ∈ o → t.length = L) → ∀ y, y ∈ ks.foldl (fun o k => insW (t.set p k) o) o → y.length = L := by
  intro ks
  induction ks with
  | nil => intro o ho y hy; exact ho y hy
  | cons k ks ih =>
    intro o ho y hy
    refine ih (insW (t.set p k) o) (fun z hz => ?_) y hy
    rcases mem_insW.1 hz with e | e
    · rw [e, List.length_set]; exact ht
    · exact ho z e
theorem k_spec_AllUnicycles {S : Nat → Prop} {h : Heap} {g : Sl} {xss : List (List Int)} (G : RdR S h g xss) (p : Int) (K : Value → Heap → Prop) (HK : ∀ t h', OwWS h' (Iv h.size h'.size) t (allUniP xss p).1 → Fr No h h' → K (.tuple #[t.v, VB (allUniP xss p).2]) h') : callM Try.prog 45 #[.agg #[g.v], VI p] h K := by
  refine v45 g p h K fun b1 h1 hb1 f1 hL1 => ?_
  have f1 := f1.in_nil
  have z1 := f1.size
  have l1 : b1 < h1.size := hL1.head.lt
  refine k_spec_grPlace (G.no f1) p _ fun h2 f2 => ⟨_, rfl, hL1.of_no f2, fun e => ?_, fun e => ?_⟩
  · have er : allUniP xss p = ([], false) := by unfold allUniP; rw [if_neg (by rw [not_t e]; simp)]
    have := HK nilSl h2 (by rw [er]; exact OwW.nil _ _ _ _) (f1.no_trans f2)
    rw [er] at this
    exact this
  have e := not_f e
  have e' := e
  rw [Bool.and_eq_true] at e'
  have pr := inR_iff.1 e'.2
  have hg := e'.1
  have gl := graph_len hg
  have p0 := pr.1
  have p1 : p < (xss.length : Int) := by omega
  have pn : p.toNat < xss.length := by omega
  have f02 := f1.no_trans f2
  have G2 := G.no f02
  obtain ⟨sp, cp, rp⟩ := G2.get p0 p1
  have spl := rp.len
  have ge : xss.getD p.toNat [] = xss[p.toNat] := getD_get pn
  have gm := graph_mem hg (List.getElem_mem pn)
  obtain ⟨ll, Q⟩ := lap_sq p0 p1
  refine ⟨G2.inb p0 p1, sp, cp, k_trLaplace G2 hg p0 p1 _ fun t h3 o3 f3 => ⟨t, rfl, (hL1.of_no f2).of_no f3, cell_keep G2 p0 p1 f3 (fun _ _ x => x) cp, ?_⟩⟩
  refine k_trDet (xss.length - 1) (OwR.rd o3) Q (by omega) (lap_small hg p0 p1) _ fun h4 f4 => ⟨_, rfl, ((hL1.of_no f2).of_no f3).of_no f4, cell_keep G2 p0 p1 (f3.no_trans f4) (fun _ _ x => x) cp, ?_⟩
  have hb := abs_le (Nat.le_trans (det_bound (lap_small hg p0 p1)) (Nat.le_trans (dbN_le (show xss.length - 1 ≤ 7 by omega)) (show dbN 7 ≤ 50400000000 by rw [dbN7]; exact Nat.le_refl _)))
  have hm : w64 (det (xss.length - 1) (matL (lapL xss p)) * (sp.n : Int)) = treesN xss p * (xss.getD p.toNat []).length := by
    have h5 : (sp.n : Int) ≤ 5 := by have := gm.1; omega
    have hm : -252000000000 ≤ det (xss.length - 1) (matL (lapL xss p)) * (sp.n : Int) ∧ det (xss.length - 1) (matL (lapL xss p)) * (sp.n : Int) ≤ 252000000000 := by
      have e : sp.n = 0 ∨ sp.n = 1 ∨ sp.n = 2 ∨ sp.n = 3 ∨ sp.n = 4 ∨ sp.n = 5 := by omega
      rcases e with e | e | e | e | e | e <;> rw [e] <;> omega
    rw [w64_eq _ (by omega) (by omega), ge, ← spl]
    rfl
  rw [hm]
  have f04 := f02.no_trans (f3.no_trans f4)
  have hL4 := ((hL1.of_no f2).of_no f3).of_no f4
  refine ⟨fun e2 => ?_, fun e2 => ?_⟩
  · simp only [decide_eq_true_eq] at e2
    have er : allUniP xss p = ([], false) := by unfold allUniP; rw [if_pos e, if_neg (by omega)]
    have := HK nilSl h4 (by rw [er]; exact OwW.nil _ _ _ _) f04
    rw [er] at this
    exact this
  simp only [decide_eq_false_iff_not] at e2
  have e3 : treesN xss p * (xss.getD p.toNat []).length ≤ 300 := by omega
  have er : allUniP xss p = ((allUni xss p).map fun rs => (rs, p), true) := by unfold allUniP; rw [if_pos e, if_pos e3]
  obtain ⟨ul, tl⟩ := allUni_len hg p0 p1 e3
  obtain ⟨iu, iu2⟩ := ins_uni hg p0 p1
  rw [er] at HK
  have z4 := f04.size
  have z14 : h1.size ≤ h4.size := by have := f2.size; have := f3.size; have := f4.size; omega
  refine k_trAll (G.no f04) hg p0 p1 (mo := 300) (by omega) _ fun t5 h5 o5 f5 => ⟨t5, rfl, hL4.of_no f5, ?_⟩
  have z5 := f5.size
  have tlen : ∀ t, t ∈ treesL xss p → t.length = xss.length := fun t ht => by
    unfold treesL at ht
    rw [List.mem_filter] at ht
    exact (mem_allRot.1 ht.1).1
  -- the trees that are gone through: all of them, if there is an exit
  generalize hts : (treesL xss p).take 301 = ts at o5
  have tsm : ∀ t, t ∈ ts → t.length = xss.length := fun t ht => tlen t (by rw [← hts] at ht; exact List.mem_of_mem_take ht)
  have fin : insAll p.toNat ts xss[p.toNat].length [] = allUni xss p := by
    by_cases hz : xss[p.toNat].length = 0
    · have h0 : ∀ (us o : List (List Int)), insAll p.toNat us 0 o = o := by
        intro us
        induction us with
        | nil => intro o; rfl
        | cons u us ih => intro o; exact ih o
      rw [hz, h0]
      rw [ge, hz, Nat.mul_zero] at iu2
      exact (List.length_eq_zero_iff.1 iu2).symm
    · rw [← iu, ge, ← hts, List.take_of_length_le (by have := tl (by rw [ge]; exact hz); omega)]
  have T5 := OwR.rd o5
  have tsn := T5.len
  have f05 := f04.no_trans f5
  have cnt : ∀ i : Nat, (insAll p.toNat (ts.take i) xss[p.toNat].length []).length ≤ 1505 := fun i => by
    rw [insAll_count]
    have h1 : (ts.take i).length ≤ 301 := by rw [List.length_take, ← hts, List.length_take]; omega
    have h2 := Nat.mul_le_mul h1 gm.1
    simp only [List.length_nil]
    omega
  refine ⟨fun m out i h' => 0 ≤ i ∧ i + m = (ts.length : Int) ∧ OwWS h' (fun k => h5.size ≤ k) out ((insAll p.toNat (ts.take i.toNat) xss[p.toNat].length []).map fun rs => (rs, p)) ∧ Fr (fun k => h5.size ≤ k) h5 h', ⟨ts.length, Int.le_refl _, by omega, OwW.nil _ _ _ _, Fr.refl _ _⟩, ?_⟩
  rintro m out i h6 ⟨i0, i1, o6, f6⟩ hL6
  have no_ : ∀ {x : Heap}, Fr (fun k => h5.size ≤ k) h5 x → Fr No h5 x := fun f => f.mono fun k hk hk2 => absurd hk2 (by omega)
  have T6 := T5.no (no_ f6)
  have G6 := G.no (f05.no_trans (no_ f6))
  have z6 := f6.size
  refine ⟨fun e4 => ?_, fun e4 => ?_⟩
  · have hi := T6.lt e4
    obtain ⟨si, ci, ri⟩ := T6.get i0 hi
    have til := tsm _ (List.getElem_mem (show i.toNat < ts.length by omega))
    obtain ⟨sq, cq, rq⟩ := G6.get p0 p1
    have sql : sq.n = xss[p.toNat].length := rq.len
    refine ⟨T6.inb i0 hi, si, ci, G6.inb p0 p1, sq, cq, ?_⟩
    have cnt2 : ∀ k : Nat, k ≤ 5 → ((rngI k).foldl (fun o c => insW ((ts[i.toNat]'(by omega)).set p.toNat c) o) (insAll p.toNat (ts.take i.toNat) xss[p.toNat].length [])).length ≤ 1510 := fun k hk => by
      rw [ins_count]
      have := cnt i.toNat
      have : (rngI k).length = k := by simp [rngI]
      omega
    refine ⟨fun m2 out2 k h' => 0 ≤ k ∧ k + m2 = (xss[p.toNat].length : Int) ∧ OwWS h' (fun k => h5.size ≤ k) out2 (((rngI k.toNat).foldl (fun o c => insW ((ts[i.toNat]'(by omega)).set p.toNat c) o) (insAll p.toNat (ts.take i.toNat) xss[p.toNat].length [])).map fun rs => (rs, p)) ∧ Fr (fun k => h5.size ≤ k) h5 h', ⟨xss[p.toNat].length, Int.le_refl _, by omega, o6, f6⟩, ?_⟩
    rintro m2 out2 k h7 ⟨k0, k1, o7, f7⟩ hL7
    refine ⟨fun e5 => ?_, fun e5 => ?_⟩
    · simp only [decide_eq_true_eq] at e5
      have kl : k < (xss[p.toNat].length : Int) := by omega
      have k5 : k.toNat < 5 := by have := gm.1; omega
      generalize hW : (rngI k.toNat).foldl (fun o c => insW ((ts[i.toNat]'(by omega)).set p.toNat c) o) (insAll p.toNat (ts.take i.toNat) xss[p.toNat].length []) = wl at o7
      have wln : wl.length ≤ 1510 := by rw [← hW]; exact cnt2 _ (by omega)
      have wll : ∀ x, x ∈ wl → x.length = xss.length := by
        rw [← hW]
        exact ins_row_len til _ _ fun x hx => mem_insAll _ _ (fun t ht => tsm t (List.mem_of_mem_take ht)) (fun t ht => by simp at ht) x hx
      have R7 : RdI (fun k => Iv h4.size h5.size k ∧ k < h5.size) h7 si (ts[i.toNat]'(by omega)) := by
        obtain ⟨s5, c5, r5⟩ := T5.get i0 hi
        have c6 := cell_keep T5 i0 hi (no_ f6) (fun _ _ x => x) c5
        have := slv_inj (c6.symm.trans ci)
        subst this
        exact r5.no (no_ f7)
      have z7 := f7.size
      refine k_l1Own R7 (by omega) _ fun x h8 o8 f8 => ⟨x, rfl, hL7.of_no f8, ?_⟩
      have z8 := f8.size
      have xn : x.n = xss.length := by have := RdI.len o8.rdF; omega
      refine ⟨Ow.inb o8 p0 (by omega), fun b2 h10 hb2 f10 hL10 => ?_⟩
      have f10 := f10.in_nil
      have z10 := f10.size
      have l2 : b2 < h10.size := hL10.head.lt
      have o10 := Ow.no o8 f10
      obtain ⟨wr, os, fs⟩ := Ow.store1 o10 p0 (by omega) (VI k)
      have fs' : Fr (Iv h7.size h8.size) h10 (hset h10 (x.at p 1) (VI k)) := fs.mono fun q _ hq => (Ow.foot o10 hq).1
      have hL11 : Vars (hset h10 (x.at p 1) (VI k)) [(b2, [x.v, VI p]), (b1, [g.v])] := hL10.fr fs' fun q hq hk => by
        simp only [List.mem_cons, List.not_mem_nil, or_false] at hq
        rcases hq with rfl | rfl
        · have := hk.2; (try simp only at this); omega
        · have := hk.1; (try simp only at this); omega
      refine ⟨wr, hL11, ?_⟩
      intro h11 e11 hL11'
      rw [← e11] at os fs' hL11
      rw [← List.map_set] at os
      have f810 := f8.no_trans f10
      have z11 := fs'.size
      have o11 : OwWS h11 (fun q => h5.size ≤ q ∧ q < h7.size) out2 (wl.map fun rs => (rs, p)) := (OwW.no (o7.mono fun q hq hF => ⟨hF, hq⟩) f810).fr fs' fun q _ hq hk => by have := hk.1; omega
      have x11 : OwI h11 (fun q => h7.size ≤ q) x ((ts[i.toNat]'(by omega)).set p.toNat k) := os.mono fun q _ hq => hq.1
      have wn := OwW.len o11
      rw [List.length_map] at wn
      have W11 := OwW.rd o11
      have X11 := x11.rdF
      have kw : w64 (k + 1) = k + 1 := w64_eq _ (by omega) (by omega)
      have nxt : ∀ (i' : Int), 0 ≤ i' → i' ≤ (wl.length : Int) → (∀ j (h : j < wl.length), j < i'.toNat → ltL wl[j] ((ts[i.toNat]'(by omega)).set p.toNat k) = true) → (∀ h : i'.toNat < wl.length, ltL wl[i'.toNat] ((ts[i.toNat]'(by omega)).set p.toNat k) = false) → ∀ t h', OwWS h' (fun q => h5.size ≤ q) t ((wl.map fun rs => (rs, p)).take i'.toNat ++ ((ts[i.toNat]'(by omega)).set p.toNat k, p) :: (wl.map fun rs => (rs, p)).drop i'.toNat) → Fr No h11 h' → Vars h' [(b2, [x.v, VI p]), (b1, [g.v])] → ∃ m' : Nat, m' < m2 ∧ 0 ≤ w64 (k + 1) ∧ w64 (k + 1) + m' = (xss[p.toNat].length : Int) ∧ OwWS h' (fun k => h5.size ≤ k) t (((rngI (w64 (k + 1)).toNat).foldl (fun o c => insW ((ts[i.toNat]'(by omega)).set p.toNat c) o) (insAll p.toNat (ts.take i.toNat) xss[p.toNat].length [])).map fun rs => (rs, p)) ∧ Fr (fun k => h5.size ≤ k) h5 h' := by
        intro i' a0 a1 a2 a3 t h' ot ft _
        rw [kw]
        refine ⟨m2 - 1, by omega, by omega, by omega, ?_, ((f7.trans f810.of_no).trans (fs'.mono fun q _ hq => by have := hq.1; omega)).trans ft.of_no⟩
        rw [insW_map p (by omega) a2 a3] at ot
        rw [show (k + 1).toNat = k.toNat + 1 by omega, rngI_snoc, List.foldl_append, List.foldl_cons, List.foldl_nil, hW, show ((k.toNat : Nat) : Int) = k by omega]
        exact ot
      refine ⟨fun m3 i' h' => h' = h11 ∧ 0 ≤ i' ∧ i' + m3 = (wl.length : Int) ∧ ∀ j (h : j < wl.length), j < i'.toNat → ltL wl[j] ((ts[i.toNat]'(by omega)).set p.toNat k) = true, ⟨wl.length, rfl, Int.le_refl _, by omega, fun j h hj => by omega⟩, ?_⟩
      rintro m3 i' h12 ⟨rfl, a0, a1, a2⟩ hL12
      refine ⟨fun e6 => ?_, fun e6 => ?_⟩
      · simp only [decide_eq_true_eq] at e6
        have il : i' < (wl.length : Int) := by omega
        obtain ⟨inb, sw, cw, rw_⟩ := W11.get a0 (by rw [List.length_map]; exact il)
        have hw0 : ((wl.map fun rs => (rs, p))[i'.toNat]'(by rw [List.length_map]; omega)).1 = wl[i'.toNat]'(by omega) := by rw [List.getElem_map]
        rw [hw0] at rw_
        have cw0 := cw 0 (by simp)
        refine ⟨inb, sw, cw0, k_trLess rw_ X11 (by rw [List.length_set, til]; exact wll _ (List.getElem_mem _)) _ ⟨_, rfl, hL12, fun e7 => ?_, fun e7 => ?_⟩⟩
        · rw [w64_eq _ (by omega) (by omega)]
          refine ⟨m3 - 1, by omega, rfl, by omega, by omega, fun j hj hji => ?_⟩
          by_cases hh : j < i'.toNat
          · exact a2 j hj hh
          · have : j = i'.toNat := by omega
            subst this
            exact e7
        · exact ins_walk o11 x11 (fun q hq => by omega) (by omega) hL12 (by rw [List.length_map]; omega) a0 (by rw [List.length_map]; omega) _ (nxt i' a0 (by omega) a2 fun _ => e7)
      · simp only [decide_eq_false_iff_not] at e6
        exact ins_walk o11 x11 (fun q hq => by omega) (by omega) hL12 (by rw [List.length_map]; omega) a0 (by rw [List.length_map]; omega) _ (nxt i' a0 (by omega) a2 fun hh => by omega)
    · simp only [decide_eq_false_iff_not] at e5
      have ek : k.toNat = xss[p.toNat].length := by omega
      rw [T6.succ i0 hi]
      refine ⟨m - 1, by omega, by omega, by omega, ?_, f7⟩
      rw [ek] at o7
      rw [take_snoc _ i0 hi, insAll_step]
      exact o7
  · have hi := T6.ge e4
    rw [List.take_of_length_le (by omega), fin] at o6
    exact HK out h6 (o6.mono fun k hk hF => ⟨by omega, hk⟩) (f05.fresh f6 fun k hk => by omega)

set_option maxHeartbeats 4000000 in
theorem k_lawAllUnicycles {h : Heap} {S0 : Nat → Prop} {s0 : Sl} {x0 : List (List Int)} (G0 : RdR S0 h s0 x0) (n1 : Int) : Ret Try.prog 6 #[.agg #[s0.v], VI n1] h (VB true) := by
  intro K HK
  replace G0 := RdR.toIv G0
  have fz : Fr No h h := Fr.refl _ _
  have := allUniP_tot x0 n1
  refine v6 s0 n1 h K ?_
  have hL : Vars h [] := .nil
  intro b_1 h_1 hb_b_1 f1 hL
  have lt_b_1 : b_1 < h_1.size := (hL).head.lt
  replace f1 := f1.in_nil
  have z_f1 := f1.size
  replace G0 := RdR.no G0 f1
  replace fz := fz.no_trans f1
  refine g_szGraph G0 _ (by omega) (by omega) _ fun h_2 r2 f2 hr2 => ⟨r2, rfl, hL.of_no f2, ?_⟩
  replace hL := hL.of_no f2
  have z_f2 := f2.size
  replace G0 := RdR.no G0 f2
  replace fz := fz.no_trans f2
  refine ⟨fun e => ?_, fun e => ?_⟩
  · exact HK _ fz
  (try simp only [decide_eq_false_iff_not] at e)
  refine g_toGraph G0 (by omega) _ fun u3_0 h_3 O3_0 f3 => ⟨u3_0, rfl, hL.of_no f3, ?_⟩
  replace hL := hL.of_no f3
  have z_f3 := f3.size
  replace G0 := RdR.no G0 f3
  replace fz := fz.no_trans f3
  refine k_spec_AllUnicycles (OwR.rdI O3_0) _ _ fun u4_0 h_4 O4_0 f4 => ⟨u4_0, _, rfl, hL.of_no f4, ?_⟩
  replace hL := hL.of_no f4
  have z_f4 := f4.size
  replace G0 := RdR.no G0 f4
  replace O3_0 := OwR.no O3_0 f4
  replace fz := fz.no_trans f4
  refine g_toGraph G0 (by omega) _ fun u5_0 h_5 O5_0 f5 => ⟨u5_0, rfl, hL.of_no f5, ?_⟩
  replace hL := hL.of_no f5
  have z_f5 := f5.size
  replace G0 := RdR.no G0 f5
  replace O3_0 := OwR.no O3_0 f5
  replace O4_0 := OwW.no O4_0 f5
  replace fz := fz.no_trans f5
  intro b_2 h_7 hb_b_2 f6 hL
  have lt_b_2 : b_2 < h_7.size := (hL).head.lt
  replace f6 := f6.in_nil
  have z_f6 := f6.size
  replace G0 := RdR.no G0 f6
  replace O3_0 := OwR.no O3_0 f6
  replace O4_0 := OwW.no O4_0 f6
  replace O5_0 := OwR.no O5_0 f6
  replace fz := fz.no_trans f6
  refine k_AllUnicycles (OwR.rdI O5_0) _ _ fun u7_0 h_8 O7_0 f7 => ⟨u7_0, _, rfl, hL.of_no f7, ?_⟩
  replace hL := hL.of_no f7
  have z_f7 := f7.size
  replace G0 := RdR.no G0 f7
  replace O3_0 := OwR.no O3_0 f7
  replace O4_0 := OwW.no O4_0 f7
  replace O5_0 := OwR.no O5_0 f7
  replace fz := fz.no_trans f7
  refine g_eqWalkS (OwW.rdI O7_0) (OwW.rdI O4_0) _ fun h_9 f8 => ⟨_, rfl, hL.of_no f8, ?_⟩
  replace hL := hL.of_no f8
  have z_f8 := f8.size
  replace G0 := RdR.no G0 f8
  replace O3_0 := OwR.no O3_0 f8
  replace O4_0 := OwW.no O4_0 f8
  replace O5_0 := OwR.no O5_0 f8
  replace O7_0 := OwW.no O7_0 f8
  replace fz := fz.no_trans f8
  refine ⟨fun e => ?_, fun e => ?_⟩
  · first | (simp at e; done) | (simp only [decide_eq_true_eq] at e; omega)
  (try simp only [decide_eq_false_iff_not] at e)
  refine ⟨fun e => ?_, fun e => ?_⟩
  · first | (simp at e; done) | (simp only [decide_eq_true_eq] at e; omega)
  (try simp only [decide_eq_false_iff_not] at e)
  refine g_toGraph G0 (by omega) _ fun u9_0 h_10 O9_0 f9 => ⟨u9_0, rfl, hL.of_no f9, ?_⟩
  replace hL := hL.of_no f9
  have z_f9 := f9.size
  replace G0 := RdR.no G0 f9
  replace O3_0 := OwR.no O3_0 f9
  replace O4_0 := OwW.no O4_0 f9
  replace O5_0 := OwR.no O5_0 f9
  replace O7_0 := OwW.no O7_0 f9
  replace fz := fz.no_trans f9
  refine g_eqGraph (OwR.rdI O5_0) (OwR.rdI O9_0) _ fun h_11 f10 => ⟨_, rfl, hL.of_no f10, ?_⟩
  replace hL := hL.of_no f10
  have z_f10 := f10.size
  replace G0 := RdR.no G0 f10
  replace O3_0 := OwR.no O3_0 f10
  replace O4_0 := OwW.no O4_0 f10
  replace O5_0 := OwR.no O5_0 f10
  replace O7_0 := OwW.no O7_0 f10
  replace O9_0 := OwR.no O9_0 f10
  replace fz := fz.no_trans f10
  refine ⟨fun e => ?_, fun e => ?_⟩
  · first | (simp at e; done) | (simp only [decide_eq_true_eq] at e; omega)
  (try simp only [decide_eq_false_iff_not] at e)
  refine g_markGraph O5_0 (by omega) _ (by omega) (by omega) _ fun h_12 N11_0 f11 => ⟨_, rfl, hL.iv f11 ⟨show b_2 < h_4.size ∨ h_5.size ≤ b_2 by omega, show b_1 < h_4.size ∨ h_5.size ≤ b_1 by omega, trivial⟩, ?_⟩
  replace hL := hL.iv f11 ⟨show b_2 < h_4.size ∨ h_5.size ≤ b_2 by omega, show b_1 < h_4.size ∨ h_5.size ≤ b_1 by omega, trivial⟩
  have z_f11 := f11.size
  replace G0 := RdR.iv G0 f11 (by omega)
  replace O3_0 := OwR.iv O3_0 f11 (by omega)
  replace O4_0 := OwW.iv O4_0 f11 (by omega)
  replace O7_0 := OwW.iv O7_0 f11 (by omega)
  replace O9_0 := OwR.iv O9_0 f11 (by omega)
  replace fz := fz.ivFresh f11 (by omega)
  refine ⟨fun e => ?_, fun e => ?_⟩
  · first | (simp at e; done) | (simp only [decide_eq_true_eq] at e; omega)
  (try simp only [decide_eq_false_iff_not] at e)
  refine g_eqWalkS (OwW.rdI O7_0) (OwW.rdI O4_0) _ fun h_13 f12 => ⟨_, rfl, hL.of_no f12, ?_⟩
  replace hL := hL.of_no f12
  have z_f12 := f12.size
  replace G0 := RdR.no G0 f12
  replace O3_0 := OwR.no O3_0 f12
  replace O4_0 := OwW.no O4_0 f12
  replace O7_0 := OwW.no O7_0 f12
  replace O9_0 := OwR.no O9_0 f12
  replace N11_0 := OwR.no N11_0 f12
  replace fz := fz.no_trans f12
  refine ⟨fun e => ?_, fun e => ?_⟩
  · first | (simp at e; done) | (simp only [decide_eq_true_eq] at e; omega)
  (try simp only [decide_eq_false_iff_not] at e)
  refine g_markWalkS O7_0 (by omega) _ (by omega) (by omega) _ fun h_14 N13_0 f13 => ⟨_, rfl, hL.iv f13 ⟨show b_2 < h_7.size ∨ h_8.size ≤ b_2 by omega, show b_1 < h_7.size ∨ h_8.size ≤ b_1 by omega, trivial⟩, ?_⟩
  replace hL := hL.iv f13 ⟨show b_2 < h_7.size ∨ h_8.size ≤ b_2 by omega, show b_1 < h_7.size ∨ h_8.size ≤ b_1 by omega, trivial⟩
  have z_f13 := f13.size
  replace G0 := RdR.iv G0 f13 (by omega)
  replace O3_0 := OwR.iv O3_0 f13 (by omega)
  replace O4_0 := OwW.iv O4_0 f13 (by omega)
  replace O9_0 := OwR.iv O9_0 f13 (by omega)
  replace N11_0 := OwR.iv N11_0 f13 (by omega)
  replace fz := fz.ivFresh f13 (by omega)
  refine g_heldWalkS (OwW.rdI N13_0) (by omega) (by omega) (by omega) _ fun h_15 f14 => ⟨_, rfl, hL.of_no f14, ?_⟩
  replace hL := hL.of_no f14
  have z_f14 := f14.size
  replace G0 := RdR.no G0 f14
  replace O3_0 := OwR.no O3_0 f14
  replace O4_0 := OwW.no O4_0 f14
  replace O9_0 := OwR.no O9_0 f14
  replace N11_0 := OwR.no N11_0 f14
  replace N13_0 := OwW.no N13_0 f14
  replace fz := fz.no_trans f14
  refine ⟨fun e => ?_, fun e => ?_⟩
  · first | (simp at e; done) | (simp only [decide_eq_true_eq] at e; omega)
  (try simp only [decide_eq_false_iff_not] at e)
  refine ⟨fun e => ?_, fun e => ?_⟩
  · first | (simp at e; done) | (simp only [decide_eq_true_eq] at e; omega)
  (try simp only [decide_eq_false_iff_not] at e)
  refine g_toGraph G0 (by omega) _ fun u15_0 h_16 O15_0 f15 => ⟨u15_0, rfl, hL.of_no f15, ?_⟩
  replace hL := hL.of_no f15
  have z_f15 := f15.size
  replace G0 := RdR.no G0 f15
  replace O3_0 := OwR.no O3_0 f15
  replace O4_0 := OwW.no O4_0 f15
  replace O9_0 := OwR.no O9_0 f15
  replace N11_0 := OwR.no N11_0 f15
  replace N13_0 := OwW.no N13_0 f15
  replace fz := fz.no_trans f15
  refine k_AllUnicycles (OwR.rdI O15_0) _ _ fun u16_0 h_17 O16_0 f16 => ⟨u16_0, _, rfl, hL.of_no f16, ?_⟩
  replace hL := hL.of_no f16
  have z_f16 := f16.size
  replace G0 := RdR.no G0 f16
  replace O3_0 := OwR.no O3_0 f16
  replace O4_0 := OwW.no O4_0 f16
  replace O9_0 := OwR.no O9_0 f16
  replace N11_0 := OwR.no N11_0 f16
  replace N13_0 := OwW.no N13_0 f16
  replace O15_0 := OwR.no O15_0 f16
  replace fz := fz.no_trans f16
  refine g_eqWalkS (OwW.rdI O16_0) (OwW.rdI O4_0) _ fun h_18 f17 => ⟨_, rfl, hL.of_no f17, ?_⟩
  replace hL := hL.of_no f17
  have z_f17 := f17.size
  replace G0 := RdR.no G0 f17
  replace O3_0 := OwR.no O3_0 f17
  replace O4_0 := OwW.no O4_0 f17
  replace O9_0 := OwR.no O9_0 f17
  replace N11_0 := OwR.no N11_0 f17
  replace N13_0 := OwW.no N13_0 f17
  replace O15_0 := OwR.no O15_0 f17
  replace O16_0 := OwW.no O16_0 f17
  replace fz := fz.no_trans f17
  refine ⟨fun e => ?_, fun e => ?_⟩
  · first | (simp at e; done) | (simp only [decide_eq_true_eq] at e; omega)
  (try simp only [decide_eq_false_iff_not] at e)
  refine ⟨fun e => ?_, fun e => ?_⟩
  · first | (simp at e; done) | (simp only [decide_eq_true_eq] at e; omega)
  (try simp only [decide_eq_false_iff_not] at e)
  refine g_heldWalkS (OwW.rdI N13_0) (by omega) (by omega) (by omega) _ fun h_19 f18 => ⟨_, rfl, hL.of_no f18, ?_⟩
  replace hL := hL.of_no f18
  have z_f18 := f18.size
  replace G0 := RdR.no G0 f18
  replace O3_0 := OwR.no O3_0 f18
  replace O4_0 := OwW.no O4_0 f18
  replace O9_0 := OwR.no O9_0 f18
  replace N11_0 := OwR.no N11_0 f18
  replace N13_0 := OwW.no N13_0 f18
  replace O15_0 := OwR.no O15_0 f18
  replace O16_0 := OwW.no O16_0 f18
  replace fz := fz.no_trans f18
  refine ⟨fun e => ?_, fun e => ?_⟩
  · first | (simp at e; done) | (simp only [decide_eq_true_eq] at e; omega)
  (try simp only [decide_eq_false_iff_not] at e)
  refine ⟨fun e => ?_, fun e => ?_⟩
  · first | (simp at e; done) | (simp only [decide_eq_true_eq] at e; omega)
  (try simp only [decide_eq_false_iff_not] at e)
  exact HK _ fz
end Go.Proofs.Ytkjkfjkapbpgiaa
