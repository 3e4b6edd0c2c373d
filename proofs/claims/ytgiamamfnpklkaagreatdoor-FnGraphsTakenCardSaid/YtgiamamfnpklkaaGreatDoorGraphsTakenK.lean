/-
  What each function that the law 'FnGraphsTaken' comes to does: the contracts.
-/
import Derived.Test.YtgiamamfnpklkaaGreatDoorGraphsTakenK0
set_option linter.unusedVariables false
set_option linter.unusedSimpArgs false
namespace Go.Proofs.YtgiamamfnpklkaaGreatDoor
open Go Go.Mx
/-! The reversed graph. -/
def revIn (p : Int) : List Int → List (List Int) → List (List Int)
  | [], R => R
  | q :: qs, R => revIn p qs (R.set q.toNat (R.getD q.toNat [] ++ [p]))
def revN (g : List (List Int)) : Nat → List (List Int)
  | 0 => List.replicate g.length []
  | p + 1 => revIn p (g.getD p []) (revN g p)
def revL (g : List (List Int)) : List (List Int) := revN g g.length
def revP (g : List (List Int)) : List (List Int) × Bool := if graphB g then (toldP (revL g), graphB (revL g)) else ([], false)
theorem revIn_length (p : Int) : ∀ (qs : List Int) (R : List (List Int)), (revIn p qs R).length = R.length
  | [], R => rfl
  | q :: qs, R => by rw [revIn, revIn_length p qs, List.length_set]
theorem revN_length (g : List (List Int)) : ∀ n, (revN g n).length = g.length
  | 0 => by simp [revN]
  | n + 1 => by rw [revN, revIn_length, revN_length]
theorem revIn_app (p : Int) (v : List Int) : ∀ (w : List Int) (R : List (List Int)), revIn p (w ++ v) R = revIn p v (revIn p w R)
  | [], R => rfl
  | y :: r, R => by rw [List.cons_append, revIn, revIn, revIn_app p v r]
theorem rev_set {R : List (List Int)} {i j : Nat} {v : List Int} (hi : i < R.length) : (R.set i v).getD j [] = if i = j then v else R.getD j [] := by
  rw [List.getD_eq_getElem?_getD, List.getElem?_set, List.getD_eq_getElem?_getD]
  by_cases h : i = j
  · subst h; simp [hi]
  · simp [h]
theorem revIn_get (p : Int) : ∀ (qs : List Int) (R : List (List Int)), (∀ q, q ∈ qs → 0 ≤ q ∧ q < (R.length : Int)) → ∀ y : Nat, (revIn p qs R).getD y [] = R.getD y [] ++ List.replicate (qs.count (y : Int)) p
  | [], R, _, y => by simp [revIn]
  | q :: qs, R, h, y => by
    have hq := h q List.mem_cons_self
    rw [revIn, revIn_get p qs _ (fun z hz => by rw [List.length_set]; exact h z (List.mem_cons_of_mem _ hz)), rev_set (by omega), List.count_cons]
    by_cases e : q = (y : Int)
    · rw [if_pos (by omega), if_pos (beq_iff_eq.2 e), show q.toNat = y by omega, List.replicate_succ, List.append_assoc, List.singleton_append]
    · rw [if_neg (by omega), if_neg (fun h => e (beq_iff_eq.1 h)), Nat.add_zero]
/-- A row of the reversed graph. -/
def revR (g : List (List Int)) (y : Nat) : Nat → List Int
  | 0 => []
  | p + 1 => revR g y p ++ List.replicate ((g.getD p []).count (y : Int)) (p : Int)
theorem revN_get {g : List (List Int)} (hg : graphB g = true) (y : Nat) : ∀ n, n ≤ g.length → (revN g n).getD y [] = revR g y n
  | 0, _ => by
    rw [revN, revR, List.getD_eq_getElem?_getD, List.getElem?_replicate]
    split <;> rfl
  | n + 1, h => by
    rw [revN, revR, revIn_get _ _ _ (fun q hq => ?_), revN_get hg y n (by omega)]
    rw [revN_length]
    rw [getD_get (by omega)] at hq
    exact (graph_mem hg (List.getElem_mem (show n < g.length by omega))).2 q hq
theorem revR_len (g : List (List Int)) (y : Nat) : ∀ n, n ≤ g.length → (revR g y n).length = (g.take n).flatten.count (y : Int)
  | 0, _ => by simp [revR]
  | n + 1, h => by
    rw [revR, List.length_append, List.length_replicate, revR_len g y n (by omega), List.take_add_one, List.getElem?_eq_getElem (by omega), Option.toList_some, List.flatten_append, List.count_append, getD_get (by omega)]
    simp
theorem revR_short {g : List (List Int)} (hg : graphB g = true) (y n : Nat) (h : n ≤ g.length) : (revR g y n).length ≤ 40 := by
  rw [revR_len g y n h]
  have h1 : (g.take n).flatten.count (y : Int) ≤ (g.take n).flatten.length := List.count_le_length
  have h2 := graph_tot hg
  have h3 : (g.take n).flatten.length ≤ g.flatten.length := by
    conv => rhs; rw [← List.take_append_drop n g, List.flatten_append, List.length_append]
    omega
  have h4 := totR_flat g
  omega
theorem revN_short {g : List (List Int)} (hg : graphB g = true) {n : Nat} (hn : n < g.length) (qs : List Int) (hq : ∀ q, q ∈ qs → 0 ≤ q ∧ q < (g.length : Int)) (hl : qs.length ≤ 40) (y : Nat) : ((revIn n qs (revN g n)).getD y []).length ≤ 80 := by
  rw [revIn_get _ _ _ (fun q h => by rw [revN_length]; exact hq q h), List.length_append, List.length_replicate, revN_get hg y n (by omega)]
  have h1 := revR_short hg y n (by omega)
  have h2 : qs.count (y : Int) ≤ qs.length := List.count_le_length
  omega

theorem k_spec_ReverseGraph {S : Nat → Prop} {h : Heap} {g : Sl} {xss : List (List Int)} (G : RdR S h g xss) (K : Value → Heap → Prop) (HK : ∀ t h', OwX h' (Iv h.size h'.size) t (revP xss).1 → Fr No h h' → K (.tuple #[.agg #[t.v], VB (revP xss).2]) h') : callM Tryz.prog 21 #[.agg #[g.v]] h K := by
  refine v21 g h K fun b1 b2 h0 hb1 hb2 f0 hL0 => ?_
  have f0 := f0.in_nil
  have z0 := f0.size
  have l2 : b2 < h0.size := hL0.head.lt
  have l1 : b1 < h0.size := hL0.tail.head.lt
  unfold revP at HK
  refine k_spec_grGood (G.no f0) _ fun h2 f2 => ⟨_, rfl, hL0.of_no f2, fun e h4 f4 hL4 => ?_, fun e => ?_⟩
  · rw [if_neg (by rw [not_t e]; simp)] at HK
    exact HK nilSl _ (OwR.nil _ _ _ _) ((f0.no_trans f2).fresh f4 fun k hk => by simp [In] at hk; omega)
  have hg := not_f e
  rw [if_pos hg] at HK
  have hgl := graph_len hg
  have gn := G.len
  have f02 := f0.no_trans f2
  have hL2 := hL0.of_no f2
  have z2 := f2.size
  refine eop_make rIss (fun k => h2.size ≤ k) (fun _ h => h) .i64 .i64 g.n g.n (Nat.le_refl _) (by omega) fun t h3 n3 c3 o3 f3 m3 _ => ⟨t, rfl, hL2.of_no f3, fun b3 h5 hb3 f5 hL5 => ?_⟩
  have o3 : OwX h3 (fun k => h2.size ≤ k) t (List.replicate xss.length []) := OwR.zeros _ (by rw [gn] at o3; exact o3)
  have f5 := f5.in_nil
  have z3 := f3.size
  have z5 := f5.size
  have l3 : b3 < h5.size := hL5.head.lt
  generalize hF : (fun k => (h2.size ≤ k ∧ k < h3.size) ∨ h5.size ≤ k) = F
  have F1 : ∀ k, F k → h2.size ≤ k := fun k hk => by rw [← hF] at hk; rcases hk with a | a <;> omega
  have F2 : ∀ k, h5.size ≤ k → F k := fun k hk => by rw [← hF]; exact .inr hk
  have F3 : ¬ F b3 := fun hk => by rw [← hF] at hk; rcases hk with a | a <;> omega
  have o5 : OwX h5 F t (List.replicate xss.length []) := (o3.mono fun k hk hk2 => by rw [← hF]; exact .inl ⟨hk2, hk⟩ : OwX h3 F t _).no f5
  have f05 : Fr No h h5 := (f02.no_trans f3).no_trans f5
  have GL := G.low
  have hoff : ∀ (A B C : List Value) (q : Nat × List Value), q ∈ [(b3, A), (b2, B), (b1, C)] → ¬ F q.1 := fun A B C q hq => by
    simp only [List.mem_cons, List.not_mem_nil, or_false] at hq
    rcases hq with rfl | rfl | rfl
    · exact F3
    · exact fun hk => by have := F1 _ hk; omega
    · exact fun hk => by have := F1 _ hk; omega
  refine ⟨fun n p h' => 0 ≤ p ∧ p + n = (xss.length : Int) ∧ OwX h' F t (revN xss p.toNat) ∧ Fr No h h' ∧ h5.size ≤ h'.size, ⟨xss.length, by omega, by omega, o5, f05, Nat.le_refl _⟩, ?_⟩
  rintro n p h6 ⟨p0, p1, o6, f6, z6⟩ hL6
  have G6 := GL.no f6
  refine ⟨fun e => ?_, fun e => ?_⟩
  · have hp := G6.lt e
    obtain ⟨row, c1, r1⟩ := G6.get p0 hp
    refine ⟨G6.inb p0 hp, row, c1, ?_⟩
    have hrow := graph_mem hg (List.getElem_mem (show p.toNat < xss.length by omega))
    have eG : xss.getD p.toNat [] = xss[p.toNat]'(by omega) := getD_get (by omega)
    obtain ⟨rw0, hrw⟩ : ∃ l, xss[p.toNat]'(by omega) = l := ⟨_, rfl⟩
    rw [hrw] at hrow eG r1
    rw [G6.succ p0 hp]
    have ep : ((p.toNat : Nat) : Int) = p := by omega
    refine ⟨fun m j h' => 0 ≤ j ∧ j + m = (rw0.length : Int) ∧ OwX h' F t (revIn p (rw0.take j.toNat) (revN xss p.toNat)) ∧ Fr No h h' ∧ h5.size ≤ h'.size ∧ RdI (fun k => k < h.size) h' row rw0, ⟨rw0.length, by omega, by omega, by simpa [revIn] using o6, f6, z6, r1⟩, ?_⟩
    rintro m j h7 ⟨j0, j1, o7, f7, z7, r7⟩ hL7
    refine ⟨fun e2 => ?_, fun e2 => ?_⟩
    · have hj := r7.lt e2
      have hq := hrow.2 _ (List.getElem_mem (show j.toNat < rw0.length by omega))
      obtain ⟨q, hqe⟩ : ∃ q, rw0[j.toNat]'(by omega) = q := ⟨_, rfl⟩
      rw [hqe] at hq
      have lenR : (revIn p (rw0.take j.toNat) (revN xss p.toNat)).length = xss.length := by rw [revIn_length, revN_length]
      have hxl : q.toNat < (revIn p (rw0.take j.toNat) (revN xss p.toNat)).length := by omega
      have rowlen : ((revIn p (rw0.take j.toNat) (revN xss p.toNat))[q.toNat]'hxl).length ≤ 1000000 := by
        have := revN_short hg (n := p.toNat) (by omega) (rw0.take j.toNat) (fun q hq => hrow.2 q (List.mem_of_mem_take hq)) (by rw [List.length_take]; have := hrow.1; omega) q.toNat
        rw [ep, getD_get hxl] at this
        omega
      obtain ⟨si, d1, d2⟩ := (OwR.rd o7).get hq.1 (by omega)
      refine ⟨r7.inb j0 hj, q, by rw [r7.get j0 hj, hqe], (OwR.rd o7).inb hq.1 (by omega), si, d1, ?_⟩
      refine row_putF o7 (fun k hk => F2 k (by omega)) hq.1 (by omega) d1 hL7 (fun q hq => hoff _ _ _ q hq) rowlen _ _ fun h8 o8 f8 V8 => ?_
      rw [r7.succ j0 hj]
      refine ⟨m - 1, by omega, by omega, by omega, ?_, f7.fresh f8 fun k hk => by have := F1 k hk; omega, by have := f8.size; omega, r7.fr f8 fun k hk hk2 => by have := F1 k hk2; omega⟩
      rw [take_snoc _ j0 hj, revIn_app, revIn, revIn, hqe, getD_get hxl]
      exact o8
    · have hj := r7.ge e2
      rw [List.take_of_length_le (by omega)] at o7
      refine ⟨n - 1, by omega, by omega, by omega, ?_, f7, z7⟩
      rw [toNat_succ p0, revN, eG, ep]
      exact o7
  · have hp := G6.ge e
    rw [show p.toNat = xss.length by omega] at o6
    have o6' : OwX h6 (Iv h2.size h6.size) t (revL xss) := o6.mono fun k hk hF => ⟨F1 k hF, hk⟩
    refine k_grIf o6' (Nat.le_refl _) _ fun u h7 o7 f7 => ⟨u, _, rfl, hL6.of_no f7, fun h8 f8 hL8 => ?_⟩
    have z7 := f7.size
    have z8 := f8.size
    refine HK u h8 ?_ ((f6.no_trans f7).fresh f8 fun k hk => by simp [In] at hk; omega)
    exact (OwR.fr o7 f8 fun k hk hk2 hk3 => by simp [In] at hk3; have := hk2.1; omega).mono fun k hk hk2 => ⟨by have := hk2.1; omega, hk⟩

theorem k_ReverseGraph {S : Nat → Prop} {h : Heap} {g : Sl} {xss : List (List Int)} (G : RdR S h g xss) (K : Value → Heap → Prop) (HK : ∀ t h', OwX h' (Iv h.size h'.size) t (revP xss).1 → Fr No h h' → K (.tuple #[.agg #[t.v], VB (revP xss).2]) h') : callM Tryz.prog 20 #[.agg #[g.v]] h K := by
  refine v20 g h K fun b1 b2 h0 hb1 hb2 f0 hL0 => ?_
  have f0 := f0.in_nil
  have z0 := f0.size
  have l2 : b2 < h0.size := hL0.head.lt
  have l1 : b1 < h0.size := hL0.tail.head.lt
  unfold revP at HK
  refine k_isGraph (G.no f0) _ fun h2 f2 => ⟨_, rfl, hL0.of_no f2, fun e h4 f4 hL4 => ?_, fun e => ?_⟩
  · rw [if_neg (by rw [not_t e]; simp)] at HK
    exact HK nilSl _ (OwR.nil _ _ _ _) ((f0.no_trans f2).fresh f4 fun k hk => by simp [In] at hk; omega)
  have hg := not_f e
  rw [if_pos hg] at HK
  have hgl := graph_len hg
  have gn := G.len
  have f02 := f0.no_trans f2
  have hL2 := hL0.of_no f2
  have z2 := f2.size
  refine eop_make rIss (fun k => h2.size ≤ k) (fun _ h => h) .i64 .i64 g.n g.n (Nat.le_refl _) (by omega) fun t h3 n3 c3 o3 f3 m3 _ => ⟨t, rfl, hL2.of_no f3, fun b3 h5 hb3 f5 hL5 => ?_⟩
  have o3 : OwX h3 (fun k => h2.size ≤ k) t (List.replicate xss.length []) := OwR.zeros _ (by rw [gn] at o3; exact o3)
  have f5 := f5.in_nil
  have z3 := f3.size
  have z5 := f5.size
  have l3 : b3 < h5.size := hL5.head.lt
  generalize hF : (fun k => (h2.size ≤ k ∧ k < h3.size) ∨ h5.size ≤ k) = F
  have F1 : ∀ k, F k → h2.size ≤ k := fun k hk => by rw [← hF] at hk; rcases hk with a | a <;> omega
  have F2 : ∀ k, h5.size ≤ k → F k := fun k hk => by rw [← hF]; exact .inr hk
  have F3 : ¬ F b3 := fun hk => by rw [← hF] at hk; rcases hk with a | a <;> omega
  have o5 : OwX h5 F t (List.replicate xss.length []) := (o3.mono fun k hk hk2 => by rw [← hF]; exact .inl ⟨hk2, hk⟩ : OwX h3 F t _).no f5
  have f05 : Fr No h h5 := (f02.no_trans f3).no_trans f5
  have GL := G.low
  have hoff : ∀ (A B C : List Value) (q : Nat × List Value), q ∈ [(b3, A), (b2, B), (b1, C)] → ¬ F q.1 := fun A B C q hq => by
    simp only [List.mem_cons, List.not_mem_nil, or_false] at hq
    rcases hq with rfl | rfl | rfl
    · exact F3
    · exact fun hk => by have := F1 _ hk; omega
    · exact fun hk => by have := F1 _ hk; omega
  refine ⟨fun n p h' => 0 ≤ p ∧ p + n = (xss.length : Int) ∧ OwX h' F t (revN xss p.toNat) ∧ Fr No h h' ∧ h5.size ≤ h'.size, ⟨xss.length, by omega, by omega, o5, f05, Nat.le_refl _⟩, ?_⟩
  rintro n p h6 ⟨p0, p1, o6, f6, z6⟩ hL6
  have G6 := GL.no f6
  refine ⟨fun e => ?_, fun e => ?_⟩
  · have hp := G6.lt e
    obtain ⟨row, c1, r1⟩ := G6.get p0 hp
    refine ⟨G6.inb p0 hp, row, c1, ?_⟩
    have hrow := graph_mem hg (List.getElem_mem (show p.toNat < xss.length by omega))
    have eG : xss.getD p.toNat [] = xss[p.toNat]'(by omega) := getD_get (by omega)
    obtain ⟨rw0, hrw⟩ : ∃ l, xss[p.toNat]'(by omega) = l := ⟨_, rfl⟩
    rw [hrw] at hrow eG r1
    rw [G6.succ p0 hp]
    have ep : ((p.toNat : Nat) : Int) = p := by omega
    refine ⟨fun m j h' => 0 ≤ j ∧ j + m = (rw0.length : Int) ∧ OwX h' F t (revIn p (rw0.take j.toNat) (revN xss p.toNat)) ∧ Fr No h h' ∧ h5.size ≤ h'.size ∧ RdI (fun k => k < h.size) h' row rw0, ⟨rw0.length, by omega, by omega, by simpa [revIn] using o6, f6, z6, r1⟩, ?_⟩
    rintro m j h7 ⟨j0, j1, o7, f7, z7, r7⟩ hL7
    refine ⟨fun e2 => ?_, fun e2 => ?_⟩
    · have hj := r7.lt e2
      have hq := hrow.2 _ (List.getElem_mem (show j.toNat < rw0.length by omega))
      obtain ⟨q, hqe⟩ : ∃ q, rw0[j.toNat]'(by omega) = q := ⟨_, rfl⟩
      rw [hqe] at hq
      have lenR : (revIn p (rw0.take j.toNat) (revN xss p.toNat)).length = xss.length := by rw [revIn_length, revN_length]
      have hxl : q.toNat < (revIn p (rw0.take j.toNat) (revN xss p.toNat)).length := by omega
      have rowlen : ((revIn p (rw0.take j.toNat) (revN xss p.toNat))[q.toNat]'hxl).length ≤ 1000000 := by
        have := revN_short hg (n := p.toNat) (by omega) (rw0.take j.toNat) (fun q hq => hrow.2 q (List.mem_of_mem_take hq)) (by rw [List.length_take]; have := hrow.1; omega) q.toNat
        rw [ep, getD_get hxl] at this
        omega
      obtain ⟨si, d1, d2⟩ := (OwR.rd o7).get hq.1 (by omega)
      refine ⟨r7.inb j0 hj, q, by rw [r7.get j0 hj, hqe], (OwR.rd o7).inb hq.1 (by omega), si, d1, ?_⟩
      refine row_putF o7 (fun k hk => F2 k (by omega)) hq.1 (by omega) d1 hL7 (fun q hq => hoff _ _ _ q hq) rowlen _ _ fun h8 o8 f8 V8 => ?_
      rw [r7.succ j0 hj]
      refine ⟨m - 1, by omega, by omega, by omega, ?_, f7.fresh f8 fun k hk => by have := F1 k hk; omega, by have := f8.size; omega, r7.fr f8 fun k hk hk2 => by have := F1 k hk2; omega⟩
      rw [take_snoc _ j0 hj, revIn_app, revIn, revIn, hqe, getD_get hxl]
      exact o8
    · have hj := r7.ge e2
      rw [List.take_of_length_le (by omega)] at o7
      refine ⟨n - 1, by omega, by omega, by omega, ?_, f7, z7⟩
      rw [toNat_succ p0, revN, eG, ep]
      exact o7
  · have hp := G6.ge e
    rw [show p.toNat = xss.length by omega] at o6
    have o6' : OwX h6 (Iv h2.size h6.size) t (revL xss) := o6.mono fun k hk hF => ⟨F1 k hF, hk⟩
    refine k_told o6' (Nat.le_refl _) _ fun u h7 o7 f7 => ⟨u, _, rfl, hL6.of_no f7, fun h8 f8 hL8 => ?_⟩
    have z7 := f7.size
    have z8 := f8.size
    refine HK u h8 ?_ ((f6.no_trans f7).fresh f8 fun k hk => by simp [In] at hk; omega)
    exact (OwR.fr o7 f8 fun k hk hk2 hk3 => by simp [In] at hk3; have := hk2.1; omega).mono fun k hk hk2 => ⟨by have := hk2.1; omega, hk⟩

/-! What the reversed graph has. -/
theorem revL_length (g : List (List Int)) : (revL g).length = g.length := revN_length g _
theorem revL_get {g : List (List Int)} (hg : graphB g = true) (y : Nat) : (revL g).getD y [] = revR g y g.length := revN_get hg y _ (Nat.le_refl _)
theorem revR_mem {g : List (List Int)} {y : Nat} {x : Int} : ∀ n, x ∈ revR g y n ↔ 0 ≤ x ∧ x < (n : Int) ∧ (y : Int) ∈ g.getD x.toNat []
  | 0 => by simp [revR]; intro a b; omega
  | n + 1 => by
    rw [revR, List.mem_append, revR_mem n, List.mem_replicate]
    constructor
    · rintro (⟨a, b, c⟩ | ⟨a, rfl⟩)
      · exact ⟨a, by omega, c⟩
      · refine ⟨by omega, by omega, ?_⟩
        rw [Int.toNat_natCast]
        exact List.count_pos_iff.1 (by omega)
    · rintro ⟨a, b, c⟩
      by_cases e : x < (n : Int)
      · exact .inl ⟨a, e, c⟩
      · have e : x = (n : Int) := by omega
        subst e
        rw [Int.toNat_natCast] at c
        exact .inr ⟨by have := List.count_pos_iff.2 c; omega, rfl⟩
theorem revL_eq {g : List (List Int)} (hg : graphB g = true) : revL g = (List.range g.length).map fun y => revR g y g.length := by
  apply List.ext_getElem (by rw [revL_length, List.length_map, List.length_range])
  intro i a b
  rw [List.getElem_map, List.getElem_range, ← revL_get hg, getD_get a]
theorem sum_addm (f k : Nat → Nat) : ∀ l : List Nat, (l.map fun y => f y + k y).sum = (l.map f).sum + (l.map k).sum
  | [] => rfl
  | x :: l => by
    simp only [List.map_cons, List.sum_cons]
    rw [sum_addm f k l]
    omega
theorem sum_one {x : Int} : ∀ n : Nat, ((List.range n).map fun y : Nat => if x == (y : Int) then 1 else 0).sum = if 0 ≤ x ∧ x < (n : Int) then 1 else 0
  | 0 => by
    rw [if_neg (by omega)]
    rfl
  | n + 1 => by
    rw [List.range_succ, List.map_append, List.sum_append, sum_one n, List.map_cons, List.map_nil, List.sum_cons, List.sum_nil, Nat.add_zero]
    by_cases e : x = (n : Int)
    · rw [if_neg (by omega), if_pos (beq_iff_eq.2 e), if_pos (by omega)]
    · rw [if_neg (fun h => e (beq_iff_eq.1 h)), Nat.add_zero]
      by_cases h : 0 ≤ x ∧ x < (n : Int)
      · rw [if_pos h, if_pos (by omega)]
      · rw [if_neg h, if_neg (by omega)]
theorem sum_count (n : Nat) : ∀ l : List Int, (∀ x, x ∈ l → 0 ≤ x ∧ x < (n : Int)) → ((List.range n).map fun y : Nat => l.count (y : Int)).sum = l.length
  | [], _ => by
    have : ∀ k : List Nat, (k.map fun y : Nat => ([] : List Int).count (y : Int)).sum = 0 := fun k => by
      induction k with
      | nil => rfl
      | cons a k ih => rw [List.map_cons, List.sum_cons, ih, List.count_nil]
    exact this _
  | x :: l, h => by
    have e : (fun y : Nat => (x :: l).count (y : Int)) = fun y : Nat => l.count (y : Int) + if x == (y : Int) then 1 else 0 := funext fun y => List.count_cons
    rw [e, sum_addm, sum_count n l fun z hz => h z (List.mem_cons_of_mem _ hz), sum_one, if_pos (h x List.mem_cons_self), List.length_cons]
theorem graph_flat {g : List (List Int)} (hg : graphB g = true) : ∀ x, x ∈ g.flatten → 0 ≤ x ∧ x < (g.length : Int) := fun x hx => by
  obtain ⟨l, hl, hx⟩ := List.mem_flatten.1 hx
  exact (graph_mem hg hl).2 x hx
theorem revL_tot {g : List (List Int)} (hg : graphB g = true) : totR (revL g) = totR g := by
  rw [← totR_flat g, ← sum_count g.length g.flatten (graph_flat hg), revL_eq hg, totR, List.map_map]
  congr 1
  refine List.map_congr_left fun y hy => ?_
  show (revR g y g.length).length = _
  rw [revR_len g y _ (Nat.le_refl _), List.take_length]
theorem revR_count {g : List (List Int)} {y p : Nat} : ∀ n, (revR g y n).count (p : Int) = if p < n then (g.getD p []).count (y : Int) else 0
  | 0 => by simp [revR]
  | n + 1 => by
    rw [revR, List.count_append, revR_count n, List.count_replicate]
    by_cases e : p = n
    · subst e
      rw [if_neg (by omega), if_pos (beq_self_eq_true _), if_pos (by omega), Nat.zero_add]
    · have e2 : ((n : Int) == (p : Int)) = false := by rw [beq_eq_false_iff_ne]; omega
      rw [e2, if_neg Bool.false_ne_true, Nat.add_zero]
      by_cases h : p < n
      · rw [if_pos h, if_pos (by omega)]
      · rw [if_neg h, if_neg (by omega)]
theorem revL_count {g : List (List Int)} (hg : graphB g = true) {p : Nat} (hp : p < g.length) : (revL g).flatten.count (p : Int) = (g[p]).length := by
  rw [revL_eq hg, List.count_flatten, List.map_map]
  have hr : ∀ x, x ∈ g[p] → 0 ≤ x ∧ x < (g.length : Int) := (graph_mem hg (List.getElem_mem hp)).2
  rw [← sum_count g.length (g[p]) hr]
  congr 1
  refine List.map_congr_left fun y hy => ?_
  show (revR g y g.length).count (p : Int) = _
  rw [revR_count, if_pos hp, getD_get hp]
theorem revL_row {g : List (List Int)} (hg : graphB g = true) {p : Nat} (hp : p < (revL g).length) : ((revL g)[p]).length = g.flatten.count (p : Int) := by
  rw [← getD_get hp, revL_get hg, revR_len g p _ (Nat.le_refl _), List.take_length]
theorem revL_twice {g : List (List Int)} (hg : graphB g = true) (hG : graphB (revL g) = true) {p : Nat} (hp : p < g.length) (hp' : p < (revL (revL g)).length) : ((revL (revL g))[p]).length = (g[p]).length := by
  rw [revL_row hG hp', revL_count hg hp]
theorem revL_graph {g : List (List Int)} (hg : graphB g = true) (hG : graphB (revL g) = true) : graphB (revL (revL g)) = true := by
  have gl := graph_len hg
  have ll : (revL (revL g)).length = g.length := by rw [revL_length, revL_length]
  unfold graphB
  rw [Bool.and_eq_true, inR_iff, ll]
  refine ⟨by omega, List.all_eq_true.2 fun l hl => ?_⟩
  obtain ⟨p, hp, rfl⟩ := List.getElem_of_mem hl
  have hp2 : p < g.length := by omega
  rw [Bool.and_eq_true]
  refine ⟨?_, List.all_eq_true.2 fun x hx => ?_⟩
  · rw [revL_twice hg hG hp2 hp]
    have := (graph_mem hg (List.getElem_mem hp2)).1
    rw [decide_eq_false (by omega)]
    rfl
  · rw [← getD_get hp, revL_get hG, revL_length] at hx
    have := (revR_mem _).1 hx
    exact inR_iff.2 (by omega)
theorem way_rev {g g' : List (List Int)} (hg : graphB g = true) (h : ∀ x y : Int, 0 ≤ x → x < (g.length : Int) → y ∈ g.getD x.toNat [] → x ∈ g'.getD y.toNat []) {p : Int} (p0 : 0 ≤ p) (p1 : p < (g.length : Int)) : ∀ {k : Nat} {q : Int}, Way g p k q → Way g' q k p
  | 0, q, w => Eq.symm (show p = q from w)
  | k + 1, q, w => by
    obtain ⟨x, hx, hq⟩ := w
    have hr := Way.rng hg p0 p1 hx
    have w1 : Way g' q 1 x := ⟨q, rfl, h x q hr.1 hr.2 hq⟩
    rw [Nat.add_comm]
    exact w1.trans (way_rev hg h p0 p1 hx)
theorem strong_iff {g : List (List Int)} (hg : graphB g = true) : strongB g = true ↔ ∀ p q : Int, 0 ≤ p → p < (g.length : Int) → 0 ≤ q → q < (g.length : Int) → ∃ k, Way g p k q := by
  constructor
  · intro hs p q p0 p1 q0 q1
    have := List.all_eq_true.1 hs p.toNat (List.mem_range.2 (by omega))
    rw [decide_eq_true_eq, show ((p.toNat : Nat) : Int) = p by omega] at this
    have hl := (far_bq hg p0 p1).len
    rw [← hl, List.countP_eq_length] at this
    refine (far_iff hg p0 p1 q0 q1).1 ?_
    have hq : q.toNat < (farP g p).length := by omega
    have := this _ (List.getElem_mem hq)
    rw [decide_eq_true_eq] at this
    rw [List.getD_eq_getElem?_getD, List.getElem?_eq_getElem hq]
    exact this
  · intro h
    refine List.all_eq_true.2 fun p hp => ?_
    have hp := List.mem_range.1 hp
    have hl := (far_bq hg (show (0 : Int) ≤ (p : Int) by omega) (show (p : Int) < g.length by omega)).len
    rw [decide_eq_true_eq]
    conv => rhs; rw [← hl]
    rw [List.countP_eq_length]
    intro x hx
    obtain ⟨i, hi, rfl⟩ := List.getElem_of_mem hx
    rw [decide_eq_true_eq]
    have := (far_iff hg (show (0 : Int) ≤ (p : Int) by omega) (show (p : Int) < g.length by omega) (show (0 : Int) ≤ (i : Int) by omega) (by omega)).2 (h p i (by omega) (by omega) (by omega) (by omega))
    rw [Int.toNat_natCast, List.getD_eq_getElem?_getD, List.getElem?_eq_getElem hi] at this
    exact this
theorem revL_strong {g : List (List Int)} (hg : graphB g = true) (hG : graphB (revL g) = true) : strongB (revL g) = strongB g := by
  have a : ∀ x y : Int, 0 ≤ x → x < (g.length : Int) → y ∈ g.getD x.toNat [] → x ∈ (revL g).getD y.toNat [] := fun x y x0 x1 hy => by
    have hr := (graph_mem hg (List.getElem_mem (show x.toNat < g.length by omega))).2 y (by rw [← getD_get (by omega)]; exact hy)
    rw [revL_get hg, revR_mem]
    refine ⟨x0, x1, ?_⟩
    rw [show ((y.toNat : Nat) : Int) = y by omega]
    exact hy
  have b : ∀ x y : Int, 0 ≤ x → x < ((revL g).length : Int) → y ∈ (revL g).getD x.toNat [] → x ∈ g.getD y.toNat [] := fun x y x0 x1 hy => by
    rw [revL_get hg, revR_mem] at hy
    rw [show ((x.toNat : Nat) : Int) = x by omega] at hy
    exact hy.2.2
  have ll := revL_length g
  rw [Bool.eq_iff_iff, strong_iff hG, strong_iff hg, ll]
  constructor
  · intro h p q p0 p1 q0 q1
    obtain ⟨k, w⟩ := h q p q0 q1 p0 p1
    exact ⟨k, way_rev hG b q0 (by omega) w⟩
  · intro h p q p0 p1 q0 q1
    obtain ⟨k, w⟩ := h q p q0 q1 p0 p1
    exact ⟨k, way_rev hg a q0 q1 w⟩

theorem k_DrawIsGraph {S : Nat → Prop} {h : Heap} {code : Sl} {vs : List Value} (C : RdV S h 1 code vs) (B : ∀ v, v ∈ vs → ∃ m : Int, v = Value.int .u8 m ∧ 0 ≤ m ∧ m ≤ 255) (K : Value → Heap → Prop) (HK : ∀ (t : Sl) (gs : List (List Int)) h', gs.length ≤ 9 → RdR (fun k => h.size ≤ k) h' t gs → Fr No h h' → K (.agg #[t.v]) h') : callM Tryz.prog 25 #[code.v] h K := by
  refine v25 code h K fun b1 b2 h2 hb1 hb2 f2 hL2 => ?_
  have f2 := f2.in_nil
  have z2 := f2.size
  have l2 : b2 < h2.size := hL2.head.lt
  have l1 : b1 < h2.size := hL2.tail.head.lt
  have D2 : CurD h.size 0 h2 code 0 := ⟨⟨vs, ((RdV.lt C).mono fun k hk => hk.2).no f2, B⟩, by omega, by omega⟩
  refine k_drgraph9 hL2.head hb2 D2 (by omega) _ fun t gs i3 sd3 h3 gl G3 V3 D3 f3 => ⟨code, i3, sd3, t, rfl, vcur hL2 0 rfl f3 V3, fun h8 f8 hL8 => ?_⟩
  refine HK t gs h8 gl ((G3.fr f8 fun k hk hk2 => by simp [In] at hk2; omega).mono fun k hk => by omega) ?_
  exact ((f2.of_no.trans (f3.mono fun k _ hk => .inl (by simpa [In] using hk) : Fr (fun k => k = b2 ∨ k = b1) h2 h3)).trans (f8.mono fun k _ hk => .inr (by simpa [In] using hk))).mono fun k hk hk2 => by rcases hk2 with e | e <;> omega

theorem pop_shi {P : Program} {t : TypeId} (ht : P.underlying t = some .string) {K : Value → Prop} (k : IntKind) (s : ByteArray) (m : Int) (h0 : 0 ≤ m) (h1 : m ≤ s.size) (H : K (VS (s.extract 0 m.toNat))) : pop P (Instr.sliceAt t (VS s) none (some (.int k m)) none) K :=
  .mk' (fun w => by rw [run_sliceAt_string w t _ _ _ _ ht, run_slice_string_h w t s ht k m h0 h1]) H
theorem pop_slo {P : Program} {t : TypeId} (ht : P.underlying t = some .string) {K : Value → Prop} (k : IntKind) (s : ByteArray) (m : Int) (h0 : 0 ≤ m) (h1 : m ≤ s.size) (H : K (VS (s.extract m.toNat s.size))) : pop P (Instr.sliceAt t (VS s) (some (.int k m)) none none) K :=
  .mk' (fun w => by rw [run_sliceAt_string w t _ _ _ _ ht, run_slice_string_l w t s ht k m h0 h1]) H
theorem k_spoilt {a n b : Nat} {h : Heap} {c : Sl} {i sd : Int} (V : IsVar h b [c.v, VI i, .int .u64 sd]) (hb : a ≤ b) (D : CurD a n h c i) (hn : n ≤ 1000000) {t wd : ByteArray} (ht : t.size ≤ 1000) (hw1 : 1 ≤ wd.size) (hw2 : wd.size ≤ 100) (K : Value → Heap → Prop) (HK : ∀ (x : ByteArray) (i' sd' : Int) h', x.size ≤ 1010 → IsVar h' b [c.v, VI i', .int .u64 sd'] → CurD a (n + 100) h' c i' → Fr (fun k => k = b ∨ h.size ≤ k) h h' → K (VS x) h') : callM Tryz.prog 44 #[VP b 0, VS t, VS wd] h K := by
  have lb := V.lt
  have inb : ∀ {x y : Heap}, Fr (In [b]) x y → Fr (fun k => k = b ∨ h.size ≤ k) x y := fun f => f.mono fun k _ hk => .inl (by simpa [In] using hk)
  refine v44 b c i sd t wd h K (.cons V (by simp) .nil) ?_
  refine k_pick V hb D (by omega) 2 _ fun r i2 sd2 h2 r0 r1 V2 D2 f2 => ⟨c, i2, sd2, r, rfl, .cons V2 (by simp) .nil, ?_⟩
  have hr := r1 (by omega)
  rw [w64_eq (1 + r) (by omega) (by omega)]
  refine ⟨fun m t' k d i' sd' h' => m = k.toNat ∧ 0 ≤ k ∧ k ≤ 2 ∧ d = c ∧ (t'.size : Int) + k ≤ 1002 ∧ CurD a (n + 2 + 10 * (2 - k).toNat) h' c i' ∧ Fr (fun k => k = b ∨ h.size ≤ k) h h' ∧ h.size ≤ h'.size, ⟨(1 + r).toNat, rfl, by omega, by omega, rfl, by omega, D2.up (by omega), inb f2, f2.size⟩, ?_⟩
  rintro m t' k d i3 sd3 h3 ⟨rfl, k0, k1, rfl, t1, D3, f3, z3⟩ hL3
  have fin : K (VS t') h3 := HK t' i3 sd3 h3 (by omega) hL3.head (D3.up (by omega)) f3
  refine ⟨fun e1 => ⟨fun e2 => ?_, fun _ => fin⟩, fun _ => fin⟩
  simp only [decide_eq_true_eq] at e1 e2
  refine ⟨fun x d' i' sd' h' => d' = d ∧ (x.size : Int) + k ≤ 1002 + 1 ∧ CurD a (n + 2 + 10 * (2 - k).toNat + 10) h' d i' ∧ Fr (fun k => k = b ∨ h.size ≤ k) h h' ∧ h.size ≤ h'.size, ?_, ?_⟩
  · refine k_pick hL3.head hb D3 (by omega) _ _ fun p i4 sd4 h4 p0 p1 V4 D4 f4 => ⟨d, i4, sd4, p, rfl, .cons V4 (by simp) .nil, ?_⟩
    have p1 := p1 (by omega)
    refine k_pick V4 hb D4 (by omega) _ _ fun q i5 sd5 h5 q0 q1 V5 D5 f5 => ⟨d, i5, sd5, q, rfl, .cons V5 (by simp) .nil, ?_⟩
    have q1 := q1 (by omega)
    refine pop_six (by kernel_rfl) _ _ q q0 (by omega) ⟨_, rfl, ?_⟩
    refine eop_lit rBs8 (fun k => h5.size ≤ k) (fun _ h => h) 1 (by omega) [.int .u8 _] rfl rfl fun w h6 n6 c6 o6 f6 m6 _ => ⟨w, rfl, (Vars.cons V5 (by simp) .nil).of_no f6, ?_⟩
    have hone : ∀ x : Int, (strOfNums [x]).data.toList.length = 1 := fun x => by rw [strOfNums_data]; rfl
    refine rop_str1 (bs := (strOfNums [((wd[q.toNat]'(by omega)).toNat : Int)]).data.toList) o6.rdF (by simp) ⟨_, rfl, ?_⟩
    have hone := hone ((wd[q.toNat]'(by omega)).toNat : Int)
    generalize hW : (⟨((strOfNums [((wd[q.toNat]'(by omega)).toNat : Int)]).data.toList).toArray⟩ : ByteArray) = W
    have Wl : W.size = 1 := by rw [← hW, ba_size]; exact hone
    have V6 := (Vars.cons V5 (by simp) .nil).of_no f6
    refine k_pick V6.head hb (D5.no f6) (by omega) _ _ fun y i7 sd7 h7 y0 y1 V7 D7 f7 => ⟨d, i7, sd7, y, rfl, .cons V7 (by simp) .nil, ?_⟩
    have z4 := f4.size
    have z5 := f5.size
    have z6 := f6.size
    have z7 := f7.size
    have fr : Fr (fun k => k = b ∨ h.size ≤ k) h h7 := (((f3.trans (inb f4)).trans (inb f5)).trans f6.of_no).trans (inb f7)
    have done : ∀ x : ByteArray, (x.size : Int) + k ≤ 1002 + 1 → d = d ∧ (x.size : Int) + k ≤ 1002 + 1 ∧ CurD a (n + 2 + 10 * (2 - k).toNat + 10) h7 d i7 ∧ Fr (fun k => k = b ∨ h.size ≤ k) h h7 ∧ h.size ≤ h7.size := fun x hx => ⟨rfl, hx, D7.up (by omega), fr, by omega⟩
    refine ⟨fun _ => ?_, fun _ => ⟨fun _ => ?_, fun _ => ?_⟩⟩
    · refine pop_shi (by kernel_rfl) _ _ p p0 (by omega) ⟨_, rfl, ?_⟩
      have s1 : (t'.extract 0 p.toNat).size = p.toNat := by rw [ByteArray.size_extract]; omega
      refine ⟨by rw [s1, Wl]; omega, pop_slo (by kernel_rfl) _ _ p p0 (by omega) ⟨_, rfl, ?_⟩⟩
      have s2 : (t'.extract p.toNat t'.size).size = t'.size - p.toNat := by rw [ByteArray.size_extract]; omega
      refine ⟨by rw [ByteArray.size_append, s1, s2, Wl]; omega, done _ ?_⟩
      rw [ByteArray.size_append, ByteArray.size_append, s1, s2, Wl]; omega
    · refine pop_shi (by kernel_rfl) _ _ p p0 (by omega) ⟨_, rfl, ?_⟩
      have s1 : (t'.extract 0 p.toNat).size = p.toNat := by rw [ByteArray.size_extract]; omega
      rw [w64_eq (p + 1) (by omega) (by omega)]
      refine ⟨by rw [s1, Wl]; omega, pop_slo (by kernel_rfl) _ _ (p + 1) (by omega) (by omega) ⟨_, rfl, ?_⟩⟩
      have s2 : (t'.extract (p + 1).toNat t'.size).size = t'.size - (p + 1).toNat := by rw [ByteArray.size_extract]; omega
      refine ⟨by rw [ByteArray.size_append, s1, s2, Wl]; omega, done _ ?_⟩
      rw [ByteArray.size_append, ByteArray.size_append, s1, s2, Wl]; omega
    · refine pop_shi (by kernel_rfl) _ _ p p0 (by omega) ⟨_, rfl, ?_⟩
      have s1 : (t'.extract 0 p.toNat).size = p.toNat := by rw [ByteArray.size_extract]; omega
      rw [w64_eq (p + 1) (by omega) (by omega)]
      refine pop_slo (by kernel_rfl) _ _ (p + 1) (by omega) (by omega) ⟨_, rfl, ?_⟩
      have s2 : (t'.extract (p + 1).toNat t'.size).size = t'.size - (p + 1).toNat := by rw [ByteArray.size_extract]; omega
      refine ⟨by rw [s1, s2]; omega, done _ ?_⟩
      rw [ByteArray.size_append, s1, s2]; omega
  · rintro x d' i8 sd8 h8 ⟨rfl, hx, D8, f8, z8⟩ hL8
    rw [w64_eq (k - 1) (by omega) (by omega)]
    exact ⟨(k - 1).toNat, by omega, rfl, by omega, by omega, rfl, by omega, D8.up (by omega), f8, z8⟩

theorem k_DrawParseGraph {S : Nat → Prop} {h : Heap} {code : Sl} {vs : List Value} (C : RdV S h 1 code vs) (B : ∀ v, v ∈ vs → ∃ m : Int, v = Value.int .u8 m ∧ 0 ≤ m ∧ m ≤ 255) (K : Value → Heap → Prop) (HK : ∀ (s : ByteArray) h', s.size ≤ 1010 → Fr No h h' → K (VS s) h') : callM Tryz.prog 23 #[code.v] h K := by
  refine v23 code h K fun b1 h1 hb1 f1 hL1 => ?_
  have f1 := f1.in_nil
  have z1 := f1.size
  have l1 : b1 < h1.size := hL1.head.lt
  have D1 : CurD h.size 0 h1 code 0 := ⟨⟨vs, ((RdV.lt C).mono fun k hk => hk.2).no f1, B⟩, by omega, by omega⟩
  have fin : ∀ {h' : Heap}, Fr (fun k => k = b1 ∨ h1.size ≤ k) h1 h' → Fr No h h' := fun f => f1.fresh f fun k hk => by rcases hk with rfl | hk <;> omega
  have inb : ∀ {x y : Heap}, Fr (In [b1]) x y → Fr (fun k => k = b1 ∨ h1.size ≤ k) x y := fun f => f.mono fun k _ hk => .inl (by simpa [In] using hk)
  refine k_sureGraph hL1.head hb1 D1 (by omega) (by omega) (by omega) _ fun t xss i2 sd2 h2 o2 G2 x0 x1 V2 D2 f2 => ⟨code, i2, sd2, t, rfl, .cons V2 (by simp) .nil, ?_⟩
  have z2 := f2.size
  have lit : litG xss := ⟨by omega, fun l hl => ⟨by have := (G2 l hl).1; omega, fun x hx => by have := (G2 l hl).2 x hx; omega⟩⟩
  have tl := lit_txG lit
  refine k_grText o2.rd lit _ fun h3 f3 => ⟨_, rfl, (Vars.cons V2 (by simp) .nil).of_no f3, ?_⟩
  have V3 := (Vars.cons V2 (by simp) .nil).of_no f3
  have z3 := f3.size
  refine k_one V3.head hb1 (D2.no f3) (by omega) 3 _ fun y i4 sd4 h4 V4 D4 f4 => ⟨code, i4, sd4, y, rfl, .cons V4 (by simp) .nil, fun _ => ?_, fun _ => ?_⟩
  · have z4 := f4.size
    refine k_spoilt V4 hb1 D4 (by omega) (by rw [ba_size]; omega) (by decide) (by decide) _ fun x i5 sd5 h5 hx V5 D5 f5 => ⟨code, i5, sd5, x, rfl, .cons V5 (by simp) .nil, ?_⟩
    exact HK x h5 hx (fin ((((inb f2).trans f3.of_no).trans (inb f4)).trans (f5.mono fun k _ hk => hk.imp id fun h => by omega)))
  · exact HK _ h4 (by rw [ba_size]; omega) (fin (((inb f2).trans f3.of_no).trans (inb f4)))

theorem k_DrawGraphText {S : Nat → Prop} {h : Heap} {code : Sl} {vs : List Value} (C : RdV S h 1 code vs) (B : ∀ v, v ∈ vs → ∃ m : Int, v = Value.int .u8 m ∧ 0 ≤ m ∧ m ≤ 255) (K : Value → Heap → Prop) (HK : ∀ (t : Sl) (gs : List (List Int)) h', gs.length ≤ 9 → RdR (fun k => h.size ≤ k) h' t gs → Fr No h h' → K (.agg #[t.v]) h') : callM Tryz.prog 5 #[code.v] h K := by
  refine v5 code h K fun b1 h1 hb1 f1 hL1 => ?_
  have f1 := f1.in_nil
  have z1 := f1.size
  have l1 : b1 < h1.size := hL1.head.lt
  refine k_DrawIsGraph (C.no f1) B _ fun t gs h2 gl G2 f2 => ⟨t, rfl, hL1.of_no f2, fun h3 f3 hL3 => ?_⟩
  refine HK t gs h3 gl ((G2.fr f3 fun k hk hk2 => by simp [In] at hk2; omega).mono fun k hk => by omega) ?_
  exact ((f1.no_trans f2).of_no.trans f3 : Fr (In [b1]) h h3).mono fun k hk hk2 => by simp [In] at hk2; omega

theorem gtP_ok (g : List (List Int)) : (gtP g).2 = graphB g := by
  unfold gtP
  cases h : graphB g <;> rfl
theorem gtP_tx {g : List (List Int)} (hg : graphB g = true) : gtP g = (⟨(txG g).toArray⟩, true) := by rw [gtP, if_pos hg]
theorem parP_tx {g : List (List Int)} (hg : graphB g = true) : parP ⟨(txG g).toArray⟩ = (g, true) := by
  have e : (⟨(txG g).toArray⟩ : ByteArray).data.toList = txG g := rfl
  unfold parP
  rw [e, prsG_of hg]
theorem parP_ok {s : ByteArray} (h : (parP s).2 = true) : graphB (parP s).1 = true ∧ txG (parP s).1 = s.data.toList := by
  unfold parP at h ⊢
  cases hp : prsG s.data.toList with
  | none => rw [hp] at h; cases h
  | some g => exact prsG_to hp
theorem revP_of {g : List (List Int)} (hg : graphB g = true) : revP g = (toldP (revL g), graphB (revL g)) := by rw [revP, if_pos hg]
theorem revP_ok {g : List (List Int)} (hg : graphB g = true) (hG : graphB (revL g) = true) : revP g = (revL g, true) := by rw [revP_of hg, hG, toldP, if_pos hG]
set_option maxHeartbeats 4000000 in
theorem gt_loop {S T U : Nat → Prop} {h : Heap} {g t u : Sl} {gs : List (List Int)} (G : RdR S h g gs) (hg : graphB gs = true) (hG : graphB (revL gs) = true) (R : RdR T h t (revL gs)) (W : RdR U h u (revL (revL gs))) {h1 : Heap} (f : Fr No h h1) {L : List (Nat × List Value)} (hL : Vars h1 L) {K : Value → Heap → Prop} {J : Heap → Prop} (HJ : ∀ h', Fr No h h' → J h') :
    ∃ J_3 : Nat → Int → Heap → Prop, (∃ n0 : Nat, J_3 n0 0 h1) ∧ ∀ (n_2 : Nat) (i : Int) (h_36 : Heap), J_3 n_2 i h_36 → Vars h_36 L →
      ((decide (i < (g.n : Int))) = true →
        callM Tryz.prog 17 #[(Value.agg #[t.v]), (VI i)] h_36 fun rv_25 h_37 => ∃ x : Int, ∃ x_2, rv_25 = (Value.tuple #[(VI x), (VB x_2)]) ∧ Vars h_37 L ∧
        ((!x_2) = true → K (VB false) h_37) ∧
        ((!x_2) = false →
          InB g i ∧ ∃ y : Sl, hcell h_37 (Sl.at g i 1) = some y.v ∧
          ((!decide (x = (y.n : Int))) = true → K (VB false) h_37) ∧
          ((!decide (x = (y.n : Int))) = false →
            InB u i ∧ ∃ z : Sl, hcell h_37 (Sl.at u i 1) = some z.v ∧ InB g i ∧ ∃ w : Sl, hcell h_37 (Sl.at g i 1) = some w.v ∧
            ((!decide ((z.n : Int) = (w.n : Int))) = true → K (VB false) h_37) ∧
            ((!decide ((z.n : Int) = (w.n : Int))) = false → ∃ m : Nat, m < n_2 ∧ J_3 m (w64 (i + 1)) h_37)))) ∧
      ((decide (i < (g.n : Int))) = false → J h_36) := by
  have gl := graph_len hg
  have rl := revL_length gs
  have wl := revL_length (revL gs)
  refine ⟨fun n i h' => 0 ≤ i ∧ i + n = (gs.length : Int) ∧ Fr No h h', ⟨gs.length, by omega, by omega, f⟩, ?_⟩
  rintro n i h2 ⟨i0, i1, f2⟩ hL2
  have G2 := G.no f2
  refine ⟨fun e => ?_, fun _ => HJ h2 f2⟩
  have hi := G2.lt e
  have hin : (graphB (revL gs) && inR 0 (((revL gs).length : Int) - 1) i) = true := by rw [hG, Bool.true_and]; exact inR_iff.2 (by omega)
  refine k_EntriesOf (R.no f2) i _ fun h3 f3 => ⟨_, _, rfl, hL2.of_no f3, fun e3 => (by rw [hin] at e3; cases e3), fun _ => ?_⟩
  have G3 := G2.no f3
  have W3 := (W.no f2).no f3
  obtain ⟨y, c1, r1⟩ := G3.get i0 hi
  obtain ⟨z, d1, s1⟩ := W3.get i0 (by omega)
  have yn := r1.len
  have zn := s1.len
  have e1 := revL_count hg (show i.toNat < gs.length by omega)
  rw [show ((i.toNat : Nat) : Int) = i by omega] at e1
  have e2 := revL_twice hg hG (show i.toNat < gs.length by omega) (by omega)
  rw [hin, if_pos rfl, e1]
  refine ⟨G3.inb i0 hi, y, c1, fun e4 => ?_, fun _ => ⟨W3.inb i0 (by omega), z, d1, G3.inb i0 hi, y, c1, fun e4 => ?_, fun _ => ?_⟩⟩
  · rw [decide_eq_true (by omega)] at e4; cases e4
  · rw [decide_eq_true (by omega)] at e4; cases e4
  · rw [G2.succ i0 hi]
    exact ⟨n - 1, by omega, by omega, by omega, f2.no_trans f3⟩
set_option maxHeartbeats 4000000 in
theorem k_lawGraphsTaken {h : Heap} (GL : GlobH h) {S0 S1 : Nat → Prop} {s0 s1 : Sl} {x0 x1 : List Value} (G0 : RdV S0 h 1 s0 x0) (B0 : ∀ v, v ∈ x0 → ∃ m : Int, v = Value.int .u8 m ∧ 0 ≤ m ∧ m ≤ 255) (G1 : RdV S1 h 1 s1 x1) (B1 : ∀ v, v ∈ x1 → ∃ m : Int, v = Value.int .u8 m ∧ 0 ≤ m ∧ m ≤ 255) : Ret Tryz.prog 3 #[s0.v, s1.v] h (VB true) := by
  intro K HK
  refine v3 s0 s1 h K ?_
  refine k_big s0 s1 h _ fun b0 => ⟨b0, rfl, .nil, fun _ => HK h (Fr.refl _ _), fun _ => ?_⟩
  refine k_DrawGraphText G0 B0 _ fun t gs h2 gsl G2 f2 => ⟨t, rfl, .nil, fun b1 h4 hb1 f4 hL4 => ?_⟩
  have f4 := f4.in_nil
  have G4 := G2.no f4
  have F4 := f2.no_trans f4
  refine k_GraphText G4 _ fun h5 f5 => ⟨_, _, rfl, hL4.of_no f5, ?_⟩
  refine k_spec_GraphText (G4.no f5) _ fun h6 f6 => ⟨_, _, rfl, (hL4.of_no f5).of_no f6, ?_⟩
  have f46 := f5.no_trans f6
  refine k_CountExits (G4.no f46) _ fun h7 f7 => ⟨_, _, rfl, (hL4.of_no f46).of_no f7, ?_⟩
  have f47 := f46.no_trans f7
  refine k_spec_CountExits (G4.no f47) _ fun h8 f8 => ⟨_, _, rfl, (hL4.of_no f47).of_no f8, ?_⟩
  have f48 := f47.no_trans f8
  refine k_PlacesOf (G4.no f48) _ fun h9 f9 => ⟨_, _, rfl, (hL4.of_no f48).of_no f9, ?_⟩
  have f49 := f48.no_trans f9
  refine k_spec_PlacesOf (G4.no f49) _ fun h10 f10 => ⟨_, _, rfl, (hL4.of_no f49).of_no f10, ?_⟩
  have f410 := f49.no_trans f10
  have no : ∀ {b : Bool} {P : Prop}, (!(b == b)) = true → P := fun e => by simp at e
  rw [gtP_ok]
  refine ⟨fun e => no e, fun _ => ⟨fun e => by simp at e, fun _ => ⟨fun e => no e, fun _ => ⟨fun e => by simp at e, fun _ => ⟨fun e => no e, fun _ => ⟨fun e => by simp at e, fun _ => ?_⟩⟩⟩⟩⟩⟩
  refine k_IsGraph (G4.no f410) _ fun h11 f11 => ⟨_, rfl, (hL4.of_no f410).of_no f11, fun e => no e, fun _ => ?_⟩
  have f411 := f410.no_trans f11
  refine k_IsGraph (G4.no f411) _ fun h12 f12 => ⟨_, rfl, (hL4.of_no f411).of_no f12, ?_⟩
  have f412 := f411.no_trans f12
  refine k_spec_IsGraph (G4.no f412) _ fun h13 f13 => ⟨_, rfl, (hL4.of_no f412).of_no f13, fun e => no e, fun _ => ⟨fun e => no e, fun _ => ⟨fun e => no e, fun _ => ?_⟩⟩⟩
  have f413 := f412.no_trans f13
  have F13 := F4.no_trans f413
  have G13 := G4.no f413
  have hL13 := hL4.of_no f413
  refine ⟨fun h' => Fr No h13 h', ⟨fun hg => ?_, fun _ => Fr.refl _ _⟩, ?_⟩
  · have gl := graph_len hg
    have gt := graph_tot hg
    have gn := G13.len
    have fl := totR_flat gs
    have tl := txG_len hg
    rw [gtP_tx hg, hg, if_pos rfl, if_pos rfl]
    refine k_ParseGraph (GL.no F13) (by rw [ba_size]; omega) _ fun u h14 o14 f14 => ⟨u, _, rfl, hL13.of_no f14, fun e => ?_, fun _ b2 h16 hb2 f16 hL16 => ?_⟩
    · rw [parP_tx hg] at e; cases e
    rw [parP_tx hg] at o14
    have f16 := f16.in_nil
    have G16 := (G13.no f14).no f16
    refine k_wGraph ((OwR.rd o14).no f16) G16 rfl _ fun h17 f17 => ⟨_, rfl, hL16.of_no f17, fun e => by simp at e, fun _ => ⟨fun e => ?_, fun _ => ?_⟩⟩
    · rw [decide_eq_true (by omega)] at e; cases e
    have f1317 := (f14.no_trans f16).no_trans f17
    have G17 := G16.no f17
    have hL17 := hL16.of_no f17
    refine ⟨fun n leave come bal i h' => 0 ≤ i ∧ i + n = (gs.length : Int) ∧ leave = (totR (gs.take i.toNat) : Int) ∧ leave ≤ 5 * i ∧ come = (((List.range i.toNat).map fun y : Nat => gs.flatten.count (y : Int)).sum : Int) ∧ come ≤ 40 * i ∧ bal = ((List.range i.toNat).all fun p => decide ((gs.getD p []).length = gs.flatten.count (p : Int))) ∧ Fr No h17 h', ⟨gs.length, by omega, by omega, by simp [totR], by omega, rfl, by omega, rfl, Fr.refl _ _⟩, ?_⟩
    rintro n leave come bal i h18 ⟨i0, i1, e1, e2, e3, e4, e5, f18⟩ hL18
    have G18 := G17.no f18
    refine ⟨fun e => ?_, fun e => ?_⟩
    · have hi := G18.lt e
      have hin : (graphB gs && inR 0 ((gs.length : Int) - 1) i) = true := by rw [hg, Bool.true_and]; exact inR_iff.2 (by omega)
      refine k_ExitsOf G18 i _ fun x h19 o19 f19 => ⟨x, _, rfl, hL18.of_no f19, ?_⟩
      refine k_EntriesOf (G18.no f19) i _ fun h20 f20 => ⟨_, _, rfl, (hL18.of_no f19).of_no f20, fun e => (by rw [hin] at e; cases e), fun _ => ⟨fun e => (by rw [hin] at e; cases e), fun _ => ?_⟩⟩
      rw [hin, if_pos rfl, getD_get (by omega)] at o19
      rw [hin, if_pos rfl]
      have f1820 := f19.no_trans f20
      have G20 := G18.no f1820
      have hL20 := (hL18.of_no f19).of_no f20
      obtain ⟨y, c1, r1⟩ := G20.get i0 hi
      have X20 := (Ow.rdI o19).no f20
      have xn := X20.len
      have hrow := (graph_mem hg (List.getElem_mem (show i.toNat < gs.length by omega))).1
      have hcnt : gs.flatten.count i ≤ gs.flatten.length := List.count_le_length
      refine ⟨G20.inb i0 hi, y, c1, k_wSame X20 r1 _ ⟨_, rfl, hL20, fun e => (by rw [decide_eq_true rfl] at e; cases e), fun _ => ?_⟩⟩
      have et : totR (gs.take (i.toNat + 1)) = totR (gs.take i.toNat) + (gs[i.toNat]'(by omega)).length := by
        rw [List.take_add_one, List.getElem?_eq_getElem (by omega), Option.toList_some]
        rw [← totR_flat, ← totR_flat, List.flatten_append, List.length_append]
        simp only [List.flatten_cons, List.flatten_nil, List.append_nil]
      have ep : ((i.toNat : Nat) : Int) = i := by omega
      have ec : ((List.range (i.toNat + 1)).map fun y : Nat => gs.flatten.count (y : Int)).sum = ((List.range i.toNat).map fun y : Nat => gs.flatten.count (y : Int)).sum + gs.flatten.count i := by
        rw [List.range_succ, List.map_append, List.sum_append, List.map_cons, List.map_nil, List.sum_cons, List.sum_nil, Nat.add_zero, ep]
      have eb : ((List.range (i.toNat + 1)).all fun p => decide ((gs.getD p []).length = gs.flatten.count (p : Int))) = (bal && decide (((x.n : Int)) = (gs.flatten.count i : Nat))) := by
        rw [List.range_succ, List.all_append, ← e5, List.all_cons, List.all_nil, Bool.and_true, ep, getD_get (by omega)]
        congr 1
        exact decide_eq_decide.2 (by omega)
      have nxt : ∀ b : Bool, b = (bal && decide (((x.n : Int)) = (gs.flatten.count i : Nat))) → ∃ m : Nat, m < n ∧ (0 ≤ w64 (i + 1) ∧ w64 (i + 1) + m = (gs.length : Int) ∧ w64 (leave + (x.n : Int)) = (totR (gs.take (w64 (i + 1)).toNat) : Int) ∧ w64 (leave + (x.n : Int)) ≤ 5 * w64 (i + 1) ∧ w64 (come + (gs.flatten.count i : Nat)) = (((List.range (w64 (i + 1)).toNat).map fun y : Nat => gs.flatten.count (y : Int)).sum : Int) ∧ w64 (come + (gs.flatten.count i : Nat)) ≤ 40 * w64 (i + 1) ∧ b = ((List.range (w64 (i + 1)).toNat).all fun p => decide ((gs.getD p []).length = gs.flatten.count (p : Int))) ∧ Fr No h17 h20) := fun b hb => by
        rw [G18.succ i0 hi, show (i + 1).toNat = i.toNat + 1 by omega, et, ec, eb, w64_eq (leave + _) (by omega) (by omega), w64_eq (come + _) (by omega) (by omega)]
        exact ⟨n - 1, by omega, by omega, by omega, by omega, by omega, by omega, by omega, hb, f18.no_trans f1820⟩
      exact ⟨fun e => nxt _ (by rw [e, Bool.true_and]), fun e => nxt _ (by rw [e, Bool.false_and])⟩
    · have hi := G18.ge e
      rw [show i.toNat = gs.length by omega] at e1 e3 e5
      rw [List.take_length] at e1
      rw [sum_count gs.length gs.flatten (graph_flat hg)] at e3
      have e5 : bal = balB gs := e5
      refine k_IsBalanced G18 _ fun h22 f22 => ⟨_, _, rfl, hL18.of_no f22, fun e => ?_, fun _ => ⟨fun e => ?_, fun _ => ⟨fun e => ?_, fun _ => ⟨fun e => ?_, fun _ => ?_⟩⟩⟩⟩
      · rw [decide_eq_true (by omega)] at e; cases e
      · rw [decide_eq_true (by omega)] at e; cases e
      · rw [hg] at e; cases e
      · rw [e5, hg, Bool.true_and] at e; exact no e
      have G22 := G18.no f22
      have hL22 := hL18.of_no f22
      refine k_ReverseGraph G22 _ fun u h23 o23 f23 => ⟨u, _, rfl, hL22.of_no f23, fun b3 h25 hb3 f25 hL25 => ?_⟩
      have f25 := f25.in_nil
      have f2225 := f23.no_trans f25
      refine k_spec_ReverseGraph (G22.no f2225) _ fun v h26 o26 f26 => ⟨v, _, rfl, hL25.of_no f26, fun e => no e, fun _ b4 h28 hb4 f28 hL28 => ?_⟩
      have f28 := f28.in_nil
      have f2528 := f26.no_trans f28
      refine k_wGraph ((OwR.rd o23).no (f25.no_trans f2528)) ((OwR.rd o26).no f28) rfl _ fun h29 f29 => ⟨_, rfl, hL28.of_no f29, fun e => by simp at e, fun _ => ?_⟩
      have f2329 := (f25.no_trans f2528).no_trans f29
      have f2229 := f23.no_trans f2329
      have R29 := (OwR.rd o23).no f2329
      have G29 := G22.no f2229
      have hL29 := hL28.of_no f29
      have f1329 := ((f1317.no_trans f18).no_trans f22).no_trans f2229
      refine ⟨fun hG => ?_, fun _ => f1329⟩
      rw [revP_of hg] at hG
      have hG : graphB (revL gs) = true := hG
      rw [revP_ok hg hG] at R29
      have R29 : RdR _ h29 u (revL gs) := R29
      have hW := revL_graph hg hG
      have wl := revL_length (revL gs)
      have rl := revL_length gs
      refine k_CountExits R29 _ fun h30 f30 => ⟨_, _, rfl, hL29.of_no f30, ?_⟩
      refine k_ReverseGraph (R29.no f30) _ fun w h31 o31 f31 => ⟨w, _, rfl, (hL29.of_no f30).of_no f31, fun b5 h33 hb5 f33 hL33 => ?_⟩
      rw [revP_ok hG hW] at o31
      have o31 : OwX h31 _ w (revL (revL gs)) := o31
      have f33 := f33.in_nil
      have f2933 := (f30.no_trans f31).no_trans f33
      refine k_IsStrong (G29.no f2933) _ fun h34 f34 => ⟨_, _, rfl, hL33.of_no f34, ?_⟩
      have f2934 := f2933.no_trans f34
      refine k_IsStrong (R29.no f2934) _ fun h35 f35 => ⟨_, _, rfl, (hL33.of_no f34).of_no f35, ?_⟩
      have W35 := (OwR.rd o31).no ((f33.no_trans f34).no_trans f35)
      have wn := W35.len
      have hst := revL_strong hg hG
      refine ⟨fun e => ?_, fun _ => ⟨fun e => ?_, fun _ => ⟨fun e => ?_, fun _ => ⟨fun e => ?_, fun _ => ⟨fun e => ?_, fun _ => ⟨fun e => ?_, fun _ => ⟨fun e => ?_, fun _ => ?_⟩⟩⟩⟩⟩⟩⟩
      · rw [hG] at e; cases e
      · rw [hG, if_pos rfl, revL_tot hg, decide_eq_true rfl] at e; cases e
      · rw [revP_ok hG hW] at e; cases e
      · rw [hg] at e; cases e
      · rw [hG] at e; cases e
      · rw [hg, hG, hst] at e; exact no e
      · rw [decide_eq_true (by omega)] at e; cases e
      have f2935 := f2934.no_trans f35
      exact gt_loop (G29.no f2935) hg hG (R29.no f2935) W35 (Fr.refl _ _) ((hL33.of_no f34).of_no f35) fun h' f => f1329.no_trans (f2935.no_trans f)
  · rintro h38 f38 hL38
    have F38 := F13.no_trans f38
    refine k_DrawParseGraph (G1.no F38) B1 _ fun s h39 sl f39 => ⟨s, rfl, hL38.of_no f39, ?_⟩
    have F39 := F38.no_trans f39
    refine k_ParseGraph (GL.no F39) (by omega) _ fun u h40 o40 f40 => ⟨u, _, rfl, (hL38.of_no f39).of_no f40, fun b6 h42 hb6 f42 hL42 => ?_⟩
    have f42 := f42.in_nil
    have F42 := (F39.no_trans f40).no_trans f42
    refine k_spec_ParseGraph _ fun v h43 o43 f43 => ⟨v, _, rfl, hL42.of_no f43, fun e => no e, fun _ b7 h45 hb7 f45 hL45 => ?_⟩
    have f45 := f45.in_nil
    have U45 := (OwR.rd o40).no ((f42.no_trans f43).no_trans f45)
    have F45 := (F42.no_trans f43).no_trans f45
    refine k_wGraph U45 ((OwR.rd o43).no f45) rfl _ fun h46 f46 => ⟨_, rfl, hL45.of_no f46, fun e => by simp at e, fun _ => ⟨fun e => ?_, fun _ => HK h46 (F45.no_trans f46)⟩⟩
    have hp := parP_ok e
    have U46 := U45.no f46
    refine k_GraphText U46 _ fun h47 f47 => ⟨_, _, rfl, (hL45.of_no f46).of_no f47, fun _ => ?_, fun e => ?_⟩
    · have := HK h47 ((F45.no_trans f46).no_trans f47)
      rw [gtP_tx hp.1, ba_seq]
      rw [show (⟨(txG (parP s).1).toArray⟩ : ByteArray).data.toList = txG (parP s).1 from rfl, hp.2, decide_eq_true rfl]
      exact this
    · rw [gtP_ok, hp.1] at e; cases e
end Go.Proofs.YtgiamamfnpklkaaGreatDoor
