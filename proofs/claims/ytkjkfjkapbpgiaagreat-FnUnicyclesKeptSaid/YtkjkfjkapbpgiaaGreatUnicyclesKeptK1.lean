import Derived.Test.YtkjkfjkapbpgiaaGreatUnicyclesKeptK0
set_option linter.unusedVariables false
set_option linter.unusedSimpArgs false
namespace Go.Proofs.YtkjkfjkapbpgiaaGreat
open Go Go.Mx
def twN (f : Int -> Int) (sink : Int) (n : Nat) : Nat -> Nat -> Int -> Option Nat
 | 0, _, _ => none
 | r + 1, m, a => if a = sink then some m else if f a < 0 ∨ n < m then none else twN f sink n r (m + 1) (f a)
def twL (g : List (List Int)) (rs : List Int) (sink : Int) : Nat -> Option (List Int)
 | 0 => some []
 | i + 1 => match twL g rs sink i with
   | none => none
   | some l => match twN (nx g rs) sink g.length (g.length + 3) 0 i with
     | none => none
     | some m => some (l ++ [(m : Int)])
def treeB (g : List (List Int)) (rs : List Int) (sink : Int) : Bool := (twL g rs sink g.length).isSome
theorem twL_none {g : List (List Int)} {rs : List Int} {sink : Int} {i : Nat} (h : twL g rs sink i = none) : ∀ m, twL g rs sink (i + m) = none
 | 0 => h
 | m + 1 => by rw [← Nat.add_assoc, twL, twL_none h m]
theorem twL_no {g : List (List Int)} {rs : List Int} {sink : Int} {i n : Nat} (h : twL g rs sink i = none) (hi : i ≤ n) : twL g rs sink n = none := by
 have := twL_none h (n - i)
 rwa [show i + (n - i) = n by omega] at this
theorem tree_of {g : List (List Int)} {rs : List Int} {sink : Int} (h : ∀ p : Nat, p < g.length -> (twN (nx g rs) sink g.length (g.length + 3) 0 p).isSome = true) : treeB g rs sink = true := by
 have : ∀ i, i ≤ g.length -> (twL g rs sink i).isSome = true := by
   intro i
   induction i with
   | zero => intro _; rfl
   | succ i ih =>
     intro hi
     have h1 := ih (by omega)
     have h2 := h i (by omega)
     rw [twL]
     cases h3 : twL g rs sink i with
     | none => rw [h3] at h1; cases h1
     | some l =>
       cases h4 : twN (nx g rs) sink g.length (g.length + 3) 0 i with
       | none => rw [h4] at h2; cases h2
       | some m => rfl
 exact this _ (Nat.le_refl _)
def sinkrB (g : List (List Int)) (sink : Int) (rs : List Int) : Bool := (graphB g && inR 0 ((g.length : Int) - 1) sink) && (walkB g rs 0 && decide (rs.getD sink.toNat 0 = 0))
def isTreeP (g : List (List Int)) (sink : Int) (rs : List Int) : Bool × Bool := if sinkrB g sink rs then (treeB g rs sink, true) else (false, false)
theorem k_treeWays {S S' : Nat -> Prop} {h : Heap} {g w : Sl} {xss : List (List Int)} {rs : List Int} {a : Int} (G : RdR S h g xss) (H : RdI S' h w rs) (W : WOK xss (rs, a)) (hn : xss.length ≤ 1000) (sink : Int) (K : KQ) (HK : ∀ t h', OwI h' (Iv h.size h'.size) t ((twL xss rs sink xss.length).getD []) -> Fr No h h' -> K (.tuple #[t.v, VB (treeB xss rs sink)]) h') : callM Tryz.prog 114 #[.agg #[g.v], VI sink, w.v] h K := by
 refine v114 g sink w h K fun b1 h1 hb1 f1 hL1 => ?_
 have f1 := f1.in_nil
 have z1 := f1.size
 have l1 : b1 < h1.size := hL1.head.lt
 have gn := G.len
 refine eop_lit rIs (fun k => h1.size ≤ k) (fun _ h => h) 0 (by omega) [] rfl rfl fun o h2 n2 c2 o2 f2 m2 _ => ⟨o, rfl, hL1.of_no f2, ?_⟩
 have z2 := f2.size
 have o2' : OwI h2 (fun k => h1.size ≤ k) o [] := o2
 have no_ : ∀ {x : Heap}, Fr (fun k => h1.size ≤ k) h x -> Fr No h x := fun f => f.mono fun k hk hk2 => absurd hk2 (by omega)
 refine ⟨fun m x p h' => 0 ≤ p /\ p + m = (xss.length : Int) /\ (∃ l, twL xss rs sink p.toNat = some l /\ OwI h' (fun k => h1.size ≤ k) x l /\ l.length = p.toNat) /\ Fr (fun k => h1.size ≤ k) h h' /\ h2.size ≤ h'.size, ⟨xss.length, by omega, by omega, ⟨[], rfl, o2', rfl⟩, f1.of_no.trans f2.of_no, Nat.le_refl _⟩, ?_⟩
 rintro m x p h3 ⟨p0, p1, ⟨l, el, o3, ln⟩, f3, z3⟩ hL3
 have g3 := no_ f3
 refine ⟨fun e => ?_, fun e => ?_⟩
 · simp only [decide_eq_true_eq] at e
   refine ⟨fun m2 many at_ h' => m2 + many.toNat = xss.length + 2 /\ 0 ≤ many /\ many ≤ xss.length + 1 /\ 0 ≤ at_ /\ at_ < (xss.length : Int) /\ twN (nx xss rs) sink xss.length (xss.length + 3) 0 p = twN (nx xss rs) sink xss.length (m2 + 1) many.toNat at_ /\ Fr No h3 h', ⟨xss.length + 2, by omega, by omega, by omega, p0, by omega, by simp, Fr.refl _ _⟩, ?_⟩
   rintro m2 many at_ h4 ⟨e4, u0, u1, a0, a1, et, f4⟩ hL4
   have g4 := g3.trans f4
   have z4 := f4.size
   have bad : ∀ {h' : Heap}, Fr No h4 h' -> twN (nx xss rs) sink xss.length (xss.length + 3) 0 p = none -> K (.tuple #[nilSl.v, VB false]) h' := fun f e => by
     have e1 : twL xss rs sink (p.toNat + 1) = none := by rw [twL, el]; simp only; rw [show ((p.toNat : Nat) : Int) = p by omega, e]
     have e2 := twL_no e1 (show p.toNat + 1 ≤ xss.length by omega)
     have := HK nilSl _ (by rw [e2]; exact Ow.nil _ _ _ _) (g4.trans f)
     rwa [show treeB xss rs sink = false by unfold treeB; rw [e2]; rfl] at this
   refine ⟨fun e5 => ?_, fun e5 => ?_⟩
   · simp only [Bool.not_eq_true', decide_eq_false_iff_not] at e5
     refine k_next (G.no g4) (H.no g4) W a0 a1 _ fun h5 f5 => ⟨_, rfl, hL4.of_no f5, fun e6 => ?_, fun e6 => ⟨fun e7 => ?_, fun e7 => ?_⟩⟩
     · simp only [decide_eq_true_eq] at e6
       exact bad f5 (by rw [et, twN, if_neg e5, if_pos (.inl e6)])
     · simp only [decide_eq_true_eq] at e7
       exact bad f5 (by rw [et, twN, if_neg e5, if_pos (.inr (by omega))])
     · simp only [decide_eq_false_iff_not] at e6 e7
       have lt := nx_lt W a1
       refine ⟨m2 - 1, by omega, ?_, ?_, ?_, by omega, lt.2, ?_, f4.trans f5⟩
       · rw [w64_eq _ (by omega) (by omega)]; omega
       · rw [w64_eq _ (by omega) (by omega)]; omega
       · rw [w64_eq _ (by omega) (by omega)]; omega
       · rw [et, twN, if_neg e5, if_neg (by omega), w64_eq _ (by omega) (by omega), show m2 - 1 + 1 = m2 by omega, show (many + 1).toNat = many.toNat + 1 by omega]
   · simp only [Bool.not_eq_false', decide_eq_true_eq] at e5
     refine eop_put (lo := h1.size) (Ow.no o3 f4) (by omega) hL4 (fun q hq => by
       simp only [List.mem_cons, List.not_mem_nil, or_false] at hq
       subst hq; exact l1) (by omega) _ fun y h7 o7 f7 V7 => ?_
     rw [w64_eq (p + 1) (by omega) (by omega)]
     refine ⟨m - 1, by omega, by omega, by omega, ⟨_, ?_, o7, by simp; omega⟩, (f3.trans f4.of_no).trans f7, by have := f7.size; omega⟩
     rw [show (p + 1).toNat = p.toNat + 1 by omega, twL, el]
     simp only
     rw [show ((p.toNat : Nat) : Int) = p by omega, et, twN, if_pos e5]
     simp only [Option.some.injEq, List.append_cancel_left_eq, List.cons.injEq, and_true]
     omega
 · simp only [decide_eq_false_iff_not] at e
   have ep : p.toNat = xss.length := by omega
   rw [ep] at el
   have := HK x h3 (by rw [el]; exact o3.mono fun k hk hk2 => ⟨by omega, (o3.foot hk).2⟩) g3
   rwa [show treeB xss rs sink = true by unfold treeB; rw [el]; rfl] at this
theorem k_isTree {S S' : Nat -> Prop} {h : Heap} {g w : Sl} {xss : List (List Int)} {rs : List Int} {a : Int} (G : RdR S h g xss) (H : RdI S' h w rs) (W : WOK xss (rs, a)) (hn : xss.length ≤ 1000) (sink : Int) : Ret Tryz.prog 63 #[.agg #[g.v], VI sink, w.v] h (VB (treeB xss rs sink)) := by
 intro K HK
 refine v63 g sink w h K fun b1 h1 hb1 f1 hL1 => ?_
 have f1 := f1.in_nil
 exact k_treeWays (G.no f1) (H.no f1) W hn sink _ fun t h2 o2 f2 => ⟨t, _, rfl, hL1.of_no f2, HK h2 (f1.trans f2)⟩
theorem k_areSinkRotors {S S' : Nat -> Prop} {h : Heap} {g w : Sl} {xss : List (List Int)} {rs : List Int} (G : RdR S h g xss) (H : RdI S' h w rs) (sink : Int) : Ret Tryz.prog 62 #[.agg #[g.v], VI sink, w.v] h (VB (sinkrB xss sink rs)) := by
 intro K HK
 unfold sinkrB at HK
 refine v62 g sink w h K fun b1 h1 hb1 f1 hL1 => ?_
 have f1 := f1.in_nil
 refine eop_lit rIs (fun k => h1.size ≤ k) (fun _ h => h) 1 (by omega) [VI sink] rfl rfl fun o h2 n2 c2 o2 f2 m2 _ => ⟨o, rfl, hL1.of_no f2, ?_⟩
 have r2 : RdI (fun k => h1.size ≤ k) h2 o [sink] := o2.rdF
 have f02 := f1.trans f2
 refine k_has (G.no f02) r2 _ fun h3 f3 => ⟨_, rfl, (hL1.of_no f2).of_no f3, fun e => ?_, fun e => ?_⟩
 · simp only [List.all_cons, List.all_nil, Bool.and_true] at e
   have f03 := f02.trans f3
   rw [e, Bool.true_and] at HK
   refine k_areRotors (G.no f03) (H.no f03) _ fun h4 f4 => ⟨_, rfl, ((hL1.of_no f2).of_no f3).of_no f4, fun e2 => ?_, fun e2 => ?_⟩
   · rw [e2, Bool.true_and] at HK
     have W := wok_of e2
     have wl : rs.length = xss.length := W.len
     simp only [Bool.and_eq_true, inR, decide_eq_true_eq] at e
     have f04 := f03.trans f4
     have H4 := H.no f04
     refine ⟨H4.inb (by omega) (by omega), _, H4.get (by omega) (by omega), ?_⟩
     have e3 : rs.getD sink.toNat 0 = rs[sink.toNat]'(by omega) := getD_getI (by omega)
     rw [e3] at HK
     exact HK h4 f04
   · rw [e2] at HK
     exact HK h4 (f03.trans f4)
 · simp only [List.all_cons, List.all_nil, Bool.and_true] at e
   rw [e] at HK
   exact HK h3 (f02.trans f3)
theorem k_IsTree {S S' : Nat -> Prop} {h : Heap} {g w : Sl} {xss : List (List Int)} {rs : List Int} (G : RdR S h g xss) (H : RdI S' h w rs) (sink : Int) : Ret Tryz.prog 17 #[.agg #[g.v], VI sink, w.v] h (.tuple #[VB (isTreeP xss sink rs).1, VB (isTreeP xss sink rs).2]) := by
 intro K HK
 unfold isTreeP at HK
 refine v17 g sink w h K fun b1 h1 hb1 f1 hL1 => ?_
 have f1 := f1.in_nil
 refine k_areSinkRotors (G.no f1) (H.no f1) sink _ fun h2 f2 => ⟨_, rfl, hL1.of_no f2, fun e => ?_, fun e => ?_⟩
 · simp only [Bool.not_eq_true'] at e
   rw [e] at HK
   exact HK h2 (f1.trans f2)
 · simp only [Bool.not_eq_false'] at e
   rw [if_pos e] at HK
   have W : WOK xss (rs, 0) := by
     unfold sinkrB at e
     simp only [Bool.and_eq_true] at e
     exact wok_of e.2.1
   have f02 := f1.trans f2
   exact k_isTree (G.no f02) (H.no f02) W (by have := graph_len W.graph; omega) sink _ fun h3 f3 => ⟨_, rfl, (hL1.of_no f2).of_no f3, HK h3 (f02.trans f3)⟩
def rngI (n : Nat) : List Int := (List.range n).map fun i : Nat => (i : Int)
def cand (g : List (List Int)) (s : Int) (p : Nat) : List Int := if (p : Int) = s ∨ (g.getD p []).length = 0 then [0] else rngI (g.getD p []).length
def allRot (g : List (List Int)) (s : Int) : List (List Int) := prodL ((List.range g.length).map (cand g s))
def treesL (g : List (List Int)) (s : Int) : List (List Int) := (allRot g s).filter fun rs => treeB g rs s
def notS (s : Int) (p : Nat) : Bool := !decide ((p : Int) = s)
theorem notS_t {s : Int} {p : Nat} : notS s p = true ↔ (p : Int) ≠ s := by unfold notS; simp
theorem notS_f {s : Int} {p : Nat} (e : (p : Int) = s) : ¬ notS s p = true := fun h => notS_t.1 h e
theorem nd_names (s : Int) (n : Nat) : (((List.range n).filter (notS s)).map fun p : Nat => (p : Int)).Nodup := by
 unfold List.Nodup
 rw [List.pairwise_map]
 exact (List.Pairwise.filter _ List.nodup_range).imp fun h e => h (by omega)
def tsOf (g : List (List Int)) (s : Int) : Tn := ((List.range g.length).filter (notS s)).map fun p : Nat => ((p : Int), g.getD p [])
theorem mem_prodL {α : Type} : ∀ (cs : List (List α)) (l : List α), l ∈ prodL cs ↔ l.length = cs.length /\ ∀ i (h1 : i < l.length) (h2 : i < cs.length), l[i] ∈ cs[i]
 | [], l => by
   rw [prodL, List.mem_singleton]
   constructor
   · rintro rfl; exact ⟨rfl, fun i h1 => absurd h1 (by simp)⟩
   · rintro ⟨h, _⟩; exact List.length_eq_zero_iff.1 h
 | c :: cs, l => by
   rw [prodL, List.mem_flatMap]
   constructor
   · rintro ⟨x, hx, hl⟩
     obtain ⟨m, hm, rfl⟩ := List.mem_map.1 hl
     obtain ⟨h1, h2⟩ := (mem_prodL cs m).1 hm
     refine ⟨by simp [h1], fun i a b => ?_⟩
     cases i with
     | zero => exact hx
     | succ i => exact h2 i (by simpa using a) (by simpa using b)
   · rintro ⟨h1, h2⟩
     cases l with
     | nil => simp at h1
     | cons x m =>
       refine ⟨x, h2 0 (by simp) (by simp), List.mem_map.2 ⟨m, (mem_prodL cs m).2 ⟨by simpa using h1, fun i a b => ?_⟩, rfl⟩⟩
       exact h2 (i + 1) (by simpa using a) (by simpa using b)
theorem mem_rngI {n : Nat} {x : Int} : x ∈ rngI n ↔ 0 ≤ x /\ x < (n : Int) := by
 unfold rngI
 rw [List.mem_map]
 constructor
 · rintro ⟨i, hi, rfl⟩
   rw [List.mem_range] at hi
   omega
 · rintro ⟨h0, h1⟩
   exact ⟨x.toNat, List.mem_range.2 (by omega), by omega⟩
theorem rot_ok {g : List (List Int)} {s : Int} {rs : List Int} (hg : graphB g = true) {a : Int} (h0 : 0 ≤ a) (h1 : a < (g.length : Int)) (h : rs ∈ allRot g s) : WOK g (rs, a) /\ (0 ≤ s -> rs.getD s.toNat 0 = 0) := by
 obtain ⟨e1, e2⟩ := (mem_prodL _ _).1 h
 rw [List.length_map, List.length_range] at e1
 have e3 : ∀ i (h : i < rs.length), rs[i] ∈ cand g s i := fun i hi => by
   have := e2 i hi (by rw [List.length_map, List.length_range]; omega)
   rw [List.getElem_map, List.getElem_range] at this
   exact this
 refine ⟨⟨hg, e1, h0, h1, fun i hi hi' => ?_⟩, fun hs => ?_⟩
 · have := e3 i hi
   unfold cand at this
   rw [getD_get hi'] at this
   (try simp only)
   split at this
   · rw [List.mem_singleton] at this
     (try simp only at this)
     omega
   · have := mem_rngI.1 this
     (try simp only at this)
     omega
 · by_cases hh : s.toNat < rs.length
   · have := e3 s.toNat hh
     unfold cand at this
     rw [if_pos (.inl (by omega)), List.mem_singleton] at this
     rw [getD_getI hh, this]
   · rw [List.getD_eq_getElem?_getD, List.getElem?_eq_none (by omega)]; rfl
theorem twN_reach {g : List (List Int)} {rs : List Int} {s p : Int} {n : Nat} : ∀ (r m j : Nat), (twN (nx g rs) s n r m (itx g rs p j)).isSome = true -> ∃ k, itx g rs p k = s
 | 0, m, j, h => by rw [twN] at h; cases h
 | r + 1, m, j, h => by
   rw [twN] at h
   by_cases e : itx g rs p j = s
   · exact ⟨j, e⟩
   · rw [if_neg e] at h
     split at h
     · cases h
     · exact twN_reach r (m + 1) (j + 1) h
theorem reach_twN {g : List (List Int)} {rs : List Int} {s p : Int} {n : Nat} (hs : 0 ≤ s) : ∀ (k r m j : Nat), itx g rs p (j + k) = s -> m + k ≤ n + 1 -> k < r -> (twN (nx g rs) s n r m (itx g rs p j)).isSome = true
 | k, 0, m, j, _, _, h => by omega
 | k, r + 1, m, j, h, h1, h2 => by
   rw [twN]
   by_cases e : itx g rs p j = s
   · rw [if_pos e]; rfl
   · rw [if_neg e]
     cases k with
     | zero => exact absurd h e
     | succ k =>
       have h3 : ¬ nx g rs (itx g rs p j) < 0 := fun hh => by
         have : itx g rs p (j + 1) < 0 := hh
         have := itx_neg_mono (m := j + (k + 1)) this (by omega)
         omega
       rw [if_neg (by omega)]
       exact reach_twN hs k r (m + 1) (j + 1) (by rw [show j + 1 + k = j + (k + 1) by omega]; exact h) (by omega) (by omega)
theorem reach_low {g : List (List Int)} {rs : List Int} {a s p : Int} (W : WOK g (rs, a)) (h0 : 0 ≤ p) (h1 : p < (g.length : Int)) (hs : 0 ≤ s) {k : Nat} (h : itx g rs p k = s) : ∃ m, m < g.length /\ itx g rs p m = s := by
 by_cases hn : itx g rs p g.length < 0
 · refine ⟨k, Nat.not_le.1 fun hh => ?_, h⟩
   have := itx_neg_mono hn hh
   omega
 · obtain ⟨i, d, e1, e2, e3⟩ := itx_cyc W h0 h1 (by omega)
   by_cases hk : k < g.length
   · exact ⟨k, hk, h⟩
   · have := itx_mod e3 (k - i)
     rw [show i + (k - i) = k by omega, h] at this
     have := Nat.mod_lt (k - i) (show 0 < d by omega)
     exact ⟨i + (k - i) % d, by omega, by omega⟩
theorem treeB_iff {g : List (List Int)} {rs : List Int} {a s : Int} (W : WOK g (rs, a)) (hs : 0 ≤ s) : treeB g rs s = true ↔ ∀ p : Nat, p < g.length -> ∃ k, itx g rs p k = s := by
 constructor
 · intro h p hp
   have : (twN (nx g rs) s g.length (g.length + 3) 0 (itx g rs p 0)).isSome = true := by
     show (twN (nx g rs) s g.length (g.length + 3) 0 p).isSome = true
     cases hh : twN (nx g rs) s g.length (g.length + 3) 0 p with
     | some m => rfl
     | none =>
       exfalso
       have e1 : twL g rs s (p + 1) = none := by
         rw [twL]
         cases twL g rs s p with
         | none => rfl
         | some l => (try simp only); rw [hh]
       unfold treeB at h
       rw [twL_no e1 (by omega)] at h
       cases h
   exact twN_reach _ _ _ this
 · intro h
   refine tree_of fun p hp => ?_
   obtain ⟨k, hk⟩ := h p hp
   obtain ⟨m, hm, e⟩ := reach_low W (p := (p : Int)) (by omega) (by omega) hs hk
   exact reach_twN (p := (p : Int)) hs m _ 0 0 (by rw [Nat.zero_add]; exact e) (by omega) (by omega)
def prsOf (g : List (List Int)) (s : Int) (ps : List Nat) (rs : List Int) : List (Int × Int) := ((ps.zip rs).filter fun t => notS s t.1).map fun t => ((t.1 : Int), (g.getD t.1 []).getD t.2.toNat 0)
theorem prs_pos {g : List (List Int)} {s : Int} {p : Nat} (e : (p : Int) ≠ s) (r : Int) (ps : List Nat) (rs : List Int) : prsOf g s (p :: ps) (r :: rs) = ((p : Int), (g.getD p []).getD r.toNat 0) :: prsOf g s ps rs := by
 unfold prsOf
 rw [List.zip_cons_cons, List.filter_cons_of_pos (p := fun t : Nat × Int => notS s t.1) (a := (p, r)) (notS_t.2 e), List.map_cons]
theorem prs_neg {g : List (List Int)} {s : Int} {p : Nat} (e : (p : Int) = s) (r : Int) (ps : List Nat) (rs : List Int) : prsOf g s (p :: ps) (r :: rs) = prsOf g s ps rs := by
 unfold prsOf
 rw [List.zip_cons_cons, List.filter_cons_of_neg (p := fun t : Nat × Int => notS s t.1) (a := (p, r)) (notS_f e)]
theorem rng_get (ex : List Int) : (rngI ex.length).map (fun k => ex.getD k.toNat 0) = ex := by
 apply List.ext_getElem
 · simp [rngI]
 · intro i h1 h2
   simp only [rngI, List.getElem_map, List.getElem_range]
   rw [show ((i : Nat) : Int).toNat = i by omega, getD_getI h2]
theorem rot_tgt (g : List (List Int)) (s : Int) : ∀ ps : List Nat, (∀ p, p ∈ ps -> (p : Int) ≠ s -> (g.getD p []).length ≠ 0) →
   (prodL (ps.map (cand g s))).map (fun rs => (prsOf g s ps rs).map (·.2)) = prodL ((ps.filter (notS s)).map fun p : Nat => g.getD p [])
 | [], _ => rfl
 | p :: ps, h => by
   have ih := rot_tgt g s ps fun q hq => h q (List.mem_cons_of_mem _ hq)
   rw [List.map_cons, prodL, List.map_flatMap]
   by_cases e : (p : Int) = s
   · have hc : cand g s p = [0] := by unfold cand; rw [if_pos (.inl e)]
     rw [hc, List.filter_cons_of_neg (notS_f e), ← ih, List.flatMap_cons, List.flatMap_nil, List.append_nil, List.map_map]
     refine List.map_congr_left fun rs _ => ?_
     (try simp only [Function.comp])
     rw [prs_neg e]
   · have hc : cand g s p = rngI (g.getD p []).length := by
       unfold cand
       rw [if_neg fun hh => by
         rcases hh with hh | hh
         · exact e hh
         · exact h p (List.mem_cons_self ..) e hh]
     rw [hc, List.filter_cons_of_pos (notS_t.2 e), List.map_cons, prodL, ← ih]
     have : ∀ l : List Int, (l.flatMap fun x => ((prodL (ps.map (cand g s))).map (x :: ·)).map fun rs => (prsOf g s (p :: ps) rs).map (·.2)) = (l.map fun k => (g.getD p []).getD k.toNat 0).flatMap fun x => ((prodL (ps.map (cand g s))).map fun rs => (prsOf g s ps rs).map (·.2)).map (x :: ·) := by
       intro l
       rw [List.flatMap_map]
       congr 1
       funext x
       rw [List.map_map, List.map_map]
       refine List.map_congr_left fun rs _ => ?_
       (try simp only [Function.comp])
       rw [prs_pos e, List.map_cons]
     rw [this, rng_get]
theorem prs_names (g : List (List Int)) (s : Int) : ∀ (ps : List Nat) (rs : List Int), rs.length = ps.length -> (prsOf g s ps rs).map (·.1) = (ps.filter (notS s)).map fun p : Nat => (p : Int)
 | [], rs, h => by simp [prsOf]
 | p :: ps, [], h => by simp at h
 | p :: ps, r :: rs, h => by
   have ih := prs_names g s ps rs (by simpa using h)
   by_cases e : (p : Int) = s
   · rw [prs_neg e, List.filter_cons_of_neg (notS_f e)]
     exact ih
   · rw [prs_pos e, List.filter_cons_of_pos (notS_t.2 e), List.map_cons, List.map_cons, ih]
theorem mem_prs {g : List (List Int)} {s : Int} {rs : List Int} (h : rs.length = g.length) {t : Int × Int} : t ∈ prsOf g s (List.range g.length) rs ↔ ∃ p : Nat, p < g.length /\ (p : Int) ≠ s /\ t = ((p : Int), (g.getD p []).getD (rs.getD p 0).toNat 0) := by
 unfold prsOf
 rw [List.mem_map]
 constructor
 · rintro ⟨u, hu, rfl⟩
   rw [List.mem_filter] at hu
   obtain ⟨i, hi, e⟩ := List.getElem_of_mem hu.1
   rw [List.length_zip, List.length_range] at hi
   rw [List.getElem_zip, List.getElem_range] at e
   have hir : i < rs.length := by have := Nat.min_le_right g.length rs.length; omega
   refine ⟨i, by omega, ?_, ?_⟩
   · have := hu.2
     rw [← e] at this
     exact notS_t.1 this
   · rw [← e]
     (try simp only)
     rw [getD_getI hir]
 · rintro ⟨p, hp, hne, rfl⟩
   refine ⟨(p, rs.getD p 0), List.mem_filter.2 ⟨?_, notS_t.2 hne⟩, rfl⟩
   have hz : p < ((List.range g.length).zip rs).length := by rw [List.length_zip, List.length_range]; omega
   have := List.getElem_mem hz
   rw [List.getElem_zip, List.getElem_range] at this
   rw [getD_getI (by omega)]
   exact this
theorem first_hit {g : List (List Int)} {rs : List Int} {s p : Int} : ∀ k, itx g rs p k = s -> ∃ m, m ≤ k /\ itx g rs p m = s /\ ∀ j, j < m -> itx g rs p j ≠ s := by
 intro k
 induction k using Nat.strongRecOn with
 | ind k ih =>
   intro h
   by_cases hx : ∃ j, j < k /\ itx g rs p j = s
   · obtain ⟨j, a, b⟩ := hx
     obtain ⟨m, m1, m2⟩ := ih j a b
     exact ⟨m, by omega, m2⟩
   · exact ⟨k, Nat.le_refl _, h, fun j hj e => hx ⟨j, hj, e⟩⟩
theorem itx_cons {g : List (List Int)} {rs : List Int} (p : Int) : ∀ k, itx g rs (nx g rs p) k = itx g rs p (k + 1)
 | 0 => rfl
 | k + 1 => by rw [itx, itx_cons p k]; rfl
theorem tree_ok {g : List (List Int)} {s a : Int} {rs : List Int} (W : WOK g (rs, a)) (h0 : 0 ≤ s) (h1 : s < (g.length : Int)) (hne : ∀ p : Nat, p < g.length -> (p : Int) ≠ s -> (g.getD p []).length ≠ 0) :
   okT (prsOf g s (List.range g.length) rs).length (prsOf g s (List.range g.length) rs) = treeB g rs s := by
 have hl : rs.length = g.length := W.len
 have hn : (prsOf g s (List.range g.length) rs).map (·.1) = ((List.range g.length).filter (notS s)).map fun p : Nat => (p : Int) := prs_names g s _ _ (by rw [List.length_range]; exact hl)
 have nd : ((prsOf g s (List.range g.length) rs).map (·.1)).Nodup := by
   rw [hn]
   exact nd_names s _
 have nm : ∀ x : Int, x ∈ (prsOf g s (List.range g.length) rs).map (·.1) ↔ 0 ≤ x /\ x < (g.length : Int) /\ x ≠ s := fun x => by
   rw [hn, List.mem_map]
   constructor
   · rintro ⟨p, hp, rfl⟩
     rw [List.mem_filter, List.mem_range] at hp
     have := notS_t.1 hp.2
     omega
   · rintro ⟨a, b, c⟩
     exact ⟨x.toNat, List.mem_filter.2 ⟨List.mem_range.2 (by omega), notS_t.2 (by omega)⟩, by omega⟩
 have nxe : ∀ p : Nat, p < g.length -> (p : Int) ≠ s -> (g.getD p []).getD (rs.getD p 0).toNat 0 = nx g rs p /\ 0 ≤ nx g rs p /\ nx g rs p < (g.length : Int) := fun p hp hps => by
   have a1 := hne p hp hps
   obtain ⟨hr, hm, h2, e⟩ := nx_some W (p := (p : Int)) (by omega) (by omega) (by rw [getD_get hp] at a1; exact a1)
   have hm' := (graph_mem W.graph (List.getElem_mem (show (p : Int).toNat < g.length by omega))).2 _ (List.getElem_mem hm)
   refine ⟨?_, by rw [e]; omega, by rw [e]; omega⟩
   unfold nx
   rw [if_neg (by omega), show ((p : Nat) : Int).toNat = p by omega, if_neg a1]
 rw [Bool.eq_iff_iff, ok_rank _ _ rfl nd, treeB_iff W h0]
 constructor
 · rintro ⟨rk, H⟩
   have : ∀ (n : Nat) (p : Nat), p < g.length -> rk p < n -> ∃ k, itx g rs p k = s := by
     intro n
     induction n with
     | zero => intro p _ h; omega
     | succ n ih =>
       intro p hp hk
       by_cases e : (p : Int) = s
       · exact ⟨0, e⟩
       · obtain ⟨x1, x2, x3⟩ := nxe p hp e
         by_cases e2 : nx g rs p = s
         · exact ⟨1, e2⟩
         · have := H _ ((mem_prs hl).2 ⟨p, hp, e, rfl⟩) (by (try simp only); rw [x1]; exact (nm _).2 ⟨x2, x3, e2⟩)
           (try simp only at this)
           rw [x1] at this
           obtain ⟨k, hk'⟩ := ih (nx g rs p).toNat (by omega) (by rw [show (((nx g rs p).toNat : Nat) : Int) = nx g rs p by omega]; omega)
           rw [show (((nx g rs p).toNat : Nat) : Int) = nx g rs p by omega, itx_cons] at hk'
           exact ⟨k + 1, hk'⟩
   exact fun p hp => this _ p hp (Nat.lt_succ_self _)
 · intro H
   have hf : ∀ p : Int, ∃ m : Nat, 0 ≤ p -> p < (g.length : Int) -> itx g rs p m = s /\ ∀ j, j < m -> itx g rs p j ≠ s := fun p => by
     by_cases hp : 0 ≤ p /\ p < (g.length : Int)
     · obtain ⟨k, hk⟩ := H p.toNat (by omega)
       rw [show ((p.toNat : Nat) : Int) = p by omega] at hk
       obtain ⟨m, _, m2⟩ := first_hit k hk
       exact ⟨m, fun _ _ => m2⟩
     · exact ⟨0, fun a b => absurd ⟨a, b⟩ hp⟩
   refine ⟨fun p => Classical.choose (hf p), fun t ht hm => ?_⟩
   obtain ⟨p, hp, hps, rfl⟩ := (mem_prs hl).1 ht
   obtain ⟨x1, x2, x3⟩ := nxe p hp hps
   (try simp only at hm ⊢)
   rw [x1] at hm ⊢
   obtain ⟨a1, a2⟩ := Classical.choose_spec (hf (nx g rs p)) x2 x3
   obtain ⟨b1, b2⟩ := Classical.choose_spec (hf (p : Int)) (by omega) (by omega)
   revert a1 a2 b1 b2
   generalize Classical.choose (hf (nx g rs p)) = u
   generalize Classical.choose (hf (p : Int)) = v
   intro a1 a2 b1 b2
   cases v with
   | zero => exact absurd b1 hps
   | succ v =>
     rw [← itx_cons] at b1
     refine Nat.not_le.1 fun hh => ?_
     exact a2 v (by omega) b1
theorem prod_nil {α : Type} : ∀ cs : List (List α), [] ∈ cs -> prodL cs = []
 | [], h => by simp at h
 | c :: cs, h => by
   rw [prodL]
   rcases List.mem_cons.1 h with h | h
   · rw [← h]; rfl
   · rw [prod_nil cs h]
     simp
theorem trees_count {g : List (List Int)} {s : Int} (hg : graphB g = true) (h0 : 0 ≤ s) (h1 : s < (g.length : Int)) : ((treesL g s).length : Int) = det (g.length - 1) (lapM (tsOf g s)) := by
 have hl : (tsOf g s).length = g.length - 1 := by
   unfold tsOf
   rw [List.length_map]
   have : ∀ n : Nat, ((List.range n).filter (notS s)).length = if s.toNat < n then n - 1 else n := by
     intro n
     induction n with
     | zero => rfl
     | succ n ih =>
       rw [List.range_succ, List.filter_append, List.length_append, ih]
       by_cases e : (n : Int) = s
       · rw [List.filter_cons_of_neg (notS_f e), if_neg (by omega), if_pos (by omega)]; simp
       · rw [List.filter_cons_of_pos (notS_t.2 e)]
         by_cases c : s.toNat < n
         · rw [if_pos c, if_pos (by omega)]; simp; omega
         · rw [if_neg c, if_neg (by omega)]; simp
   rw [this, if_pos (by omega)]
 have nd : ((tsOf g s).map (·.1)).Nodup := by
   unfold tsOf
   rw [List.map_map]
   exact nd_names s _
 rw [det_lap _ _ hl nd, cnt_prod _ _ hl]
 congr 1
 unfold treesL
 rw [← List.countP_eq_length_filter]
 have ex : (tsOf g s).map (·.2) = ((List.range g.length).filter (notS s)).map fun p : Nat => g.getD p [] := by
   unfold tsOf
   rw [List.map_map]
   rfl
 have en : (tsOf g s).map (·.1) = ((List.range g.length).filter (notS s)).map fun p : Nat => (p : Int) := by
   unfold tsOf
   rw [List.map_map]
   rfl
 by_cases hne : ∀ p : Nat, p < g.length -> (p : Int) ≠ s -> (g.getD p []).length ≠ 0
 · rw [ex, ← rot_tgt g s (List.range g.length) fun p hp => hne p (List.mem_range.1 hp), List.countP_map]
   show (allRot g s).countP _ = (allRot g s).countP _
   refine List.countP_congr fun rs hrs => ?_
   (try simp only [Function.comp])
   have W := (rot_ok (a := s) hg h0 h1 hrs).1
   have hrl : rs.length = g.length := W.len
   rw [en, ← prs_names g s (List.range g.length) rs (by rw [List.length_range]; exact hrl)]
   have hz : ((prsOf g s (List.range g.length) rs).map (·.1)).zip ((prsOf g s (List.range g.length) rs).map (·.2)) = prsOf g s (List.range g.length) rs := by
     generalize prsOf g s (List.range g.length) rs = l
     induction l with
     | nil => rfl
     | cons a l ih => rw [List.map_cons, List.map_cons, List.zip_cons_cons, ih]
   have hlen : (prsOf g s (List.range g.length) rs).length = g.length - 1 := by
     have := congrArg List.length (prs_names g s (List.range g.length) rs (by rw [List.length_range]; exact hrl))
     rw [List.length_map] at this
     rw [this, ← en, List.length_map, hl]
   rw [hz, ← hlen, tree_ok W h0 h1 hne]
 · have : ∃ p : Nat, p < g.length /\ (p : Int) ≠ s /\ (g.getD p []).length = 0 := by
     refine Classical.byContradiction fun hh => hne fun p hp hps hz => hh ⟨p, hp, hps, hz⟩
   obtain ⟨p, hp, hps, hz⟩ := this
   have e1 : prodL ((tsOf g s).map (·.2)) = [] := by
     refine prod_nil _ ?_
     rw [ex, List.mem_map]
     exact ⟨p, List.mem_filter.2 ⟨List.mem_range.2 hp, notS_t.2 hps⟩, List.length_eq_zero_iff.1 hz⟩
   rw [e1, List.countP_nil, List.countP_eq_zero]
   intro rs hrs hh
   have W := (rot_ok (a := s) hg h0 h1 hrs).1
   obtain ⟨k, hk⟩ := (treeB_iff W h0).1 hh p hp
   cases k with
   | zero => exact hps hk
   | succ k =>
     have : itx g rs p 1 < 0 := by
       show nx g rs p < 0
       unfold nx
       rw [if_neg (by omega), show ((p : Nat) : Int).toNat = p by omega, if_pos hz]
       omega
     have := itx_neg_mono this (show 1 ≤ k + 1 by omega)
     omega
def lpG (g : List (List Int)) (s : Int) (rs : List Int) (p : Int) : Nat -> Int -> Bool
 | 0, _ => true
 | n + 1, q => if q = s ∨ p < q then false else if nx g rs q < 0 then true else lpG g s rs p n (nx g rs q)
def lpB (g : List (List Int)) (s : Int) (rs : List Int) (p : Int) : Bool := lpG g s rs p (g.length + 1) p
theorem itx_add3 {g : List (List Int)} {rs : List Int} (p : Int) (m : Nat) : ∀ k, itx g rs p (m + k) = itx g rs (itx g rs p m) k
 | 0 => rfl
 | k + 1 => by rw [← Nat.add_assoc, itx, itx_add3 p m k]; rfl
theorem lpG_true {g : List (List Int)} {s p : Int} {rs : List Int} : ∀ (n : Nat) (q : Int), lpG g s rs p n q = true -> (∃ j, j < n /\ (∀ i, i ≤ j -> itx g rs q i ≠ s /\ itx g rs q i ≤ p) /\ itx g rs q (j + 1) < 0) ∨ ∀ i, i < n -> itx g rs q i ≠ s /\ itx g rs q i ≤ p
 | 0, q, _ => .inr fun i hi => by omega
 | n + 1, q, h => by
   rw [lpG] at h
   split at h
   · cases h
   · rename_i h1
     have h1 : q ≠ s /\ q ≤ p := ⟨fun e => h1 (.inl e), by omega⟩
     split at h
     · rename_i h2
       refine .inl ⟨0, by omega, fun i hi => ?_, h2⟩
       rw [show i = 0 by omega]
       exact h1
     · rcases lpG_true n (nx g rs q) h with ⟨j, j1, j2, j3⟩ | h3
       · refine .inl ⟨j + 1, by omega, fun i hi => ?_, by rw [← itx_cons]; exact j3⟩
         cases i with
         | zero => exact h1
         | succ i => rw [← itx_cons]; exact j2 i (by omega)
       · refine .inr fun i hi => ?_
         cases i with
         | zero => exact h1
         | succ i => rw [← itx_cons]; exact h3 i (by omega)
theorem lpG_false {g : List (List Int)} {s p : Int} {rs : List Int} : ∀ (n : Nat) (q : Int), lpG g s rs p n q = false -> ∃ m, itx g rs q m = s ∨ p < itx g rs q m
 | 0, q, h => by cases h
 | n + 1, q, h => by
   rw [lpG] at h
   split at h
   · rename_i h1
     exact ⟨0, h1⟩
   · split at h
     · cases h
     · obtain ⟨m, hm⟩ := lpG_false n _ h
       exact ⟨m + 1, by rw [← itx_cons]; exact hm⟩
theorem nx_agree {g : List (List Int)} {rs rs' : List Int} {p : Int} (h : ∀ i : Nat, (i : Int) ≤ p -> rs'.getD i 0 = rs.getD i 0) {q : Int} (hq : q ≤ p) : nx g rs' q = nx g rs q := by
 unfold nx
 by_cases h0 : q < 0
 · rw [if_pos h0, if_pos h0]
 · rw [h q.toNat (by omega)]
theorem itx_agree {g : List (List Int)} {rs rs' : List Int} {p q : Int} (h : ∀ i : Nat, (i : Int) ≤ p -> rs'.getD i 0 = rs.getD i 0) : ∀ k, (∀ i, i < k -> itx g rs q i ≤ p) -> itx g rs' q k = itx g rs q k
 | 0, _ => rfl
 | k + 1, hk => by
   rw [itx, itx, itx_agree h k fun i hi => hk i (by omega), nx_agree h (hk k (by omega))]
theorem lpG_agree {g : List (List Int)} {s p : Int} {rs rs' : List Int} (h : ∀ i : Nat, (i : Int) ≤ p -> rs'.getD i 0 = rs.getD i 0) : ∀ (n : Nat) (q : Int), lpG g s rs' p n q = lpG g s rs p n q
 | 0, _ => rfl
 | n + 1, q => by
   rw [lpG, lpG]
   by_cases h1 : q = s ∨ p < q
   · rw [if_pos h1, if_pos h1]
   · rw [if_neg h1, if_neg h1, nx_agree h (by omega), lpG_agree h n]
theorem lp_no {g : List (List Int)} {s p a : Int} {rs rs' : List Int} (W : WOK g (rs', a)) (hs : 0 ≤ s) (p0 : 0 ≤ p) (p1 : p < (g.length : Int)) (h : ∀ i : Nat, (i : Int) ≤ p -> rs'.getD i 0 = rs.getD i 0) (hl : lpB g s rs p = true) : treeB g rs' s = false := by
 rw [Bool.eq_false_iff]
 intro ht
 obtain ⟨k, hk⟩ := (treeB_iff W hs).1 ht p.toNat (by omega)
 rw [show ((p.toNat : Nat) : Int) = p by omega] at hk
 obtain ⟨m, m1, m2⟩ := reach_low W p0 p1 hs hk
 rcases lpG_true _ _ hl with ⟨j, _, j2, j3⟩ | h3
 · have e : itx g rs' p (j + 1) < 0 := by rw [itx_agree h (j + 1) fun i hi => (j2 i (by omega)).2]; exact j3
   by_cases hm : m ≤ j
   · have := itx_agree (q := p) h m fun i hi => (j2 i (by omega)).2
     exact (j2 m hm).1 (this.symm.trans m2)
   · have := itx_neg_mono e (show j + 1 ≤ m by omega)
     omega
 · have := itx_agree (q := p) h m fun i hi => (h3 i (by omega)).2
   exact (h3 m (by omega)).1 (this.symm.trans m2)
theorem lp_tree {g : List (List Int)} {s a : Int} {rs : List Int} (W : WOK g (rs, a)) (hs : 0 ≤ s) (h : ∀ p : Nat, p < g.length -> (p : Int) ≠ s -> lpB g s rs p = false) : treeB g rs s = true := by
 rw [treeB_iff W hs]
 have : ∀ d p : Nat, p < g.length -> g.length - p = d -> ∃ k, itx g rs p k = s := by
   intro d
   induction d using Nat.strongRecOn with
   | ind d ih =>
     intro p hp hd
     by_cases e : (p : Int) = s
     · exact ⟨0, e⟩
     · obtain ⟨m, hm⟩ := lpG_false _ _ (h p hp e)
       rcases hm with hm | hm
       · exact ⟨m, hm⟩
       · have lt := (itx_lt W (p := (p : Int)) (by omega) (by omega) m).2
         obtain ⟨k, hk⟩ := ih (g.length - (itx g rs p m).toNat) (by omega) (itx g rs p m).toNat (by omega) rfl
         rw [show (((itx g rs p m).toNat : Nat) : Int) = itx g rs p m by omega, ← itx_add3] at hk
         exact ⟨m + k, hk⟩
 exact fun p hp => this _ p hp rfl
def ptL (g : List (List Int)) (s : Int) (rs : List Int) (p : Nat) : List (List Int) := ((prodL ((List.range' p (g.length - p)).map (cand g s))).map fun l => rs.take p ++ l).filter fun rs => treeB g rs s
theorem ptL_zero (g : List (List Int)) (s : Int) (rs : List Int) : ptL g s rs 0 = treesL g s := by
 unfold ptL treesL allRot
 rw [Nat.sub_zero, List.range_eq_range', List.take_zero]
 simp
theorem ptL_end {g : List (List Int)} {s : Int} {rs : List Int} (hl : rs.length = g.length) : ptL g s rs g.length = if treeB g rs s = true then [rs] else [] := by
 unfold ptL
 rw [Nat.sub_self, List.range'_zero, List.map_nil, prodL, List.map_cons, List.map_nil, List.append_nil, List.take_of_length_le (by omega), List.filter_cons]
 rfl
theorem ptL_step {g : List (List Int)} {s : Int} {rs : List Int} (hl : rs.length = g.length) {p : Nat} (hp : p < g.length) : ptL g s rs p = (cand g s p).flatMap fun k => ptL g s (rs.set p k) (p + 1) := by
 unfold ptL
 rw [show g.length - p = (g.length - (p + 1)) + 1 by omega, List.range'_succ, List.map_cons, prodL, List.map_flatMap, List.filter_flatMap]
 congr 1
 funext k
 rw [List.map_map]
 congr 1
 refine List.map_congr_left fun l _ => ?_
 (try simp only [Function.comp])
 rw [List.take_succ_eq_append_getElem (by rw [List.length_set]; omega), List.getElem_set_self, List.take_set_of_le (Nat.le_refl _), List.append_assoc]
 rfl
theorem mem_ptL {g : List (List Int)} {s : Int} {rs l : List Int} {p : Nat} (hl : rs.length = g.length) (hp : p ≤ g.length) (h : l ∈ ptL g s rs p) : l.length = g.length /\ (∀ i : Nat, i < p -> l.getD i 0 = rs.getD i 0) /\ (∀ i (h1 : i < l.length), p ≤ i -> l[i] ∈ cand g s i) /\ treeB g l s = true := by
 unfold ptL at h
 rw [List.mem_filter, List.mem_map] at h
 obtain ⟨⟨m, hm, rfl⟩, ht⟩ := h
 obtain ⟨e1, e2⟩ := (mem_prodL _ _).1 hm
 rw [List.length_map, List.length_range'] at e1
 have tl : (rs.take p).length = p := by rw [List.length_take]; omega
 refine ⟨by rw [List.length_append, tl, e1]; omega, fun i hi => ?_, fun i h1 h2 => ?_, ht⟩
 · rw [List.getD_eq_getElem?_getD, List.getD_eq_getElem?_getD, List.getElem?_append_left (by omega), List.getElem?_take_of_lt hi]
 · rw [List.length_append, tl] at h1
   rw [List.getElem_append_right (by omega)]
   have := e2 (i - (rs.take p).length) (by omega) (by rw [List.length_map, List.length_range']; omega)
   rw [List.getElem_map, List.getElem_range'] at this
   rw [show p + 1 * (i - (rs.take p).length) = i by omega] at this
   exact this
theorem ptL_no {g : List (List Int)} {s : Int} {rs : List Int} (hg : graphB g = true) (hs : 0 ≤ s) {p : Nat} (hp : p < g.length) (hl : rs.length = g.length) (hr : ∀ i (h1 : i < rs.length) (h2 : i < g.length), i ≤ p -> 0 ≤ rs[i] /\ rs[i] ≤ max ((g[i].length : Int) - 1) 0) (h : lpB g s rs p = true) : ptL g s rs (p + 1) = [] := by
 rw [List.eq_nil_iff_forall_not_mem]
 intro l hm
 obtain ⟨m1, m2, m3, m4⟩ := mem_ptL hl (by omega) hm
 have W : WOK g (l, (p : Int)) := ⟨hg, m1, by (try simp only); omega, by (try simp only); omega, fun i a b => by
   (try simp only at a ⊢)
   by_cases hi : i < p + 1
   · have e := m2 i hi
     rw [getD_getI a, getD_getI (by omega)] at e
     rw [e]
     exact hr i (by omega) b (by omega)
   · have := m3 i a (by omega)
     unfold cand at this
     rw [getD_get b] at this
     split at this
     · rw [List.mem_singleton] at this
       omega
     · have := mem_rngI.1 this
       omega⟩
 rw [lp_no W hs (by omega) (by omega) (fun i hi => m2 i (by omega)) h] at m4
 cases m4
theorem take_app {α : Type} (m : Nat) (a b : List α) : ((a.take m) ++ b).take m = (a ++ b).take m := by
 rw [List.take_append, List.take_append, List.take_take, List.length_take, Nat.min_self]
 by_cases h : a.length ≤ m
 · rw [Nat.min_eq_right h]
 · rw [Nat.min_eq_left (by omega), Nat.sub_self, show m - a.length = 0 by omega]
def Ch {α : Type} (f : α -> Option α) : List α -> Option α -> Prop
 | [], _ => True
 | [x], e => f x = e
 | x :: y :: l, e => f x = some y /\ Ch f (y :: l) e
theorem Ch.app {α : Type} {f : α -> Option α} {y : α} {l2 : List α} {e : Option α} : ∀ {l1 : List α}, Ch f l1 (some y) -> Ch f (y :: l2) e -> Ch f (l1 ++ y :: l2) e
 | [], _, h => h
 | [x], h1, h2 => ⟨h1, h2⟩
 | x :: z :: l, h1, h2 => ⟨h1.1, Ch.app (l1 := z :: l) h1.2 h2⟩
theorem Ch.at {α : Type} {f : α -> Option α} {e : Option α} : ∀ {pre post : List α} {x : α}, Ch f (pre ++ x :: post) e -> f x = (match post with | [] => e | y :: _ => some y)
 | [], [], x, h => h
 | [], y :: post, x, h => h.1
 | [a], post, x, h => Ch.at (pre := []) h.2
 | a :: b :: pre, post, x, h => Ch.at (pre := b :: pre) h.2
theorem Ch.map {α β : Type} {f : α -> Option α} {F : β -> Option β} {g : α -> β} {e : Option β} : ∀ {l : List α}, Ch f l none -> (∀ x y, f x = some y -> F (g x) = some (g y)) -> (∀ x, f x = none -> x ∈ l -> F (g x) = e) -> Ch F (l.map g) e
 | [], _, _, _ => trivial
 | [x], h, _, h2 => h2 x h (List.mem_singleton.2 rfl)
 | x :: y :: l, h, h1, h2 => ⟨h1 x y h.1, Ch.map (l := y :: l) h.2 h1 fun z hz hm => h2 z hz (List.mem_cons_of_mem _ hm)⟩
def zerL (ns : List Nat) : List Int := ns.map fun _ => 0
def nextD : List Nat -> List Int -> Option (List Int)
 | n :: ns, x :: l => match nextD ns l with
   | some l' => some (x :: l')
   | none => if x + 1 < (n : Int) then some ((x + 1) :: zerL ns) else none
 | _, _ => none
def seqI (a k : Nat) : List Int := (List.range' a k).map fun i : Nat => (i : Int)
theorem rngI_seq (n : Nat) : rngI n = seqI 0 n := by unfold rngI seqI; rw [List.range_eq_range']
theorem seqI_succ (a k : Nat) : seqI a (k + 1) = (a : Int) :: seqI (a + 1) k := by unfold seqI; rw [List.range'_succ, List.map_cons]
theorem prodL_head : ∀ ns : List Nat, (∀ n, n ∈ ns -> 1 ≤ n) -> ∃ t, prodL (ns.map rngI) = zerL ns :: t
 | [], _ => ⟨[], rfl⟩
 | n :: ns, h => by
   obtain ⟨t, ht⟩ := prodL_head ns fun m hm => h m (List.mem_cons_of_mem _ hm)
   obtain ⟨k, rfl⟩ : ∃ k, n = k + 1 := ⟨n - 1, by have := h n (List.mem_cons_self ..); omega⟩
   rw [List.map_cons, prodL, ht, rngI_seq, seqI_succ, List.flatMap_cons]
   exact ⟨_, rfl⟩
theorem chain_all : ∀ ns : List Nat, (∀ n, n ∈ ns -> 1 ≤ n) -> Ch (nextD ns) (prodL (ns.map rngI)) none
 | [], _ => rfl
 | n :: ns, h => by
   have h' : ∀ m, m ∈ ns -> 1 ≤ m := fun m hm => h m (List.mem_cons_of_mem _ hm)
   have ih := chain_all ns h'
   obtain ⟨t, ht⟩ := prodL_head ns h'
   have blk : ∀ x : Int, Ch (nextD (n :: ns)) ((prodL (ns.map rngI)).map (x :: ·)) (if x + 1 < (n : Int) then some ((x + 1) :: zerL ns) else none) := fun x =>
     Ch.map ih (fun l l' hl => by rw [nextD, hl]) fun l hl _ => by rw [nextD, hl]
   have go : ∀ k a : Nat, a + k = n -> 1 ≤ k -> Ch (nextD (n :: ns)) ((seqI a k).flatMap fun x => (prodL (ns.map rngI)).map (x :: ·)) none := by
     intro k
     induction k with
     | zero => intro a _ h; omega
     | succ k ih2 =>
       intro a ha _
       rw [seqI_succ, List.flatMap_cons]
       by_cases hk : k = 0
       · subst hk
         have e : seqI (a + 1) 0 = [] := rfl
         rw [e, List.flatMap_nil, List.append_nil]
         have := blk (a : Int)
         rw [if_neg (by omega)] at this
         exact this
       · have h2 := ih2 (a + 1) (by omega) (by omega)
         have h1 := blk (a : Int)
         rw [if_pos (by omega)] at h1
         obtain ⟨j, rfl⟩ : ∃ j, k = j + 1 := ⟨k - 1, by omega⟩
         rw [seqI_succ, List.flatMap_cons, ht] at h2 ⊢
         rw [ht] at h1
         simp only [List.map_cons, List.cons_append] at h1 h2 ⊢
         refine Ch.app (l1 := ((a : Int) :: zerL ns) :: t.map fun l => (a : Int) :: l) ?_ h2
         have e : (((a + 1 : Nat) : Int) :: zerL ns) = ((a : Int) + 1) :: zerL ns := by rw [show ((a + 1 : Nat) : Int) = (a : Int) + 1 by omega]
         rw [e]
         exact h1
   rw [List.map_cons, prodL, rngI_seq]
   exact go n 0 (by omega) (h n (List.mem_cons_self ..))
theorem nextD_none : ∀ (ns : List Nat) (l : List Int), l.length = ns.length -> (∀ i (h1 : i < l.length) (h2 : i < ns.length), ((ns[i] : Nat) : Int) ≤ l[i] + 1) -> nextD ns l = none
 | [], [], _, _ => rfl
 | [], _ :: _, h, _ => by simp at h
 | _ :: _, [], h, _ => by simp at h
 | n :: ns, x :: l, h, hm => by
   rw [nextD, nextD_none ns l (by simpa using h) fun i h1 h2 => hm (i + 1) (by simpa using h1) (by simpa using h2)]
   have := hm 0 (by simp) (by simp)
   simp only [List.getElem_cons_zero] at this
   exact if_neg (by omega)
theorem nextD_some : ∀ (ns : List Nat) (l : List Int) (p : Nat), l.length = ns.length -> (h1 : p < l.length) -> (h2 : p < ns.length) -> l[p] + 1 < ((ns[p] : Nat) : Int) -> (∀ i (a : i < l.length) (b : i < ns.length), p < i -> ((ns[i] : Nat) : Int) ≤ l[i] + 1) →
   nextD ns l = some (l.take p ++ (l[p] + 1) :: zerL (ns.drop (p + 1)))
 | [], _, p, _, _, h2, _, _ => by simp at h2
 | _ :: _, [], p, _, h1, _, _, _ => by simp at h1
 | n :: ns, x :: l, 0, h, h1, h2, hx, hm => by
   rw [nextD, nextD_none ns l (by simpa using h) fun i a b => hm (i + 1) (by simpa using a) (by simpa using b) (by omega)]
   simp only [List.getElem_cons_zero] at hx ⊢
   simp [hx]
 | n :: ns, x :: l, p + 1, h, h1, h2, hx, hm => by
   rw [nextD, nextD_some ns l p (by simpa using h) (by simpa using h1) (by simpa using h2) (by simpa using hx) fun i a b c => hm (i + 1) (by simpa using a) (by simpa using b) (by omega)]
   simp
theorem setCells_heap (b : Nat) : ∀ (vs : List Value) (i o : Nat) (w : World), (World.setCells w b (o + i) vs).heap = (vs.zipIdx i).foldl (fun h p => Mx.hset h ((⟨b, o, none⟩ : Addr).add p.2) p.1) w.heap /\ Same w (World.setCells w b (o + i) vs)
 | [], i, o, w => ⟨rfl, Same.refl _⟩
 | v :: vs, i, o, w => by
   rw [World.setCells, List.zipIdx_cons, List.foldl_cons, add_plain']
   obtain ⟨a, b'⟩ := setCells_heap b vs (i + 1) o (w.setCell ⟨b, o + i, none⟩ v)
   rw [show o + i + 1 = o + (i + 1) by omega, a]
   exact ⟨rfl, Same.trans (b := w.setCell ⟨b, o + i, none⟩ v) ⟨rfl, rfl, rfl⟩ b'⟩
theorem Ow.puts {F : Nat -> Prop} {e : TypeId} {s : Sl} {g o : Nat} (ha : s.a = some ⟨g, o, none⟩) : ∀ (vs : List Value) (i : Nat) {h : Heap} {cs : List Value}, Ow h F e 1 s cs -> i + vs.length ≤ s.n →
   Fr s.own h ((vs.zipIdx i).foldl (fun h p => Mx.hset h ((⟨g, o, none⟩ : Addr).add p.2) p.1) h) /\ Ow ((vs.zipIdx i).foldl (fun h p => Mx.hset h ((⟨g, o, none⟩ : Addr).add p.2) p.1) h) F e 1 s (cs.take i ++ vs ++ cs.drop (i + vs.length))
 | [], i, h, cs, H, _ => ⟨Fr.refl _ _, by simpa using H⟩
 | v :: vs, i, h, cs, H, hl => by
   simp only [List.length_cons] at hl
   simp only [List.zipIdx_cons, List.foldl_cons]
   have hc := H.len
   have hi' : ((i : Nat) : Int) < (s.n : Int) := by omega
   have h0' : (0 : Int) ≤ ((i : Nat) : Int) := by omega
   obtain ⟨_, a2, a3⟩ := H.store1 h0' hi' v
   have ea : s.at (i : Int) 1 = (⟨g, o, none⟩ : Addr).add i := by rw [at_one ha]; rfl
   rw [ea] at a2 a3
   rw [show ((i : Nat) : Int).toNat = i from rfl] at a2
   obtain ⟨b1, b2⟩ := Ow.puts ha vs (i + 1) a2 (by omega)
   refine ⟨a3.trans b1, ?_⟩
   have eq1 : (cs.set i v).take (i + 1) ++ vs ++ (cs.set i v).drop (i + 1 + vs.length) = cs.take i ++ (v :: vs) ++ cs.drop (i + (v :: vs).length) := by
     have e1 : (cs.set i v).take (i + 1) = cs.take i ++ [v] := by
       rw [List.take_succ_eq_append_getElem (by simp; omega), List.take_set_of_le (Nat.le_refl _)]
       simp
     have e2 : (cs.set i v).drop (i + 1 + vs.length) = cs.drop (i + (v :: vs).length) := by
       rw [List.drop_set_of_lt (by omega)]
       congr 1
       simp; omega
     rw [e1, e2]
     simp
   rw [← eq1]
   exact b2
theorem k_Delete {h : Heap} {F : Nat -> Prop} {s : Sl} {xs : List Int} (O : OwI h F s xs) {i : Nat} (hi : i < xs.length) (K : KQ) (HK : ∀ t h', OwI h' F t (xs.eraseIdx i) -> Fr s.own h h' -> (∀ k, t.own k -> s.own k) -> K t.v h') : callM Tryz.prog 150 #[s.v, VI i, VI (i + 1 : Nat)] h K := by
 have sn : s.n = xs.length := by have := O.len; simpa using this.symm
 rcases O.out with ⟨_, hv⟩ | ⟨g, o, cur, ha, hF, hg, h1, h2, h3, h4⟩
 · rw [List.map_eq_nil_iff] at hv
   rw [hv] at hi
   simp at hi
 have hsv : s.v = .slice (some ⟨g, o, none⟩) xs.length s.c := by unfold Sl.v; rw [ha, ← sn]
 refine ⟨fun w hw => .inr ⟨150, _, w, Go.Proofs.enters_of Tryz.func150 (by kernel_rfl) rfl _ _, rfl, ?_⟩⟩
 subst hw
 rw [hsv]
 refine (Tryz.slices_Delete_int_cells g o xs.length s.c i (i + 1) xs w (Nat.le_refl _) (by omega) (by have := h2; simp only [maxLen] at this; omega) (by omega) (by omega) (fun j hj => ?_) (fun j hj => ?_)).mono ?_
 · have := Ow.at_cell O (i := j) (by simpa using hj)
   rw [at_one ha] at this
   rw [cell_eq, ← add_mk, getD_getI hj]
   simpa using this
 · rw [frozen_eq]
   exact hfrz_row hg
 · rintro e w' ⟨rfl, q, rfl⟩
   rw [List.take_of_length_le (Nat.le_refl _), show i + 1 - i = 1 by omega]
   obtain ⟨a1, a2⟩ := setCells_heap g ((xs.take i ++ xs.drop (i + 1) ++ List.replicate 1 0).map (Value.int .i64)) 0 o (w.drewN q)
   rw [Nat.add_zero] at a1 a2
   have ell : (xs.take i ++ xs.drop (i + 1) ++ List.replicate 1 (0 : Int)).length = xs.length := by simp; omega
   obtain ⟨b1, b2⟩ := Ow.puts ha ((xs.take i ++ xs.drop (i + 1) ++ List.replicate 1 (0 : Int)).map (Value.int .i64)) 0 O (by rw [List.length_map, ell]; omega)
   refine ⟨_, rfl, Same.trans (b := w.drewN q) ⟨rfl, rfl, rfl⟩ a2, ?_⟩
   rw [a1]
   have b3 := Ow.cut b2 (l := 0) (m := xs.length - 1) (by omega) (by omega)
   have et : s.cut 1 0 (xs.length - 1) s.c = ⟨some ⟨g, o, none⟩, xs.length - 1, s.c⟩ := by
     unfold Sl.cut
     rw [ha, if_neg (by omega)]
     rfl
   rw [et] at b3
   refine HK ⟨some ⟨g, o, none⟩, xs.length - 1, s.c⟩ _ ?_ b1 fun k hk => by unfold Sl.own at *; rw [ha]; exact hk
   have ex : (((List.take 0 (xs.map VI) ++ (xs.take i ++ xs.drop (i + 1) ++ List.replicate 1 (0 : Int)).map (Value.int .i64) ++ List.drop (0 + ((xs.take i ++ xs.drop (i + 1) ++ List.replicate 1 (0 : Int)).map (Value.int .i64)).length) (xs.map VI)).drop (0 * 1)).take ((xs.length - 1 - 0) * 1)) = (xs.eraseIdx i).map VI := by
     rw [List.length_map, ell, List.drop_of_length_le (l := xs.map VI) (by simp), List.append_nil, List.take_zero, List.nil_append, Nat.zero_mul, List.drop_zero, List.map_append, List.take_append_of_le_length (by simp; omega), List.take_of_length_le (by simp; omega), List.eraseIdx_eq_take_drop_succ]
   rw [ex] at b3
   exact b3
def matL (rows : List (List Int)) : Mat := fun i j => (rows.getD i []).getD j 0
theorem matL_get {rows : List (List Int)} {i j : Nat} (h1 : i < rows.length) (h2 : j < rows[i].length) : matL rows i j = (rows[i])[j] := by unfold matL; rw [getD_get h1, getD_getI h2]
theorem matL_set {rows : List (List Int)} {i j : Nat} {v : Int} (h1 : i < rows.length) (h2 : j < rows[i].length) (a b : Nat) : matL (rows.set i (rows[i].set j v)) a b = if a = i /\ b = j then v else matL rows a b := by
 unfold matL
 rw [List.getD_eq_getElem?_getD (l := rows.set i _), List.getElem?_set]
 by_cases ha : i = a
 · subst ha
   rw [if_pos rfl, if_pos h1, Option.getD_some, getD_get h1, List.getD_eq_getElem?_getD, List.getElem?_set]
   by_cases hb : j = b
   · subst hb; rw [if_pos rfl, if_pos h2, if_pos ⟨rfl, rfl⟩]; rfl
   · rw [if_neg hb, if_neg fun h => hb h.2.symm, List.getD_eq_getElem?_getD]
 · rw [if_neg ha, if_neg fun h => ha h.1.symm]
   simp [List.getD_eq_getElem?_getD]
structure Sq (n : Nat) (rows : List (List Int)) : Prop where
 len : rows.length = n
 row : ∀ i (h : i < rows.length), rows[i].length = n
theorem Sq.set {n : Nat} {rows : List (List Int)} (H : Sq n rows) {i : Nat} (hi : i < rows.length) (l : List Int) (hl : l.length = n) : Sq n (rows.set i l) := ⟨by rw [List.length_set]; exact H.len, fun a ha => by
 rw [List.getElem_set]
 split
 · exact hl
 · exact H.row a (by rw [List.length_set] at ha; exact ha)⟩
def swL (rows : List (List Int)) (i j : Nat) : List (List Int) := (rows.set i (rows.getD j [])).set j (rows.getD i [])
theorem swL_get {rows : List (List Int)} {i j : Nat} (hi : i < rows.length) (hj : j < rows.length) (a : Nat) : (swL rows i j).getD a [] = rows.getD (swA i j a) [] := by
 unfold swL swA
 rw [List.getD_eq_getElem?_getD, List.getElem?_set, List.length_set, List.getElem?_set]
 by_cases h1 : a = i
 · subst h1
   rw [if_pos rfl]
   by_cases h2 : j = a
   · subst h2; rw [if_pos rfl, if_pos hj]; simp
   · rw [if_neg h2, if_pos rfl, if_pos hi]; rfl
 · rw [if_neg h1]
   by_cases h2 : a = j
   · subst h2; rw [if_pos rfl, if_pos hj, if_pos rfl]; rfl
   · rw [if_neg h2, if_neg fun e => h2 e.symm, if_neg fun e => h1 e.symm, List.getD_eq_getElem?_getD]
theorem swL_mat {rows : List (List Int)} {i j : Nat} (hi : i < rows.length) (hj : j < rows.length) : matL (swL rows i j) = fun a => matL rows (swA i j a) := by
 funext a b
 unfold matL
 rw [swL_get hi hj]
theorem swL_sq {n : Nat} {rows : List (List Int)} (H : Sq n rows) {i j : Nat} (hi : i < rows.length) (hj : j < rows.length) : Sq n (swL rows i j) := by
 unfold swL
 refine (H.set hi _ ?_).set (by rw [List.length_set]; exact hj) _ ?_
 · rw [getD_get hj]; exact H.row j hj
 · rw [getD_get hi]; exact H.row i hi
theorem OwR.swap {h : Heap} {F : Nat -> Prop} {eo ei : TypeId} {s : Sl} {xss : List (List Int)} (H : OwR h F eo ei s xss) {i j : Int} (i0 : 0 ≤ i) (i1 : i < (xss.length : Int)) (j0 : 0 ≤ j) (j1 : j < (xss.length : Int)) (hne : i ≠ j) :
   ∃ si sj : Sl, hcell h (s.at i 1) = some si.v /\ hcell h (s.at j 1) = some sj.v /\ InB s i /\ InB s j /\ Writable h (s.at i 1) /\ Writable (hset h (s.at i 1) sj.v) (s.at j 1) ∧
     OwR (hset (hset h (s.at i 1) sj.v) (s.at j 1) si.v) F eo ei s (swL xss i.toNat j.toNat) /\ Fr s.own h (hset (hset h (s.at i 1) sj.v) (s.at j 1) si.v) /\ Fr s.own h (hset h (s.at i 1) sj.v) := by
 have hlen := H.len
 obtain ⟨ss, e1, h2, h3, h4, h5⟩ := H.out
 have hi : i.toNat < ss.length := by omega
 have hj : j.toNat < ss.length := by omega
 have ci := h2.at_cell (i := i.toNat) (by simpa using hi)
 have cj := h2.at_cell (i := j.toNat) (by simpa using hj)
 rw [show ((i.toNat : Nat) : Int) = i by omega, List.getElem_map] at ci
 rw [show ((j.toNat : Nat) : Int) = j by omega, List.getElem_map] at cj
 obtain ⟨w1, o1, f1⟩ := h2.store1 (i := i) i0 (by omega) ss[j.toNat].v
 obtain ⟨w2, o2, f2⟩ := o1.store1 (i := j) j0 (by omega) ss[i.toNat].v
 refine ⟨ss[i.toNat], ss[j.toNat], ci, cj, h2.inb i0 (by omega), h2.inb j0 (by omega), w1, w2, ?_, f1.trans f2, f1⟩
 have f := f1.trans f2
 have es : ((ss.map Sl.v).set i.toNat ss[j.toNat].v).set j.toNat ss[i.toNat].v = ((ss.set i.toNat ss[j.toNat]).set j.toNat ss[i.toNat]).map Sl.v := by rw [List.map_set, List.map_set]
 rw [es] at o2
 have eg : ∀ a (ha : a < ((ss.set i.toNat ss[j.toNat]).set j.toNat ss[i.toNat]).length), ∃ hb : swA i.toNat j.toNat a < ss.length, ((ss.set i.toNat ss[j.toNat]).set j.toNat ss[i.toNat])[a] = ss[swA i.toNat j.toNat a] := fun a ha => by
   rw [List.length_set, List.length_set] at ha
   have hb : swA i.toNat j.toNat a < ss.length := by unfold swA; split <;> (try split) <;> omega
   refine ⟨hb, ?_⟩
   rw [List.getElem_set]
   by_cases h1 : j.toNat = a
   · rw [if_pos h1]
     congr 1
     unfold swA
     rw [if_neg (by omega), if_pos h1.symm]
   · rw [if_neg h1, List.getElem_set]
     by_cases h2 : i.toNat = a
     · rw [if_pos h2]
       congr 1
       unfold swA
       rw [if_pos h2.symm]
     · rw [if_neg h2]
       congr 1
       unfold swA
       rw [if_neg fun e => h2 e.symm, if_neg fun e => h1 e.symm]
 have inj : ∀ a b, a ≠ b -> swA i.toNat j.toNat a ≠ swA i.toNat j.toNat b := fun a b hab => by
   unfold swA
   by_cases h1 : a = i.toNat <;> by_cases h2 : a = j.toNat <;> by_cases h3 : b = i.toNat <;> by_cases h4 : b = j.toNat <;> simp only [h1, h2, h3, h4, if_true, if_false] <;> (repeat' split) <;> omega
 refine ⟨(ss.set i.toNat ss[j.toNat]).set j.toNat ss[i.toNat], ?_, o2, fun a ha hb => ?_, fun a b ha hb hab k => ?_, fun a ha k hk => ?_⟩
 · unfold swL
   simp only [List.length_set]
   exact e1
 · obtain ⟨hc, e⟩ := eg a ha
   rw [e]
   have ex : (swL xss i.toNat j.toNat)[a] = xss[swA i.toNat j.toNat a]'(by omega) := by
     have := swL_get (rows := xss) (i := i.toNat) (j := j.toNat) (by omega) (by omega) a
     rw [getD_get hb, getD_get (by omega)] at this
     exact this
   rw [ex]
   exact (h3 _ hc (by omega)).fr f fun k hk hs => h5 _ hc k hs hk
 · obtain ⟨hc, e⟩ := eg a ha
   obtain ⟨hd, e'⟩ := eg b hb
   rw [e, e']
   exact h4 _ _ hc hd (inj a b hab) k
 · obtain ⟨hc, e⟩ := eg a ha
   rw [e]
   exact h5 _ hc k hk
theorem abs_le {x : Int} {b : Nat} (h : x.natAbs ≤ b) : -(b : Int) ≤ x /\ x ≤ b := by omega
theorem abs_mul {x y : Int} {b : Nat} (h : x.natAbs ≤ b) (h' : y.natAbs ≤ b) : (x * y).natAbs ≤ b * b := by rw [Int.natAbs_mul]; exact Nat.mul_le_mul h h'
theorem dbN6 : dbN 6 = 720000000 := rfl
theorem dbN7 : dbN 7 = 50400000000 := rfl
def stpB (R : Mat) (k : Nat) (last : Int) (i j : Nat) : Int := (R i j * R k k - R i k * R k j).tdiv last
theorem stp_num {n k : Nat} {last : Int} {O R : Mat} (H : Bar n k last O fun i j => R (k + i) (k + j)) (hO : Small n O) (hn : n ≤ 7) (hl : last ≠ 0) {i j : Nat} (hi : k < i) (hi' : i < n) (hj : k < j) (hj' : j < n) :
   w64 ((w64 (w64 (R i j * R k k) - w64 (R i k * R k j))).tdiv last) = stpB R k last i j := by
 have b : ∀ a b, a < n -> k ≤ a -> b < n -> k ≤ b -> (R a b).natAbs ≤ 720000000 := fun a b h1 h2 h3 h4 => by
   have := H.bound hO (i := a - k) (j := b - k) (by omega) (by omega)
   (try simp only at this)
   rw [show k + (a - k) = a by omega, show k + (b - k) = b by omega] at this
   exact Nat.le_trans this (Nat.le_trans (dbN_le (show k + 1 ≤ 6 by omega)) (by rw [dbN6]; exact Nat.le_refl _))
 have b1 := abs_le (abs_mul (b i j hi' (by omega) hj' (by omega)) (b k k (by omega) (by omega) (by omega) (by omega)))
 have b2 := abs_le (abs_mul (b i k hi' (by omega) (by omega) (by omega)) (b k j (by omega) (by omega) hj' (by omega)))
 rw [w64_eq (R i j * R k k) (by omega) (by omega), w64_eq (R i k * R k j) (by omega) (by omega), w64_eq (R i j * R k k - R i k * R k j) (by omega) (by omega)]
 obtain ⟨q, hq⟩ := H.exact (i := i - k - 1) (j := j - k - 1) (by omega) (by omega)
 have eq : R i j * R k k - R i k * R k j = last * q := by
   rw [← hq]
   unfold chio
   (try simp only)
   rw [show k + (i - k - 1 + 1) = i by omega, show k + (j - k - 1 + 1) = j by omega, show k + 0 = k by omega, Int.mul_comm (R k k)]
 unfold stpB
 have hq2 : q.natAbs ≤ (last * q).natAbs := by
   rw [Int.natAbs_mul]
   exact Nat.le_mul_of_pos_left _ (by omega)
 rw [tdiv_of eq hl]
 rw [← eq] at hq2
 exact w64_eq _ (by omega) (by omega)
theorem stp_next {n k : Nat} {last : Int} {O R R' : Mat} (H : Bar n k last O fun i j => R (k + i) (k + j)) (hl : last ≠ 0) (hk : R k k ≠ 0) (hR : ∀ i j, k < i -> i < n -> k < j -> j < n -> R' i j = stpB R k last i j) : Bar n (k + 1) (R k k) O fun i j => R' (k + 1 + i) (k + 1 + j) := by
 have := Bar.step (A' := fun i j => R' (k + 1 + i) (k + 1 + j)) H hl hk fun i j hi hj => by
   (try simp only)
   rw [hR _ _ (by omega) (by omega) (by omega) (by omega)]
   unfold stpB chio
   (try simp only)
   rw [show k + (i + 1) = k + 1 + i by omega, show k + (j + 1) = k + 1 + j by omega, show k + 0 = k by omega, Int.mul_comm (R k k)]
 exact this
def PM (s : Int) : Prop := s = 1 ∨ s = -1
theorem PM.neg_eq {s : Int} (h : PM s) : w64 (0 - s) = -s := by rcases h with rfl | rfl <;> rfl
theorem PM.neg {s : Int} (h : PM s) : PM (w64 (0 - s)) := by rcases h with rfl | rfl; exact .inr rfl; exact .inl rfl
theorem dt_cell {F : Nat -> Prop} {h12 : Heap} {a : Sl} {rt : List (List Int)} {n : Nat} {k i j last : Int} {R O : Mat} (o12 : OwX h12 F a rt) (Q12 : Sq n rt) (S : Small n O) (hn : n ≤ 7) (hl : last ≠ 0) (B : Bar n k.toNat last O fun i j => R (k.toNat + i) (k.toNat + j)) (k0 : 0 ≤ k) (ki : k < i) (hi : i < (n : Int)) (kj : k < j) (hj : j < (n : Int))
   (hrt : ∀ i' j', i' < n -> j' < n -> matL rt i' j' = if k.toNat < i' /\ k.toNat < j' /\ (i' < i.toNat ∨ i' = i.toNat /\ j' < j.toNat) then stpB R k.toNat last i' j' else R i' j') (C : Heap -> Prop)
   (HC : ∀ h13 rs, OwX h13 F a rs -> Sq n rs -> (∀ i' j', i' < n -> j' < n -> matL rs i' j' = if k.toNat < i' /\ k.toNat < j' /\ (i' < i.toNat ∨ i' = i.toNat /\ j' < j.toNat + 1) then stpB R k.toNat last i' j' else R i' j') -> Fr F h12 h13 -> C h13) :
   InB a i /\ ∃ t87 : Sl, hcell h12 (Sl.at a i 1) = some t87.v /\ InB a i /\ ∃ t92 : Sl, hcell h12 (Sl.at a i 1) = some t92.v /\ InB t92 j /\ ∃ t95 : Int, hcell h12 (Sl.at t92 j 1) = some (VI t95) /\ InB a k /\ ∃ t99 : Sl, hcell h12 (Sl.at a k 1) = some t99.v /\ InB t99 k /\ ∃ t102 : Int, hcell h12 (Sl.at t99 k 1) = some (VI t102) /\ InB a i /\ ∃ t107 : Sl, hcell h12 (Sl.at a i 1) = some t107.v /\ InB t107 k /\ ∃ t110 : Int, hcell h12 (Sl.at t107 k 1) = some (VI t110) /\ InB a k /\ ∃ t114 : Sl, hcell h12 (Sl.at a k 1) = some t114.v /\ InB t114 j /\ ∃ t117 : Int, hcell h12 (Sl.at t114 j 1) = some (VI t117) /\ last ≠ 0 ∧
     InB t87 j /\ Writable h12 (Sl.at t87 j 1) /\ Vars (hset h12 (Sl.at t87 j 1) (VI (w64 (Int.tdiv (w64 ((w64 (t95 * t102)) - (w64 (t110 * t117)))) last)))) [] /\ ∀ h13 : Heap, h13 = hset h12 (Sl.at t87 j 1) (VI (w64 (Int.tdiv (w64 ((w64 (t95 * t102)) - (w64 (t110 * t117)))) last))) -> Vars h13 [] -> C h13 := by
 have ln12 := Q12.len
 have R12 := OwR.rd o12
 have i0 : 0 ≤ i := by omega
 have j0 : 0 ≤ j := by omega
 have ir : i < (rt.length : Int) := by omega
 have kr : k < (rt.length : Int) := by omega
 obtain ⟨si, ci, oi, upd⟩ := OwR.inner o12 i0 ir
 have hi1 : i.toNat < rt.length := by omega
 have hk1 : k.toNat < rt.length := by omega
 have hi2 : i.toNat < n := by omega
 have hk2 : k.toNat < n := by omega
 have hj2 : j.toNat < n := by omega
 have lri := Q12.row i.toNat hi1
 have lrk := Q12.row k.toNat hk1
 have ri : RdI F h12 si (rt[i.toNat]'hi1) := oi.rdF
 obtain ⟨sk, ck, rk⟩ := R12.get k0 kr
 have ij1 : j.toNat < (rt[i.toNat]'hi1).length := by omega
 have ik1 : k.toNat < (rt[i.toNat]'hi1).length := by omega
 have kj1 : j.toNat < (rt[k.toNat]'hk1).length := by omega
 have kk1 : k.toNat < (rt[k.toNat]'hk1).length := by omega
 have v1 : (rt[i.toNat]'hi1)[j.toNat]'ij1 = R i.toNat j.toNat := by rw [← matL_get hi1 ij1, hrt _ _ hi2 hj2, if_neg (by omega)]
 have v2 : (rt[k.toNat]'hk1)[k.toNat]'kk1 = R k.toNat k.toNat := by rw [← matL_get hk1 kk1, hrt _ _ hk2 hk2, if_neg (by omega)]
 have v3 : (rt[i.toNat]'hi1)[k.toNat]'ik1 = R i.toNat k.toNat := by rw [← matL_get hi1 ik1, hrt _ _ hi2 hk2, if_neg (by omega)]
 have v4 : (rt[k.toNat]'hk1)[j.toNat]'kj1 = R k.toNat j.toNat := by rw [← matL_get hk1 kj1, hrt _ _ hk2 hj2, if_neg (by omega)]
 have rin := RdI.len ri
 have rkn := RdI.len rk
 have b1 : j < ((rt[i.toNat]'hi1).length : Int) := by omega
 have b2 : k < ((rt[i.toNat]'hi1).length : Int) := by omega
 have b3 : j < ((rt[k.toNat]'hk1).length : Int) := by omega
 have b4 : k < ((rt[k.toNat]'hk1).length : Int) := by omega
 obtain ⟨wr, os, fs⟩ := Ow.store1 oi j0 (show j < (si.n : Int) by omega) (VI (stpB R k.toNat last i.toNat j.toNat))
 have es := stp_num B S hn hl (i := i.toNat) (j := j.toNat) (by omega) hi2 (by omega) hj2
 refine ⟨R12.inb i0 ir, si, ci, R12.inb i0 ir, si, ci, ri.inb j0 b1, _, ri.get j0 b1, R12.inb k0 kr, sk, ck, rk.inb k0 b4, _, rk.get k0 b4, R12.inb i0 ir, si, ci, ri.inb k0 b2, _, ri.get k0 b2, R12.inb k0 kr, sk, ck, rk.inb j0 b3, _, rk.get j0 b3, hl, ri.inb j0 b1, wr, .nil, ?_⟩
 simp only [v1, v2, v3, v4, es]
 rintro h13 rfl _
 have os' : OwI (hset h12 (si.at j 1) (VI (stpB R k.toNat last i.toNat j.toNat))) F si ((rt[i.toNat]'hi1).set j.toNat (stpB R k.toNat last i.toNat j.toNat)) := by
   show Ow _ _ _ _ _ _
   rw [List.map_set]
   exact os
 refine HC _ _ (upd _ _ fs os') (Q12.set hi1 _ (by rw [List.length_set]; exact lri)) (fun i' j' h1 h2 => ?_) (fs.mono fun q _ hq => (Ow.foot oi hq).1)
 rw [matL_set hi1 ij1, hrt i' j' h1 h2]
 by_cases hc : i' = i.toNat /\ j' = j.toNat
 · rw [if_pos hc, hc.1, hc.2, if_pos (by omega)]
 · rw [if_neg hc]
   by_cases hd : k.toNat < i' /\ k.toNat < j' /\ (i' < i.toNat ∨ i' = i.toNat /\ j' < j.toNat)
   · rw [if_pos hd, if_pos (by omega)]
   · rw [if_neg hd, if_neg (by omega)]
theorem dt_loop {F : Nat -> Prop} {h10 : Heap} {s a : Sl} {rows : List (List Int)} {n : Nat} {k last : Int} {O : Mat} (o10 : OwX h10 F a rows) (Q10 : Sq n rows) (S : Small n O) (hn : n ≤ 7) (hl : last ≠ 0) (B : Bar n k.toNat last O fun i j => matL rows (k.toNat + i) (k.toNat + j)) (k0 : 0 ≤ k) (hk : k < (n : Int)) (sn : s.n = n) (C : Int -> Heap -> Prop)
   (HC : ∀ h11 rs, OwX h11 F a rs -> Sq n rs -> (∀ i' j', i' < n -> j' < n -> matL rs i' j' = if k.toNat < i' /\ k.toNat < j' then stpB (matL rows) k.toNat last i' j' else matL rows i' j') -> Fr F h10 h11 -> C (matL rows k.toNat k.toNat) h11) :
   ∃ J_5 : Nat -> Int -> Heap -> Prop, (∃ n0 : Nat, J_5 n0 (k + 1) h10) /\ ∀ (n_4 : Nat) (i : Int) (h11 : Heap), J_5 n_4 i h11 -> Vars h11 [] →
     ((decide (i < (s.n : Int))) = true -> ∃ J_6 : Nat -> Int -> Heap -> Prop, (∃ n0 : Nat, J_6 n0 (k + 1) h11) /\ ∀ (n_5 : Nat) (j : Int) (h12 : Heap), J_6 n_5 j h12 -> Vars h12 [] →
       ((decide (j < (s.n : Int))) = true -> InB a i /\ ∃ t87 : Sl, hcell h12 (Sl.at a i 1) = some t87.v /\ InB a i /\ ∃ t92 : Sl, hcell h12 (Sl.at a i 1) = some t92.v /\ InB t92 j /\ ∃ t95 : Int, hcell h12 (Sl.at t92 j 1) = some (VI t95) /\ InB a k /\ ∃ t99 : Sl, hcell h12 (Sl.at a k 1) = some t99.v /\ InB t99 k /\ ∃ t102 : Int, hcell h12 (Sl.at t99 k 1) = some (VI t102) /\ InB a i /\ ∃ t107 : Sl, hcell h12 (Sl.at a i 1) = some t107.v /\ InB t107 k /\ ∃ t110 : Int, hcell h12 (Sl.at t107 k 1) = some (VI t110) /\ InB a k /\ ∃ t114 : Sl, hcell h12 (Sl.at a k 1) = some t114.v /\ InB t114 j /\ ∃ t117 : Int, hcell h12 (Sl.at t114 j 1) = some (VI t117) /\ last ≠ 0 ∧
         InB t87 j /\ Writable h12 (Sl.at t87 j 1) /\ Vars (hset h12 (Sl.at t87 j 1) (VI (w64 (Int.tdiv (w64 ((w64 (t95 * t102)) - (w64 (t110 * t117)))) last)))) [] /\ ∀ h13 : Heap, h13 = hset h12 (Sl.at t87 j 1) (VI (w64 (Int.tdiv (w64 ((w64 (t95 * t102)) - (w64 (t110 * t117)))) last))) -> Vars h13 [] -> ∃ m : Nat, m < n_5 /\ J_6 m (w64 (j + 1)) h13) ∧
       ((decide (j < (s.n : Int))) = false -> ∃ m : Nat, m < n_4 /\ J_5 m (w64 (i + 1)) h12)) ∧
     ((decide (i < (s.n : Int))) = false -> InB a k /\ ∃ t126 : Sl, hcell h11 (Sl.at a k 1) = some t126.v /\ InB t126 k /\ ∃ t129 : Int, hcell h11 (Sl.at t126 k 1) = some (VI t129) /\ C t129 h11) := by
 refine ⟨fun m4 i h' => k < i /\ i + m4 = (n : Int) /\ (∃ rs, OwX h' F a rs /\ Sq n rs /\ ∀ i' j', i' < n -> j' < n -> matL rs i' j' = if k.toNat < i' /\ k.toNat < j' /\ i' < i.toNat then stpB (matL rows) k.toNat last i' j' else matL rows i' j') /\ Fr F h10 h', ⟨n - (k.toNat + 1), by omega, by omega, ⟨rows, o10, Q10, fun i' j' _ _ => by rw [if_neg (by omega)]⟩, Fr.refl _ _⟩, ?_⟩
 rintro m4 i h11 ⟨i0', i1', ⟨rs, o11, Q11, hrs⟩, f11⟩ hL11
 have ln11 := Q11.len
 refine ⟨fun e7 => ?_, fun e7 => ?_⟩
 · simp only [decide_eq_true_eq] at e7
   have hi7 : i < (n : Int) := by omega
   refine ⟨fun m5 j h' => k < j /\ j + m5 = (n : Int) /\ (∃ rs, OwX h' F a rs /\ Sq n rs /\ ∀ i' j', i' < n -> j' < n -> matL rs i' j' = if k.toNat < i' /\ k.toNat < j' /\ (i' < i.toNat ∨ i' = i.toNat /\ j' < j.toNat) then stpB (matL rows) k.toNat last i' j' else matL rows i' j') /\ Fr F h10 h', ⟨n - (k.toNat + 1), by omega, by omega, ⟨rs, o11, Q11, fun i' j' h1 h2 => ?_⟩, f11⟩, ?_⟩
   · rw [hrs i' j' h1 h2]
     by_cases hc : k.toNat < i' /\ k.toNat < j' /\ i' < i.toNat
     · rw [if_pos hc, if_pos ⟨hc.1, hc.2.1, .inl hc.2.2⟩]
     · rw [if_neg hc, if_neg (by omega)]
   rintro m5 j h12 ⟨j0', j1', ⟨rt, o12, Q12, hrt⟩, f12⟩ hL12
   refine ⟨fun e8 => ?_, fun e8 => ?_⟩
   · simp only [decide_eq_true_eq] at e8
     have hj8 : j < (n : Int) := by omega
     refine dt_cell o12 Q12 S hn hl B k0 i0' hi7 j0' hj8 hrt _ fun h13 rs' o13 Q13 hrs' f13 => ?_
     have jw : w64 (j + 1) = j + 1 := w64_eq _ (by omega) (by omega)
     rw [jw]
     exact ⟨m5 - 1, by omega, by omega, by omega, ⟨rs', o13, Q13, by rw [show (j + 1).toNat = j.toNat + 1 by omega]; exact hrs'⟩, f12.trans f13⟩
   · simp only [decide_eq_false_iff_not] at e8
     have hj8 : j = (n : Int) := by omega
     have iw : w64 (i + 1) = i + 1 := w64_eq _ (by omega) (by omega)
     rw [iw]
     refine ⟨m4 - 1, by omega, by omega, by omega, ⟨rt, o12, Q12, fun i' j' h1 h2 => ?_⟩, f12⟩
     rw [hrt i' j' h1 h2, show (i + 1).toNat = i.toNat + 1 by omega]
     by_cases hd : k.toNat < i' /\ k.toNat < j' /\ (i' < i.toNat ∨ i' = i.toNat /\ j' < j.toNat)
     · rw [if_pos hd, if_pos (by omega)]
     · rw [if_neg hd, if_neg (by omega)]
 · simp only [decide_eq_false_iff_not] at e7
   have hi7 : i = (n : Int) := by omega
   have R11 := OwR.rd o11
   have kr : k < (rs.length : Int) := by omega
   have hk1 : k.toNat < rs.length := by omega
   have hk2 : k.toNat < n := by omega
   obtain ⟨sk, ck, rk⟩ := R11.get k0 kr
   have lrk := Q11.row k.toNat hk1
   have kk1 : k.toNat < (rs[k.toNat]'hk1).length := by omega
   have v2 : (rs[k.toNat]'hk1)[k.toNat]'kk1 = matL rows k.toNat k.toNat := by rw [← matL_get hk1 kk1, hrs _ _ hk2 hk2, if_neg (by omega)]
   refine ⟨R11.inb k0 kr, sk, ck, rk.inb k0 (by omega), _, rk.get k0 (by omega), ?_⟩
   rw [v2]
   refine HC h11 rs o11 Q11 (fun i' j' h1 h2 => ?_) f11
   rw [hrs i' j' h1 h2]
   by_cases hd : k.toNat < i' /\ k.toNat < j' /\ i' < i.toNat
   · rw [if_pos hd, if_pos ⟨hd.1, hd.2.1⟩]
   · rw [if_neg hd, if_neg (by omega)]
set_option maxHeartbeats 4000000 in
theorem k_determinant {S : Nat -> Prop} {h : Heap} {s : Sl} {xss : List (List Int)} (M : RdR S h s xss) (Q : Sq xss.length xss) (hn : xss.length ≤ 7) (hb : Small xss.length (matL xss)) : Ret Tryz.prog 132 #[s.v] h (VI (det xss.length (matL xss))) := by
 intro K HK
 have sn := M.len
 refine v132 s h K ?_
 have no_ : ∀ {x : Heap}, Fr (fun k => h.size ≤ k) h x -> Fr No h x := fun f => f.mono fun k hk hk2 => absurd hk2 (by omega)
 refine eop_lit rIss (fun k => h.size ≤ k) (fun _ h => h) 0 (by omega) [] rfl rfl fun a0 h1 n1 c1 o1 f1 m1 _ => ⟨a0, rfl, .nil, ?_⟩
 have z1 := f1.size
 have o1' : OwX h1 (fun k => h.size ≤ k) a0 [] := ⟨[], rfl, o1, fun i h1 => by simp at h1, fun i j h1 => by simp at h1, fun i h1 => by simp at h1⟩
 refine ⟨fun m a i h' => 0 ≤ i /\ i + m = (xss.length : Int) /\ OwX h' (fun k => h.size ≤ k) a (xss.take i.toNat) /\ Fr (fun k => h.size ≤ k) h h', ⟨xss.length, Int.le_refl _, by omega, o1', f1.of_no⟩, ?_⟩
 rintro m a i h2 ⟨i0, i1, o2, f2⟩ hL2
 have M2 := M.no (no_ f2)
 refine ⟨fun e => ?_, fun e => ?_⟩
 · have hi := M.lt e
   obtain ⟨si, ci, ri⟩ := M2.get i0 hi
   have rl := Q.row i.toNat (by omega)
   refine ⟨M2.inb i0 hi, si, ci, k_Clone ri (by omega) _ fun t h3 o3 f3 => ⟨t, rfl, .nil, ?_⟩⟩
   have z3 := f3.size
   refine eop_putR (lo := h.size) (m := h2.size) (OwR.toIv o2 |>.no f3) (o3.mono fun k _ hk => hk.1) f2.size z3 .nil (fun p hp => by simp at hp) (by rw [List.length_take]; omega) _ fun t2 h5 o5 f5 V5 => ?_
   rw [M.succ i0 hi]
   refine ⟨m - 1, by omega, by omega, by omega, ?_, (f2.trans f3.of_no).trans f5⟩
   rw [take_snoc _ i0 hi]
   exact o5
 · have hi := M.ge e
   rw [List.take_of_length_le (by omega)] at o2
   generalize hN : xss.length = n at *
   refine ⟨fun m sg last k h' => 0 ≤ k /\ k + m = (n : Int) /\ (∃ rows O, OwX h' (fun q => h.size ≤ q) a rows /\ Sq n rows /\ Small n O /\ PM sg /\ sg * det n O = det n (matL xss) /\ last ≠ 0 /\ Bar n k.toNat last O (fun i j => matL rows (k.toNat + i) (k.toNat + j)) /\ (k = (n : Int) -> last = det n O)) /\ Fr (fun q => h.size ≤ q) h h', ⟨n, Int.le_refl _, by omega, ⟨xss, matL xss, o2, Q, hb, .inl rfl, by rw [Int.one_mul], by omega, ?_, ?_⟩, f2⟩, ?_⟩
   · have := Bar.start n (matL xss)
     simpa using this
   · intro h0
     rw [show n = 0 by omega]
     rfl
   rintro m2 sg last k h6 ⟨k0, k1, ⟨rows, O, o6, Q6, S6, hsg, hdet, hl, B6, hlast⟩, f6⟩ hL6
   have ln := Q6.len
   refine ⟨fun e2 => ?_, fun e2 => ?_⟩
   · have hk : k < (n : Int) := by have := M.lt e2; omega
     refine ⟨fun m3 p h' => h' = h6 /\ k ≤ p /\ p + m3 = (n : Int) /\ ∀ q : Nat, k.toNat ≤ q -> q < p.toNat -> matL rows q k.toNat = 0, ⟨(n - k.toNat), rfl, Int.le_refl _, by omega, fun q h1 h2 => by omega⟩, ?_⟩
     rintro m3 p h7 ⟨rfl, p0, p1, hz⟩ hL7
     have R7 := OwR.rd o6
     have none_ : p = (n : Int) -> K (VI 0) h7 := fun ep => by
       have := B6.none (by omega) hl fun i hi => by
         (try simp only)
         rw [Nat.add_zero]
         exact hz _ (by omega) (by omega)
       rw [this, Int.mul_zero] at hdet
       rw [← hdet] at HK
       exact HK h7 (no_ f6)
     refine ⟨fun e3 => ?_, fun e3 => ?_⟩
     · have hp : p < (n : Int) := by have := M.lt e3; omega
       obtain ⟨sp, cp, rp⟩ := R7.get (i := p) (by omega) (by omega)
       have lp := Q6.row p.toNat (by omega)
       have ep : matL rows p.toNat k.toNat = (rows[p.toNat]'(by omega))[k.toNat]'(by omega) := matL_get (by omega) (by omega)
       refine ⟨R7.inb (by omega) (by omega), sp, cp, rp.inb k0 (by omega), _, rp.get k0 (by omega), fun e4 => ?_, fun e4 => ⟨fun e5 => ?_, fun e5 => ?_⟩⟩
       · simp only [decide_eq_true_eq] at e4
         refine ⟨m3 - 1, by omega, rfl, ?_, ?_, ?_⟩
         · rw [w64_eq _ (by omega) (by omega)]; omega
         · rw [w64_eq _ (by omega) (by omega)]; omega
         · intro q h1 h2
           rw [w64_eq _ (by omega) (by omega)] at h2
           by_cases hq : q < p.toNat
           · exact hz q h1 hq
           · rw [show q = p.toNat by omega, ep]; exact e4
       · simp only [decide_eq_true_eq] at e5; omega
       · simp only [decide_eq_false_iff_not] at e4
         refine ⟨fun x h' => PM x /\ ∃ rows' O', OwX h' (fun q => h.size ≤ q) a rows' /\ Sq n rows' /\ Small n O' /\ x * det n O' = det n (matL xss) /\ Bar n k.toNat last O' (fun i j => matL rows' (k.toNat + i) (k.toNat + j)) /\ matL rows' k.toNat k.toNat ≠ 0 /\ Fr (fun q => h.size ≤ q) h h', ⟨fun e6 => ?_, fun e6 => ?_⟩, ?_⟩
         · simp only [Bool.not_eq_true', decide_eq_false_iff_not] at e6
           obtain ⟨sk, sp', w1, w2, w3, w4, w5, w6, w7, w8, w9⟩ := OwR.swap o6 (i := p) (j := k) (by omega) (by omega) k0 (by omega) e6
           refine ⟨w4, sp', w2, w3, sk, w1, w3, w5, .nil, ?_⟩
           rintro h8 rfl _
           refine ⟨w4, w6, .nil, ?_⟩
           rintro h9 rfl _
           refine ⟨?_, swL rows p.toNat k.toNat, fun i => O (swA k.toNat p.toNat i), w7, swL_sq Q6 (by omega) (by omega), fun i j hi hj => S6 _ _ (by unfold swA; split <;> (try split) <;> omega) hj, ?_, ?_, ?_, f6.trans (OwR.ownF o6 w8)⟩
           · exact hsg.neg
           · rw [det_swap O (by omega) (by omega) (by omega), ← hdet]
             rw [hsg.neg_eq, Int.neg_mul_neg]
           · have := B6.swap (p := p.toNat - k.toNat) (by omega)
             rw [show k.toNat + (p.toNat - k.toNat) = p.toNat by omega] at this
             rw [swL_mat (by omega) (by omega)]
             refine cast (congrArg (Bar n k.toNat last _) ?_) this
             funext i j
             (try simp only)
             congr 1
             unfold swA
             by_cases h1 : i = 0
             · rw [if_pos h1, if_neg (by omega), if_pos (by omega)]; omega
             · rw [if_neg h1]
               by_cases h2 : i = p.toNat - k.toNat
               · rw [if_pos h2, if_pos (by omega)]; rfl
               · rw [if_neg h2, if_neg (by omega), if_neg (by omega)]
           · rw [swL_mat (by omega) (by omega)]
             (try simp only)
             rw [show swA p.toNat k.toNat k.toNat = p.toNat by unfold swA; rw [if_neg (by omega), if_pos rfl], ep]
             exact e4
         · simp only [Bool.not_eq_false', decide_eq_true_eq] at e6
           refine ⟨hsg, rows, O, o6, Q6, S6, hdet, B6, ?_, f6⟩
           rw [← ep, e6] at e4
           exact e4
         · rintro x h10 ⟨hx, rows', O', o10, Q10, S10, hdet', B10, hkk, f10⟩ hL10
           have ln' := Q10.len
           have k1w : w64 (k + 1) = k + 1 := w64_eq _ (by omega) (by omega)
           rw [k1w]
           refine dt_loop o10 Q10 S10 hn hl B10 k0 hk sn (fun v h' => ∃ m : Nat, m < m2 /\ 0 ≤ k + 1 /\ k + 1 + m = (n : Int) /\ (∃ rows O, OwX h' (fun q => h.size ≤ q) a rows /\ Sq n rows /\ Small n O /\ PM x /\ x * det n O = det n (matL xss) /\ v ≠ 0 /\ Bar n (k + 1).toNat v O (fun i j => matL rows ((k + 1).toNat + i) ((k + 1).toNat + j)) /\ (k + 1 = (n : Int) -> v = det n O)) /\ Fr (fun q => h.size ≤ q) h h') fun h11 rs o11 Q11 hrs f11 => ?_
           refine ⟨m2 - 1, by omega, by omega, by omega, ⟨rs, O', o11, Q11, S10, hx, hdet', hkk, ?_, ?_⟩, f10.trans f11⟩
           · rw [show (k + 1).toNat = k.toNat + 1 by omega]
             exact stp_next B10 hl hkk fun i' j' h1 h2 h3 h4 => by rw [hrs i' j' h2 h4, if_pos ⟨h1, h3⟩]
           · intro hk1
             have := B10.last (by omega)
             (try simp only at this)
             rw [Nat.add_zero] at this
             exact this
     · have hp : p = (n : Int) := by have := M.ge e3; omega
       exact ⟨fun _ => none_ hp, fun e5 => by simp only [decide_eq_false_iff_not] at e5; omega⟩
   · have hk : k = (n : Int) := by have := M.ge e2; omega
     have hd : sg * last = det n (matL xss) := by rw [hlast hk]; exact hdet
     have D0 := abs_le (Nat.le_trans (det_bound hb) (Nat.le_trans (dbN_le hn) (show dbN 7 ≤ 50400000000 by rw [dbN7]; exact Nat.le_refl _)))
     rw [hd, w64_eq _ (by clear HK; omega) (by clear HK; omega)]
     exact HK h6 (no_ f6)
theorem occ_append (x : Int) : ∀ a b : List Int, occ x (a ++ b) = occ x a + occ x b
 | [], b => by simp [occ]
 | y :: a, b => by rw [List.cons_append, occ, occ, occ_append x a b]; omega
def rowV (n : Nat) (p : Nat) (len : Int) (l : List Int) : List Int := (List.range n).map fun q : Nat => (if q = p then len else 0) - occ q l
theorem rowV_len (n p : Nat) (len : Int) (l : List Int) : (rowV n p len l).length = n := by simp [rowV]
theorem rowV_get {n p : Nat} {len : Int} {l : List Int} {q : Nat} (h : q < (rowV n p len l).length) : (rowV n p len l)[q] = (if q = p then len else 0) - occ q l := by simp [rowV]
theorem rowV_start {n p : Nat} (hp : p < n) (len : Int) : rowV n p len [] = (List.replicate n (0 : Int)).set p len := by
 apply List.ext_getElem (by simp [rowV_len])
 intro q h1 h2
 rw [rowV_get h1, List.getElem_set, List.getElem_replicate, occ]
 by_cases e : q = p
 · rw [if_pos e, if_pos e.symm]; omega
 · rw [if_neg e, if_neg fun x => e x.symm]; omega
theorem rowV_step {n p : Nat} {len x : Int} {l : List Int} (h0 : 0 ≤ x) (h1 : x < (n : Int)) : rowV n p len (l ++ [x]) = (rowV n p len l).set x.toNat ((rowV n p len l).getD x.toNat 0 - 1) := by
 have hx : x.toNat < (rowV n p len l).length := by rw [rowV_len]; omega
 apply List.ext_getElem (by simp [rowV_len])
 intro q h2 h3
 have h4 : q < (rowV n p len l).length := by rw [rowV_len] at h2 ⊢; exact h2
 rw [rowV_get h2, List.getElem_set, occ_append]
 simp only [occ]
 by_cases e : x.toNat = q
 · rw [if_pos e, if_pos (show x = (q : Int) by omega), getD_getI hx, rowV_get hx, e]; omega
 · rw [if_neg e, if_neg (show ¬ x = (q : Int) by omega), rowV_get h4]; omega
theorem occ_bound (x : Int) : ∀ l : List Int, 0 ≤ occ x l /\ occ x l ≤ l.length
 | [] => by simp [occ]
 | y :: l => by
   have := occ_bound x l
   rw [occ, List.length_cons]
   split <;> omega
def lapRow (g : List (List Int)) (s : Int) (p : Nat) : List Int := (rowV g.length p (g.getD p []).length (g.getD p [])).eraseIdx s.toNat
def lapL (g : List (List Int)) (s : Int) : List (List Int) := ((List.range g.length).filter (notS s)).map (lapRow g s)
theorem erase_filter : ∀ (l : List Nat) (i : Nat) (h : i < l.length), l.Nodup -> l.eraseIdx i = l.filter fun x => !decide (x = l[i])
 | x :: l, 0, _, hd => by
   rw [List.nodup_cons] at hd
   rw [List.eraseIdx_zero, List.tail_cons, List.getElem_cons_zero, List.filter_cons_of_neg (by simp)]
   refine (List.filter_eq_self.2 fun a ha => ?_).symm
   have : a ≠ x := fun e => hd.1 (e ▸ ha)
   simpa using this
 | x :: l, i + 1, h, hd => by
   rw [List.nodup_cons] at hd
   have hi : i < l.length := by simpa using h
   have hx : x ≠ l[i] := fun e => hd.1 (e ▸ List.getElem_mem hi)
   rw [List.eraseIdx_cons_succ, List.getElem_cons_succ, List.filter_cons_of_pos (by simpa using hx), erase_filter l i hi hd.2]
theorem erase_range {n : Nat} {s : Int} (h0 : 0 ≤ s) (h1 : s < (n : Int)) : (List.range n).eraseIdx s.toNat = (List.range n).filter (notS s) := by
 rw [erase_filter _ _ (by rw [List.length_range]; omega) List.nodup_range]
 refine List.filter_congr fun x _ => ?_
 rw [List.getElem_range]
 unfold notS
 congr 1
 by_cases e : x = s.toNat
 · rw [decide_eq_true e, decide_eq_true (by omega)]
 · rw [decide_eq_false e, decide_eq_false (by omega)]
theorem map_erase {α β : Type} (f : α -> β) : ∀ (l : List α) (i : Nat), (l.map f).eraseIdx i = (l.eraseIdx i).map f
 | [], _ => by simp
 | x :: l, 0 => by simp
 | x :: l, i + 1 => by rw [List.map_cons, List.eraseIdx_cons_succ, List.eraseIdx_cons_succ, List.map_cons, map_erase f l i]
theorem lapRow_eq {g : List (List Int)} {s : Int} (h0 : 0 ≤ s) (h1 : s < (g.length : Int)) (p : Nat) : lapRow g s p = ((List.range g.length).filter (notS s)).map fun q : Nat => (if q = p then ((g.getD p []).length : Int) else 0) - occ q (g.getD p []) := by
 unfold lapRow rowV
 rw [map_erase, erase_range h0 h1]
theorem names_len {n : Nat} {s : Int} (h0 : 0 ≤ s) (h1 : s < (n : Int)) : ((List.range n).filter (notS s)).length = n - 1 := by
 rw [← erase_range h0 h1, List.length_eraseIdx, List.length_range, if_pos (by omega)]
theorem lap_sq {g : List (List Int)} {s : Int} (h0 : 0 ≤ s) (h1 : s < (g.length : Int)) : (lapL g s).length = g.length - 1 /\ Sq (g.length - 1) (lapL g s) := by
 have e : (lapL g s).length = g.length - 1 := by unfold lapL; rw [List.length_map, names_len h0 h1]
 refine ⟨e, e, fun i hi => ?_⟩
 unfold lapL at hi ⊢
 rw [List.getElem_map, lapRow_eq h0 h1, List.length_map, names_len h0 h1]
theorem lap_mat {g : List (List Int)} {s : Int} (h0 : 0 ≤ s) (h1 : s < (g.length : Int)) {i j : Nat} (hi : i < g.length - 1) (hj : j < g.length - 1) : matL (lapL g s) i j = lapM (tsOf g s) i j := by
 have hl := names_len (n := g.length) h0 h1
 have hi' : i < ((List.range g.length).filter (notS s)).length := by omega
 have hj' : j < ((List.range g.length).filter (notS s)).length := by omega
 have e1 : ∀ k (hk : k < ((List.range g.length).filter (notS s)).length), nmT (tsOf g s) k = ((((List.range g.length).filter (notS s))[k] : Nat) : Int) /\ exT (tsOf g s) k = g.getD ((List.range g.length).filter (notS s))[k] [] := fun k hk => by
   unfold nmT exT tsOf
   rw [List.getD_eq_getElem?_getD, List.getElem?_eq_getElem (by rw [List.length_map]; exact hk), List.getElem_map]
   exact ⟨rfl, rfl⟩
 have hr : i < (lapL g s).length := by rw [(lap_sq h0 h1).1]; exact hi
 have er : (lapL g s)[i] = lapRow g s ((List.range g.length).filter (notS s))[i] := by
   show (((List.range g.length).filter (notS s)).map (lapRow g s))[i]'_ = _
   exact List.getElem_map _
 unfold matL lapM
 rw [getD_get hr, er, lapRow_eq h0 h1, getD_getI (by rw [List.length_map]; exact hj'), List.getElem_map, (e1 i hi').2, (e1 j hj').1]
 congr 1
 by_cases e : i = j
 · subst e; rw [if_pos rfl, if_pos rfl]
 · rw [if_neg e, if_neg fun x => e ?_]
   have nd : ((List.range g.length).filter (notS s)).Nodup := List.Pairwise.filter _ List.nodup_range
   have hp := List.pairwise_iff_getElem.1 nd
   rcases Nat.lt_trichotomy i j with a | a | a
   · exact absurd x.symm (hp i j hi' hj' a)
   · exact a
   · exact absurd x (hp j i hj' hi' a)
theorem lap_small {g : List (List Int)} {s : Int} (hg : graphB g = true) (h0 : 0 ≤ s) (h1 : s < (g.length : Int)) : Small (g.length - 1) (matL (lapL g s)) := fun i j hi hj => by
 rw [lap_mat h0 h1 hi hj]
 unfold lapM
 have hb : (exT (tsOf g s) i).length ≤ 5 := by
   have hl := names_len (n := g.length) h0 h1
   unfold exT tsOf
   rw [List.getD_eq_getElem?_getD, List.getElem?_eq_getElem (by rw [List.length_map]; omega), List.getElem_map]
   have hm := List.getElem_mem (show i < ((List.range g.length).filter (notS s)).length by omega)
   rw [List.mem_filter, List.mem_range] at hm
   show (g.getD _ []).length ≤ 5
   rw [getD_get hm.1]
   exact (graph_mem hg (List.getElem_mem hm.1)).1
 have := occ_bound (nmT (tsOf g s) j) (exT (tsOf g s) i)
 split <;> omega
def treesN (g : List (List Int)) (s : Int) : Int := det (g.length - 1) (matL (lapL g s))
theorem treesN_eq {g : List (List Int)} {s : Int} (hg : graphB g = true) (h0 : 0 ≤ s) (h1 : s < (g.length : Int)) : treesN g s = ((treesL g s).length : Int) := by
 rw [trees_count hg h0 h1]
 exact det_congr fun i j hi hj => lap_mat h0 h1 hi hj
theorem k_laplace {S : Nat -> Prop} {h : Heap} {g : Sl} {xss : List (List Int)} (G : RdR S h g xss) (hg : graphB xss = true) {s : Int} (s0 : 0 ≤ s) (s1 : s < (xss.length : Int)) (K : KQ) (HK : ∀ t h', OwX h' (Iv h.size h'.size) t (lapL xss s) -> Fr No h h' -> K t.v h') : callM Tryz.prog 133 #[.agg #[g.v], VI s] h K := by
 refine v133 g s h K fun b1 h1 hb1 f1 hL1 => ?_
 have f1 := f1.in_nil
 have z1 := f1.size
 have l1 : b1 < h1.size := hL1.head.lt
 have gl := graph_len hg
 have gn := G.len
 have no_ : ∀ {x : Heap}, Fr (fun k => h.size ≤ k) h x -> Fr No h x := fun f => f.mono fun k hk hk2 => absurd hk2 (by omega)
 refine eop_lit rIss (fun k => h1.size ≤ k) (fun _ h => h) 0 (by omega) [] rfl rfl fun o h2 n2 c2 o2 f2 m2 _ => ⟨o, rfl, hL1.of_no f2, ?_⟩
 have z2 := f2.size
 have o2' : OwX h2 (fun k => h1.size ≤ k) o [] := ⟨[], rfl, o2, fun i h1 => by simp at h1, fun i j h1 => by simp at h1, fun i h1 => by simp at h1⟩
 refine ⟨fun m x p h' => 0 ≤ p /\ p + m = (xss.length : Int) /\ OwX h' (fun k => h1.size ≤ k) x (((List.range p.toNat).filter (notS s)).map (lapRow xss s)) /\ Fr (fun k => h.size ≤ k) h h' /\ h1.size ≤ h'.size, ⟨xss.length, Int.le_refl _, by omega, o2', f1.of_no.trans f2.of_no, by omega⟩, ?_⟩
 rintro m x p h3 ⟨p0, p1, o3, f3, z3⟩ hL3
 have g3 := no_ f3
 refine ⟨fun e => ?_, fun e => ?_⟩
 · have hp := G.lt e
   have G3 := G.no g3
   obtain ⟨sp, cp, rp⟩ := G3.get p0 hp
   have pl := rp.len
   have eg : xss.getD p.toNat [] = xss[p.toNat]'(by omega) := getD_get (by omega)
   have gm := graph_mem hg (List.getElem_mem (show p.toNat < xss.length by omega))
   rw [G.succ p0 hp]
   refine ⟨G3.inb p0 hp, sp, cp, fun e2 => ?_, fun e2 => ?_⟩
   · simp only [decide_eq_true_eq] at e2
     refine ⟨m - 1, by omega, by omega, by omega, ?_, f3, z3⟩
     rw [show (p + 1).toNat = p.toNat + 1 by omega, List.range_succ, List.filter_append, List.filter_cons_of_neg (notS_f (by omega)), List.filter_nil, List.append_nil]
     exact o3
   simp only [decide_eq_false_iff_not] at e2
   refine eop_make rIs (fun k => h3.size ≤ k) (fun _ h => h) .i64 .i64 g.n g.n (Nat.le_refl _) (by omega) fun t h4 n4 c4 o4 f4 m4 _ => ⟨t, rfl, hL3.of_no f4, ?_⟩
   have z4 := f4.size
   have o4 : OwI h4 (fun k => h3.size ≤ k) t (List.replicate xss.length 0) := by
     have e : (List.replicate g.n [VI 0]).flatten = (List.replicate xss.length (0 : Int)).map VI := by rw [gn]; simp [List.flatten_replicate_singleton]
     rw [e] at o4; exact o4
   refine int_set (L := [(b1, [g.v])]) (F := fun k => h3.size ≤ k) o4 p0 (by rw [List.length_replicate]; omega) (hL3.of_no f4) (fun q hq => by
     simp only [List.mem_cons, List.not_mem_nil, or_false] at hq
     subst hq; show ¬ h3.size ≤ b1; omega) _ fun h5 o5 f5 V5 => ?_
   rw [pl, ← rowV_start (by omega)] at o5
   have f35 := (f4.of_no (T := fun k => h3.size ≤ k)).trans f5
   refine ⟨fun m2 j h' => 0 ≤ j /\ j + m2 = ((xss[p.toNat]'(by omega)).length : Int) /\ OwI h' (fun k => h3.size ≤ k) t (rowV xss.length p.toNat (xss[p.toNat]'(by omega)).length ((xss[p.toNat]'(by omega)).take j.toNat)) /\ Fr (fun k => h3.size ≤ k) h3 h', ⟨(xss[p.toNat]'(by omega)).length, Int.le_refl _, by omega, by simpa using o5, f35⟩, ?_⟩
   rintro m2 j h6 ⟨j0, j1, o6, f6⟩ hL6
   have r6 := (rp.low.fr f6 fun k hk hk2 => by omega)
   refine ⟨fun e3 => ?_, fun e3 => ?_⟩
   · have hj := r6.lt e3
     have hv := gm.2 _ (List.getElem_mem (show j.toNat < (xss[p.toNat]'(by omega)).length by omega))
     have R6 := o6.rdF
     have rl := rowV_len xss.length p.toNat (xss[p.toNat]'(by omega)).length ((xss[p.toNat]'(by omega)).take j.toNat)
     have hvl : (xss[p.toNat]'(by omega))[j.toNat]'(by omega) < ((rowV xss.length p.toNat (xss[p.toNat]'(by omega)).length ((xss[p.toNat]'(by omega)).take j.toNat)).length : Int) := by rw [rl]; omega
     refine ⟨r6.inb j0 hj, _, r6.get j0 hj, RdI.inb R6 hv.1 hvl, _, RdI.get R6 hv.1 hvl, int_set (L := [(b1, [g.v])]) (F := fun k => h3.size ≤ k) o6 hv.1 hvl hL6 (fun q hq => by
       simp only [List.mem_cons, List.not_mem_nil, or_false] at hq
       subst hq; show ¬ h3.size ≤ b1; omega) _ fun h7 o7 f7 V7 => ?_⟩
     rw [RdI.succ r6 j0 hj]
     refine ⟨m2 - 1, by omega, by omega, by omega, ?_, f6.trans f7⟩
     rw [take_snoc _ j0 hj, rowV_step hv.1 hv.2, getD_getI (show ((xss[p.toNat]'(by omega))[j.toNat]'(by omega)).toNat < (rowV xss.length p.toNat (xss[p.toNat]'(by omega)).length ((xss[p.toNat]'(by omega)).take j.toNat)).length by omega)]
     have hb : w64 ((rowV xss.length p.toNat (xss[p.toNat]'(by omega)).length ((xss[p.toNat]'(by omega)).take j.toNat))[((xss[p.toNat]'(by omega))[j.toNat]'(by omega)).toNat]'(by omega) - 1) = (rowV xss.length p.toNat (xss[p.toNat]'(by omega)).length ((xss[p.toNat]'(by omega)).take j.toNat))[((xss[p.toNat]'(by omega))[j.toNat]'(by omega)).toNat]'(by omega) - 1 := by
       rw [rowV_get]
       have ob := occ_bound ((((xss[p.toNat]'(by omega))[j.toNat]'(by omega)).toNat : Nat) : Int) ((xss[p.toNat]'(by omega)).take j.toNat)
       rw [List.length_take] at ob
       have := gm.1
       exact w64_eq _ (by split <;> omega) (by split <;> omega)
     rw [hb] at o7
     exact o7
   · have hj := r6.ge e3
     rw [List.take_of_length_le (by omega)] at o6
     have sw : w64 (s + 1) = ((s.toNat + 1 : Nat) : Int) := by rw [w64_eq _ (by omega) (by omega)]; omega
     have ss : s = ((s.toNat : Nat) : Int) := by omega
     rw [sw]
     refine cast (congrArg (fun z : Int => callM Tryz.prog 150 #[t.v, VI z, VI (s.toNat + 1 : Nat)] h6 _) ss.symm) ?_
     refine k_Delete o6 (i := s.toNat) (by rw [rowV_len]; omega) _ fun t8 h8 o8 f8 m8 => ⟨t8, rfl, ?_, ?_⟩
     · exact hL6.fr f8 fun q hq hk => by
         simp only [List.mem_cons, List.not_mem_nil, or_false] at hq
         subst hq
         have := (Ow.foot o6 hk).1
         (try simp only at this)
         omega
     have f8' : Fr (fun k => h3.size ≤ k) h6 h8 := f8.mono fun k _ hk => (Ow.foot o6 hk).1
     have f38 := f6.trans f8'
     have z8 := f38.size
     have hL8 : Vars h8 [(b1, [g.v])] := hL6.fr f8' fun q hq hk => by
       simp only [List.mem_cons, List.not_mem_nil, or_false] at hq
       subst hq
       (try simp only at hk)
       omega
     refine eop_putR (lo := h1.size) (m := h3.size) (OwR.fr (OwR.toIv o3) f38 fun k hk hk2 hk3 => by have := hk2.2; omega) o8 z3 z8 hL8 (fun q hq => by
       simp only [List.mem_cons, List.not_mem_nil, or_false] at hq
       subst hq; exact l1) (by
         rw [List.length_map]
         have := List.length_filter_le (notS s) (List.range p.toNat)
         rw [List.length_range] at this
         omega) _ fun t2 h10 o10 f10 V10 => ?_
     refine ⟨m - 1, by omega, by omega, by omega, ?_, (f3.trans (f38.mono fun k _ hk => by omega)).trans (f10.mono fun k _ hk => by omega), by have := f10.size; omega⟩
     rw [show (p + 1).toNat = p.toNat + 1 by omega, List.range_succ, List.filter_append, List.filter_cons_of_pos (notS_t.2 (by omega)), List.filter_nil, List.map_append, List.map_cons, List.map_nil]
     have el : lapRow xss s p.toNat = (rowV xss.length p.toNat (xss[p.toNat]'(by omega)).length (xss[p.toNat]'(by omega))).eraseIdx s.toNat := by unfold lapRow; rw [eg]
     rw [el]
     exact o10
 · have hp := G.ge e
   have ep : p.toNat = xss.length := by omega
   rw [ep] at o3
   exact HK x h3 (o3.mono fun k hk hk2 => ⟨by omega, hk⟩) g3
def szR (g : List (List Int)) (s : Int) (p : Nat) : Nat := if (p : Int) = s ∨ (g.getD p []).length = 0 then 1 else (g.getD p []).length
theorem cand_sz (g : List (List Int)) (s : Int) (p : Nat) : cand g s p = rngI (szR g s p) := by
 unfold cand szR
 split
 · rfl
 · rfl
theorem allRot_sz (g : List (List Int)) (s : Int) : allRot g s = prodL (((List.range g.length).map (szR g s)).map rngI) := by
 unfold allRot
 rw [List.map_map]
 congr 1
 exact List.map_congr_left fun p _ => cand_sz g s p
theorem szR_pos (g : List (List Int)) (s : Int) : ∀ n, n ∈ (List.range g.length).map (szR g s) -> 1 ≤ n := fun n hn => by
 obtain ⟨p, _, rfl⟩ := List.mem_map.1 hn
 unfold szR
 split <;> omega
theorem rot_next {g : List (List Int)} {s : Int} {pre post : List (List Int)} {x : List Int} (h : allRot g s = pre ++ x :: post) : nextD ((List.range g.length).map (szR g s)) x = post.head? := by
 have := chain_all _ (szR_pos g s)
 rw [← allRot_sz, h] at this
 have h2 := Ch.at this
 cases post with
 | nil => exact h2
 | cons y l => exact h2
theorem rot_mem {g : List (List Int)} {s : Int} {x : List Int} (h : x ∈ allRot g s) : x.length = g.length /\ ∀ i (hi : i < x.length), 0 ≤ x[i] /\ x[i] < (szR g s i : Int) := by
 obtain ⟨e1, e2⟩ := (mem_prodL _ _).1 h
 rw [List.length_map, List.length_range] at e1
 refine ⟨e1, fun i hi => ?_⟩
 have := e2 i hi (by rw [List.length_map, List.length_range]; omega)
 rw [List.getElem_map, List.getElem_range, cand_sz] at this
 exact mem_rngI.1 this
def curR (x : List Int) (p : Nat) : List Int := x.take p ++ List.replicate (x.length - p) 0
theorem curR_len {x : List Int} {p : Nat} (h : p ≤ x.length) : (curR x p).length = x.length := by simp [curR]; omega
theorem curR_all (x : List Int) : curR x x.length = x := by simp [curR]
theorem curR_get {x : List Int} {p : Nat} (h : p < x.length) (h' : p < (curR x (p + 1)).length) : (curR x (p + 1))[p] = x[p] := by
 have e : (curR x (p + 1))[p]? = x[p]? := by
   unfold curR
   rw [List.getElem?_append_left (by rw [List.length_take]; omega), List.getElem?_take_of_lt (by omega)]
 rw [List.getElem?_eq_getElem h', List.getElem?_eq_getElem h] at e
 exact Option.some.inj e
theorem curR_set {x : List Int} {p : Nat} (h : p < x.length) (v : Int) : (curR x (p + 1)).set p v = x.take p ++ v :: List.replicate (x.length - (p + 1)) 0 := by
 unfold curR
 rw [List.take_succ_eq_append_getElem h, List.append_assoc, List.set_append_right _ _ (by rw [List.length_take]; omega), List.length_take, Nat.min_eq_left (by omega), Nat.sub_self]
 rfl
theorem curR_zero {x : List Int} {p : Nat} (h : p < x.length) : (curR x (p + 1)).set p 0 = curR x p := by
 rw [curR_set h]
 unfold curR
 rw [show x.length - p = (x.length - (p + 1)) + 1 by omega, List.replicate_succ]
theorem k_allRotors {S : Nat -> Prop} {h : Heap} {g : Sl} {xss : List (List Int)} (G : RdR S h g xss) (hg : graphB xss = true) (s : Int) (f : Value) (I : Nat -> Nat -> List (List Int) -> Heap -> Prop) (St : List (List Int) -> Prop)
   (hG : ∀ a b pre h', I a b pre h' -> RdR S h' g xss)
   (hI0 : ∀ h', Fr No h h' -> I h.size h'.size [] h') (hIf : ∀ a b pre h1 h2, I a b pre h1 -> Fr (Iv a b) h1 h2 -> a = h.size -> I a b pre h2)
   (hS : ∀ b pre x post t h1 (K : KQ), allRot xss s = pre ++ x :: post -> I h.size b pre h1 -> b ≤ h1.size -> RdI (Iv h.size b) h1 t x -> (∀ go h2, I h.size b (pre ++ [x]) h2 -> Fr (fun k => ¬ Iv h.size b k) h1 h2 -> (go = false -> St (pre ++ [x])) -> K (VB go) h2) -> callV Tryz.prog f [t.v] h1 K)
   (K : KQ) (HK : ∀ b pre post h', allRot xss s = pre ++ post -> (post = [] ∨ St pre) -> I h.size b pre h' -> K (.tuple #[]) h') : callM Tryz.prog 95 #[.agg #[g.v], VI s, f] h K := by
 refine v95 g s f h K fun b1 h1 hb1 f1 hL1 => ?_
 have f1 := f1.in_nil
 have z1 := f1.size
 have l1 : b1 < h1.size := hL1.head.lt
 have gl := graph_len hg
 have gn := G.len
 refine eop_make rIs (fun k => h1.size ≤ k) (fun _ h => h) .i64 .i64 g.n g.n (Nat.le_refl _) (by omega) fun t h2 n2 c2 o2 f2 m2 _ => ⟨t, rfl, hL1.of_no f2, ?_⟩
 have z2 := f2.size
 have tn : t.n = xss.length := by omega
 obtain ⟨tl, htl⟩ := prodL_head _ (szR_pos xss s)
 rw [← allRot_sz] at htl
 have zl : zerL ((List.range xss.length).map (szR xss s)) = List.replicate xss.length 0 := by
   unfold zerL
   rw [List.map_map]
   apply List.ext_getElem (by simp)
   intro i h1 h2
   simp
 have o2 : OwI h2 (Iv h1.size h2.size) t (zerL ((List.range xss.length).map (szR xss s))) := by
   have e : (List.replicate g.n [VI 0]).flatten = (List.replicate xss.length (0 : Int)).map VI := by rw [gn]; simp [List.flatten_replicate_singleton]
   rw [e] at o2
   rw [zl]
   exact o2.mono fun k hk hF => ⟨hF, (Ow.foot o2 hk).2⟩
 have oth : ∀ {q : Nat × List Value}, q ∈ [(b1, [g.v])] -> Iv h.size h2.size q.1 /\ ¬ Iv h1.size h2.size q.1 := fun hq => by
   simp only [List.mem_cons, List.not_mem_nil, or_false] at hq
   subst hq
   exact ⟨⟨hb1, by show b1 < _; omega⟩, fun hk => by have := hk.1; (try simp only at this); omega⟩
 have wide : ∀ {k}, Iv h1.size h2.size k -> Iv h.size h2.size k := fun hk => ⟨by have := hk.1; omega, hk.2⟩
 refine ⟨fun m h' => ∃ pre x post, allRot xss s = pre ++ x :: post /\ post.length = m /\ OwI h' (Iv h1.size h2.size) t x /\ I h.size h2.size pre h' /\ h2.size ≤ h'.size, ⟨tl.length, [], _, tl, htl, rfl, o2, hI0 _ (f1.no_trans f2), Nat.le_refl _⟩, ?_⟩
 rintro m h3 ⟨pre, x, post, eA, em, o3, I3, z3⟩ hL3
 have xm : x ∈ allRot xss s := by rw [eA]; simp
 obtain ⟨xl, xr⟩ := rot_mem xm
 have hnx := rot_next eA
 refine hS h2.size pre x post t h3 _ eA I3 z3 (o3.rdF.mono fun k hk => wide hk) fun go h4 I4 f4 hgo => ⟨go, rfl, hL3.fr f4 fun q hq hn => hn (oth hq).1, fun e => ?_, fun e => ?_⟩
 · simp only [Bool.not_eq_true'] at e
   exact HK h2.size (pre ++ [x]) post h4 (by rw [eA]; simp) (.inr (hgo e)) I4
 have z4 := f4.size
 have o4 : OwI h4 (Iv h1.size h2.size) t x := Ow.fr o3 f4 fun k hk hn => hn (wide (Ow.foot o3 hk).1)
 have w1 : w64 ((t.n : Int) - 1) = (xss.length : Int) - 1 := by rw [w64_eq _ (by omega) (by omega)]; omega
 rw [w1]
 refine ⟨fun m2 p h' => m2 = (p + 1).toNat /\ -1 ≤ p /\ p < (xss.length : Int) /\ OwI h' (Iv h1.size h2.size) t (curR x (p + 1).toNat) /\ (∀ i (hi : i < x.length), p < (i : Int) -> (szR xss s i : Int) ≤ x[i] + 1) /\ I h.size h2.size (pre ++ [x]) h' /\ h2.size ≤ h'.size, ⟨xss.length, by omega, by omega, by omega, by rw [show ((xss.length : Int) - 1 + 1).toNat = x.length by omega, curR_all]; exact o4, fun i hi hp => by omega, I4, by omega⟩, ?_⟩
 rintro m2 p h5 ⟨em2, p0, p1, o5, hmx, I5, z5⟩ hL5
 have cl : (curR x (p + 1).toNat).length = xss.length := by rw [curR_len (by omega), xl]
 have hoff : ∀ q, q ∈ [(b1, [g.v])] -> ¬ Iv h1.size h2.size q.1 := fun q hq => (oth hq).2
 refine ⟨fun e2 => ?_, fun e2 => ?_⟩
 · simp only [decide_eq_true_eq] at e2
   have pl : p < ((curR x (p + 1).toNat).length : Int) := by omega
   have pw : w64 (p - 1) = p - 1 := w64_eq _ (by omega) (by omega)
   have pn : p.toNat < x.length := by omega
   have e1 : (p + 1).toNat = p.toNat + 1 := by omega
   -- a digit that is the greatest becomes 0
   have zero : ∀ (n : Nat), (szR xss s p.toNat : Int) ≤ x[p.toNat] + 1 -> InB t p /\ Writable h5 (t.at p 1) /\ Vars (hset h5 (t.at p 1) (VI 0)) [(b1, [g.v])] /\ ∀ h8, h8 = hset h5 (t.at p 1) (VI 0) -> Vars h8 [(b1, [g.v])] -> ∃ m' : Nat, m' < m2 /\ (m' = (w64 (p - 1) + 1).toNat /\ -1 ≤ w64 (p - 1) /\ w64 (p - 1) < (xss.length : Int) /\ OwI h8 (Iv h1.size h2.size) t (curR x (w64 (p - 1) + 1).toNat) /\ (∀ i (hi : i < x.length), w64 (p - 1) < (i : Int) -> (szR xss s i : Int) ≤ x[i] + 1) /\ I h.size h2.size (pre ++ [x]) h8 /\ h2.size ≤ h8.size) := fun n hx => by
     refine int_set o5 e2 pl hL5 hoff _ fun h8 o8 f8 V8 => ?_
     rw [pw, show (p - 1 + 1).toNat = p.toNat by omega]
     refine ⟨p.toNat, by omega, rfl, by omega, by omega, ?_, fun i hi hp => ?_, hIf _ _ _ _ _ I5 (f8.mono fun k _ hk => wide hk) rfl, by have := f8.size; omega⟩
     · rw [e1, curR_zero pn] at o8
       exact o8
     · by_cases hh : i = p.toNat
       · subst hh; exact hx
       · exact hmx i hi (by omega)
   refine ⟨fun e3 => ?_, fun e3 => ?_⟩
   · simp only [decide_eq_true_eq] at e3
     refine zero 0 ?_
     have : szR xss s p.toNat = 1 := by unfold szR; rw [if_pos (.inl (by omega))]
     have := (xr p.toNat pn).1
     omega
   simp only [decide_eq_false_iff_not] at e3
   have G5 := hG _ _ _ _ I5
   obtain ⟨sp, cp, rp⟩ := G5.get e2 (by omega)
   have spl := rp.len
   have gm := graph_mem hg (List.getElem_mem (show p.toNat < xss.length by omega))
   have sw : w64 ((sp.n : Int) - 1) = (sp.n : Int) - 1 := w64_eq _ (by omega) (by omega)
   have ex : (curR x (p + 1).toNat)[p.toNat]'(by omega) = x[p.toNat] := by
     have := curR_get pn (by rw [curR_len (by omega)]; exact pn)
     simp only [e1]
     exact this
   have R5 := o5.rdF
   have gd : xss.getD p.toNat [] = xss[p.toNat]'(by omega) := getD_get (by omega)
   refine ⟨RdI.inb R5 e2 pl, _, RdI.get R5 e2 pl, G5.inb e2 (by omega), sp, cp, fun e4 => ?_, fun e4 => ⟨fun e5 => ?_, fun _ => ?_⟩⟩
   · rw [sw, ex] at e4
     simp only [decide_eq_true_eq] at e4
     refine zero 0 ?_
     unfold szR
     rw [gd]
     have := (xr p.toNat pn).1
     split <;> omega
   · simp only [decide_eq_true_eq] at e5; omega
   · rw [sw, ex] at e4
     simp only [decide_eq_false_iff_not] at e4
     refine ⟨RdI.inb R5 e2 pl, _, RdI.get R5 e2 pl, ?_⟩
     rw [ex, w64_eq (x[p.toNat] + 1) (by have := (xr p.toNat pn).1; omega) (by have := gm.1; omega)]
     refine int_set o5 e2 pl hL5 hoff _ fun h8 o8 f8 V8 => ?_
     have nl : ((List.range xss.length).map (szR xss s)).length = xss.length := by simp
     have ng : ∀ i (hi : i < ((List.range xss.length).map (szR xss s)).length), ((List.range xss.length).map (szR xss s))[i] = szR xss s i := fun i hi => by rw [List.getElem_map, List.getElem_range]
     have x0 := (xr p.toNat pn).1
     have hs := nextD_some ((List.range xss.length).map (szR xss s)) x p.toNat (by omega) pn (by omega) (by
       rw [ng]
       unfold szR
       rw [gd, if_neg (by rintro (a | a) <;> omega)]
       omega) fun i hi hi' hpi => by rw [ng]; exact hmx i hi (by omega)
     rw [hs] at hnx
     cases post with
     | nil => cases hnx
     | cons y post' =>
       simp only [List.head?_cons, Option.some.injEq] at hnx
       have em : post'.length + 1 = m := em
       refine ⟨post'.length, by omega, pre ++ [x], y, post', by rw [eA]; simp, rfl, ?_, hIf _ _ _ _ _ I5 (f8.mono fun k _ hk => wide hk) rfl, by have := f8.size; omega⟩
       rw [e1, curR_set pn] at o8
       rw [← hnx]
       have ez : zerL (((List.range xss.length).map (szR xss s)).drop (p.toNat + 1)) = List.replicate (x.length - (p.toNat + 1)) 0 := by
         unfold zerL
         apply List.ext_getElem (by simp; omega)
         intro i h1 h2
         simp
       rw [ez]
       exact o8
 · simp only [decide_eq_false_iff_not] at e2
   refine ⟨fun _ => ?_, fun e3 => by simp only [decide_eq_false_iff_not] at e3; omega⟩
   have nl : ((List.range xss.length).map (szR xss s)).length = xss.length := by simp
   have hn := nextD_none ((List.range xss.length).map (szR xss s)) x (by omega) fun i hi hi' => by
     rw [List.getElem_map, List.getElem_range]
     exact hmx i hi (by omega)
   rw [hn] at hnx
   cases post with
   | nil => exact HK h2.size (pre ++ [x]) [] h5 (by rw [eA]; simp) (.inl rfl) I5
   | cons y post' => cases hnx
theorem nx_set {g : List (List Int)} {rs : List Int} {p c q : Int} (p0 : 0 ≤ p) (h : q ≠ p) : nx g (rs.set p.toNat c) q = nx g rs q := by
 unfold nx
 by_cases h0 : q < 0
 · rw [if_pos h0, if_pos h0]
 · have : (rs.set p.toNat c).getD q.toNat 0 = rs.getD q.toNat 0 := by
     rw [List.getD_eq_getElem?_getD, List.getElem?_set, if_neg (by omega), List.getD_eq_getElem?_getD]
   rw [this]
theorem itx_set {g : List (List Int)} {rs : List Int} {p c q : Int} (p0 : 0 ≤ p) : ∀ m, (∀ j, j < m -> itx g rs q j ≠ p) -> itx g (rs.set p.toNat c) q m = itx g rs q m
 | 0, _ => rfl
 | m + 1, h => by rw [itx, itx, itx_set p0 m fun j hj => h j (by omega), nx_set p0 (h m (by omega))]
theorem itx_add2 {g : List (List Int)} {rs : List Int} (p : Int) (m : Nat) : ∀ k, itx g rs p (m + k) = itx g rs (itx g rs p m) k
 | 0 => rfl
 | k + 1 => by rw [← Nat.add_assoc, itx, itx_add2 p m k]; rfl
theorem wok_at {g : List (List Int)} {rs : List Int} {a b : Int} (W : WOK g (rs, a)) (h0 : 0 ≤ b) (h1 : b < (g.length : Int)) : WOK g (rs, b) := ⟨W.graph, W.len, h0, h1, W.rot⟩
theorem wok_put {g : List (List Int)} {rs : List Int} {a c : Int} (W : WOK g (rs, a)) {p : Nat} (h : p < g.length) (c0 : 0 ≤ c) (c1 : c ≤ max ((g[p].length : Int) - 1) 0) : WOK g (rs.set p c, a) := ⟨W.graph, by simpa using W.len, W.lo, W.hi, fun i x y => by
 (try simp only at x ⊢)
 rw [List.getElem_set]
 split
 · rename_i e; subst e; exact ⟨c0, c1⟩
 · exact W.rot i (by rw [List.length_set] at x; exact x) y⟩
theorem uni_tree {g : List (List Int)} {rs : List Int} {p : Int} (W : WOK g (rs, p)) : uniB g rs p = true ↔ (g.getD p.toNat []).length ≠ 0 /\ treeB g (rs.set p.toNat 0) p = true := by
 have p0 : 0 ≤ p := W.lo
 have p1 : p < (g.length : Int) := W.hi
 have hp : p.toNat < g.length := by omega
 have W' : WOK g (rs.set p.toNat 0, p) := wok_put W hp (Int.le_refl _) (by omega)
 constructor
 · intro h
   have hu : ∀ q : Nat, q < g.length -> 0 ≤ itx g rs q g.length /\ ∃ k, g.length ≤ k /\ itx g rs q k = p := by
     refine Classical.byContradiction fun hh => ?_
     rw [uniB_f hh] at h
     cases h
   refine ⟨fun hz => ?_, (treeB_iff W' p0).2 fun q hq => ?_⟩
   · obtain ⟨a, k, hk, e⟩ := hu p.toNat hp
     have : itx g rs ((p.toNat : Nat) : Int) 1 < 0 := by
       show nx g rs ((p.toNat : Nat) : Int) < 0
       unfold nx
       rw [if_neg (by omega), show (((p.toNat : Nat) : Int)).toNat = p.toNat by omega, if_pos hz]
       omega
     have := itx_neg_mono this (show 1 ≤ g.length by omega)
     omega
   · obtain ⟨_, k, _, e⟩ := hu q hq
     obtain ⟨m, _, m1, m2⟩ := first_hit k e
     exact ⟨m, by rw [itx_set p0 m m2]; exact m1⟩
 · rintro ⟨hz, ht⟩
   have ht := (treeB_iff W' p0).1 ht
   have hr : ∀ q : Nat, q < g.length -> ∃ m, itx g rs q m = p := fun q hq => by
     obtain ⟨k, e⟩ := ht q hq
     obtain ⟨m, _, m1, m2⟩ := first_hit k e
     refine ⟨m, ?_⟩
     have := itx_set (c := rs.getD p.toNat 0) (rs := rs.set p.toNat 0) p0 m m2
     have e2 : (rs.set p.toNat 0).set p.toNat (rs.getD p.toNat 0) = rs := by
       have hl : p.toNat < rs.length := by have : rs.length = g.length := W.len; omega
       rw [List.set_set, getD_getI hl, List.set_getElem_self]
     rw [e2] at this
     rw [this]; exact m1
   have hn := nx_some W p0 p1 (by rw [getD_get hp] at hz; exact hz)
   obtain ⟨_, hm, _, en⟩ := hn
   have hv := (graph_mem W.graph (List.getElem_mem (show p.toNat < g.length from hp))).2 _ (List.getElem_mem hm)
   rw [← en] at hv
   obtain ⟨c, hc⟩ := hr (nx g rs p).toNat (by omega)
   rw [show (((nx g rs p).toNat : Nat) : Int) = nx g rs p by omega, itx_cons] at hc
   have loop : ∀ j, itx g rs p (j * (c + 1)) = p := by
     intro j
     induction j with
     | zero => rw [Nat.zero_mul]; rfl
     | succ j ih => rw [Nat.succ_mul, itx_add2, ih, hc]
   refine uniB_t fun q hq => ?_
   obtain ⟨m, hm'⟩ := hr q hq
   have hk : itx g rs q (m + g.length * (c + 1)) = p := by rw [itx_add2, hm', loop]
   have hle : g.length ≤ m + g.length * (c + 1) := by
     have : g.length * 1 ≤ g.length * (c + 1) := Nat.mul_le_mul_left _ (by omega)
     omega
   refine ⟨?_, _, hle, hk⟩
   by_cases hx : itx g rs q g.length < 0
   · have := itx_neg_mono hx hle; omega
   · omega
def ltL : List Int -> List Int -> Bool
 | x :: a, y :: b => if x = y then ltL a b else decide (x < y)
 | _, _ => false
theorem ltL_irr : ∀ a, ltL a a = false
 | [] => rfl
 | x :: a => by rw [ltL, if_pos rfl, ltL_irr a]
theorem ltL_asym : ∀ {a b : List Int}, ltL a b = true -> ltL b a = false
 | [], _, h => by simp [ltL] at h
 | x :: a, [], h => by simp [ltL] at h
 | x :: a, y :: b, h => by
   rw [ltL] at h ⊢
   by_cases e : x = y
   · rw [if_pos e] at h
     rw [if_pos e.symm]
     exact ltL_asym h
   · rw [if_neg e] at h
     rw [if_neg fun z => e z.symm]
     simp only [decide_eq_true_eq, decide_eq_false_iff_not] at h ⊢
     omega
theorem ltL_trans : ∀ {a b c : List Int}, ltL a b = true -> ltL b c = true -> ltL a c = true
 | [], b, c, h, _ => by simp [ltL] at h
 | x :: a, [], c, h, _ => by simp [ltL] at h
 | x :: a, y :: b, [], _, h => by simp [ltL] at h
 | x :: a, y :: b, z :: c, h1, h2 => by
   rw [ltL] at h1 h2 ⊢
   by_cases e1 : x = y
   · rw [if_pos e1] at h1
     by_cases e2 : y = z
     · rw [if_pos e2] at h2
       rw [if_pos (e1.trans e2)]
       exact ltL_trans h1 h2
     · rw [if_neg e2] at h2
       rw [if_neg (by omega), e1]
       exact h2
   · rw [if_neg e1] at h1
     simp only [decide_eq_true_eq] at h1
     by_cases e2 : y = z
     · rw [if_neg (by omega), ← e2]
       simpa using h1
     · rw [if_neg e2] at h2
       simp only [decide_eq_true_eq] at h2
       rw [if_neg (by omega)]
       simp only [decide_eq_true_eq]
       omega
theorem ltL_tri : ∀ {a b : List Int}, a.length = b.length -> ltL a b = false -> a ≠ b -> ltL b a = true
 | [], [], _, _, h => absurd rfl h
 | [], _ :: _, h, _, _ => by simp at h
 | _ :: _, [], h, _, _ => by simp at h
 | x :: a, y :: b, hl, h1, h2 => by
   rw [ltL] at h1 ⊢
   by_cases e : x = y
   · rw [if_pos e] at h1
     rw [if_pos e.symm]
     exact ltL_tri (by simpa using hl) h1 fun hh => h2 (by rw [e, hh])
   · rw [if_neg e] at h1
     rw [if_neg fun z => e z.symm]
     simp only [decide_eq_true_eq, decide_eq_false_iff_not] at h1 ⊢
     omega
theorem sorted_ext : ∀ {l1 l2 : List (List Int)}, l1.Pairwise (fun a b => ltL a b = true) -> l2.Pairwise (fun a b => ltL a b = true) -> (∀ x, x ∈ l1 ↔ x ∈ l2) -> l1 = l2
 | [], [], _, _, _ => rfl
 | [], y :: l2, _, _, h => by have := (h y).2 (List.mem_cons_self ..); simp at this
 | x :: l1, [], _, _, h => by have := (h x).1 (List.mem_cons_self ..); simp at this
 | x :: l1, y :: l2, h1, h2, h => by
   rw [List.pairwise_cons] at h1 h2
   have e : x = y := by
     rcases List.mem_cons.1 ((h x).1 (List.mem_cons_self ..)) with e | e
     · exact e
     rcases List.mem_cons.1 ((h y).2 (List.mem_cons_self ..)) with e' | e'
     · exact e'.symm
     have a := ltL_asym (h1.1 y e')
     rw [h2.1 x e] at a
     cases a
   subst e
   rw [sorted_ext h1.2 h2.2 fun z => ⟨fun hz => ?_, fun hz => ?_⟩]
   · rcases List.mem_cons.1 ((h z).1 (List.mem_cons_of_mem _ hz)) with e | e
     · have := h1.1 z hz
       rw [e, ltL_irr] at this
       cases this
     · exact e
   · rcases List.mem_cons.1 ((h z).2 (List.mem_cons_of_mem _ hz)) with e | e
     · have := h2.1 z hz
       rw [e, ltL_irr] at this
       cases this
     · exact e
def insW (w : List Int) : List (List Int) -> List (List Int)
 | [] => [w]
 | x :: l => if ltL x w = true then x :: insW w l else w :: x :: l
theorem mem_insW {w x : List Int} : ∀ {l : List (List Int)}, x ∈ insW w l ↔ x = w ∨ x ∈ l
 | [] => by simp [insW]
 | y :: l => by
   rw [insW]
   split
   · rw [List.mem_cons, mem_insW (l := l), List.mem_cons]
     constructor
     · rintro (a | a | a)
       · exact .inr (.inl a)
       · exact .inl a
       · exact .inr (.inr a)
     · rintro (a | a | a)
       · exact .inr (.inl a)
       · exact .inl a
       · exact .inr (.inr a)
   · rw [List.mem_cons]
theorem insW_len (w : List Int) : ∀ l : List (List Int), (insW w l).length = l.length + 1
 | [] => rfl
 | y :: l => by
   rw [insW]
   split
   · rw [List.length_cons, insW_len w l, List.length_cons]
   · rfl
theorem insW_sorted {w : List Int} : ∀ {l : List (List Int)}, l.Pairwise (fun a b => ltL a b = true) -> (∀ x, x ∈ l -> x.length = w.length /\ x ≠ w) -> (insW w l).Pairwise (fun a b => ltL a b = true)
 | [], _, _ => List.pairwise_singleton _ _
 | y :: l, h, hw => by
   rw [List.pairwise_cons] at h
   rw [insW]
   split
   · rename_i hy
     rw [List.pairwise_cons]
     refine ⟨fun z hz => ?_, insW_sorted h.2 fun x hx => hw x (List.mem_cons_of_mem _ hx)⟩
     rcases mem_insW.1 hz with e | e
     · rw [e]; exact hy
     · exact h.1 z e
   · rename_i hy
     have hy : ltL y w = false := by simpa using hy
     obtain ⟨a, b⟩ := hw y (List.mem_cons_self ..)
     have wy := ltL_tri a hy b
     rw [List.pairwise_cons, List.pairwise_cons]
     refine ⟨fun z hz => ?_, h⟩
     rcases List.mem_cons.1 hz with e | e
     · rw [e]; exact wy
     · exact ltL_trans wy (h.1 z e)
theorem insW_cut {w : List Int} : ∀ {l : List (List Int)} {i : Nat}, i ≤ l.length -> (∀ j (h : j < l.length), j < i -> ltL l[j] w = true) -> (∀ h : i < l.length, ltL l[i] w = false) -> insW w l = l.take i ++ w :: l.drop i
 | [], i, h, _, _ => by
   have : i = 0 := by simpa using h
   subst this; rfl
 | y :: l, 0, _, _, h => by
   have := h (by simp)
   simp only [List.getElem_cons_zero] at this
   rw [insW, if_neg (by rw [this]; simp)]
   rfl
 | y :: l, i + 1, hi, h1, h2 => by
   have := h1 0 (by simp) (by omega)
   simp only [List.getElem_cons_zero] at this
   rw [insW, if_pos this, insW_cut (l := l) (i := i) (by simpa using hi) (fun j hj hji => h1 (j + 1) (by simpa using hj) (by omega)) fun h => h2 (by simpa using h)]
   rfl
theorem prodL_sorted : ∀ cs : List (List Int), (∀ c, c ∈ cs -> c.Pairwise (· < ·)) -> (prodL cs).Pairwise fun a b => ltL a b = true
 | [], _ => List.pairwise_singleton _ _
 | c :: cs, h => by
   have ih := prodL_sorted cs fun d hd => h d (List.mem_cons_of_mem _ hd)
   have hc := h c (List.mem_cons_self ..)
   rw [prodL]
   have : ∀ d : List Int, d.Pairwise (· < ·) -> (d.flatMap fun x => (prodL cs).map (x :: ·)).Pairwise fun a b => ltL a b = true := by
     intro d
     induction d with
     | nil => intro _; exact List.Pairwise.nil
     | cons x d ihd =>
       intro hd
       rw [List.pairwise_cons] at hd
       rw [List.flatMap_cons, List.pairwise_append]
       refine ⟨?_, ihd hd.2, fun a ha b hb => ?_⟩
       · rw [List.pairwise_map]
         exact ih.imp fun h => by rw [ltL, if_pos rfl]; exact h
       · obtain ⟨a', _, rfl⟩ := List.mem_map.1 ha
         obtain ⟨y, hy, hb'⟩ := List.mem_flatMap.1 hb
         obtain ⟨b', _, rfl⟩ := List.mem_map.1 hb'
         have := hd.1 y hy
         rw [ltL, if_neg (by omega)]
         simpa using this
   exact this c hc
theorem rngI_sorted (n : Nat) : (rngI n).Pairwise (· < ·) := by
 unfold rngI
 rw [List.pairwise_map]
 exact List.pairwise_lt_range.imp fun h => by omega
theorem allRot_sorted (g : List (List Int)) (s : Int) : (allRot g s).Pairwise fun a b => ltL a b = true := by
 refine prodL_sorted _ fun c hc => ?_
 obtain ⟨p, _, rfl⟩ := List.mem_map.1 hc
 unfold cand
 split
 · exact List.pairwise_singleton _ _
 · exact rngI_sorted _
noncomputable def allUni (g : List (List Int)) (p : Int) : List (List Int) := (allRot g (-1)).filter fun rs => uniB g rs p
theorem mem_allRot {g : List (List Int)} {s : Int} {rs : List Int} : rs ∈ allRot g s ↔ rs.length = g.length /\ ∀ i (h : i < rs.length), rs[i] ∈ cand g s i := by
 unfold allRot
 have ll : ((List.range g.length).map (cand g s)).length = g.length := by rw [List.length_map, List.length_range]
 rw [mem_prodL]
 constructor
 · rintro ⟨a, b⟩
   refine ⟨a.trans ll, fun i h => ?_⟩
   have := b i h (by rw [List.length_map, List.length_range]; omega)
   rw [List.getElem_map, List.getElem_range] at this
   exact this
 · rintro ⟨a, b⟩
   refine ⟨a.trans ll.symm, fun i h1 h2 => ?_⟩
   rw [List.getElem_map, List.getElem_range]
   exact b i h1
theorem cand_ne {g : List (List Int)} {s t : Int} {i : Nat} (h : (i : Int) ≠ s) (h' : (i : Int) ≠ t) : cand g s i = cand g t i := by
 unfold cand
 by_cases e : (g.getD i []).length = 0
 · rw [if_pos (.inr e), if_pos (.inr e)]
 · rw [if_neg (by rintro (a | a); exact h a; exact e a), if_neg (by rintro (a | a); exact h' a; exact e a)]
theorem mem_allUni {g : List (List Int)} (hg : graphB g = true) {p : Int} (p0 : 0 ≤ p) (p1 : p < (g.length : Int)) {rs : List Int} : rs ∈ allUni g p ↔ ∃ t k, t ∈ treesL g p /\ k ∈ rngI (g.getD p.toNat []).length /\ rs = t.set p.toNat k := by
 have hp : p.toNat < g.length := by omega
 unfold allUni treesL
 rw [List.mem_filter]
 constructor
 · rintro ⟨hr, hu⟩
   have W := (rot_ok (a := p) hg p0 p1 hr).1
   obtain ⟨hz, ht⟩ := (uni_tree W).1 hu
   obtain ⟨l1, l2⟩ := mem_allRot.1 hr
   refine ⟨rs.set p.toNat 0, rs.getD p.toNat 0, List.mem_filter.2 ⟨mem_allRot.2 ⟨by rw [List.length_set]; exact l1, fun i hi => ?_⟩, ht⟩, ?_, ?_⟩
   · rw [List.getElem_set]
     by_cases e : p.toNat = i
     · rw [if_pos e]
       unfold cand
       rw [if_pos (.inl (by omega))]
       exact List.mem_singleton.2 rfl
     · rw [if_neg e, cand_ne (t := -1) (by omega) (by omega)]
       exact l2 i _
   · have := l2 p.toNat (by omega)
     unfold cand at this
     rw [if_neg (by rintro (a | a); omega; exact hz a)] at this
     rw [getD_getI (by omega)]
     exact this
   · rw [List.set_set, getD_getI (by omega), List.set_getElem_self]
 · rintro ⟨t, k, ht, hk, rfl⟩
   rw [List.mem_filter] at ht
   obtain ⟨l1, l2⟩ := mem_allRot.1 ht.1
   have hk' := mem_rngI.1 hk
   have Wt := (rot_ok (a := p) hg p0 p1 ht.1)
   have e0 : t.set p.toNat 0 = t := by
     have := Wt.2 p0
     rw [getD_getI (by omega)] at this
     rw [← this, List.set_getElem_self]
   have hr : t.set p.toNat k ∈ allRot g (-1) := mem_allRot.2 ⟨by rw [List.length_set]; exact l1, fun i hi => by
     rw [List.getElem_set]
     by_cases e : p.toNat = i
     · rw [if_pos e]
       subst e
       unfold cand
       rw [if_neg (by rintro (a | a) <;> omega)]
       exact hk
     · rw [if_neg e, ← cand_ne (s := p) (by omega) (by omega)]
       exact l2 i _⟩
   refine ⟨hr, (uni_tree (rot_ok (a := p) hg p0 p1 hr).1).2 ⟨by omega, ?_⟩⟩
   rw [List.set_set, e0]
   exact ht.2
theorem allUni_sorted (g : List (List Int)) (p : Int) : (allUni g p).Pairwise fun a b => ltL a b = true := List.Pairwise.filter _ (allRot_sorted g _)
def insAll (p : Nat) (ts : List (List Int)) (n : Nat) (out : List (List Int)) : List (List Int) := ts.foldl (fun o t => (rngI n).foldl (fun o k => insW (t.set p k) o) o) out
theorem ins_row {L p : Nat} {t : List Int} (hl : t.length = L) (hp : p < L) : ∀ (ks : List Int) (out : List (List Int)), ks.Nodup -> out.Pairwise (fun a b => ltL a b = true) -> (∀ x, x ∈ out -> x.length = L) -> (∀ x, x ∈ out -> ∀ k, k ∈ ks -> x ≠ t.set p k) →
   (ks.foldl (fun o k => insW (t.set p k) o) out).Pairwise (fun a b => ltL a b = true) /\ (∀ x, x ∈ ks.foldl (fun o k => insW (t.set p k) o) out ↔ x ∈ out ∨ ∃ k, k ∈ ks /\ x = t.set p k) /\ (ks.foldl (fun o k => insW (t.set p k) o) out).length = out.length + ks.length
 | [], out, _, h1, _, _ => ⟨h1, fun x => by simp, by simp⟩
 | k :: ks, out, hd, h1, h2, h3 => by
   rw [List.nodup_cons] at hd
   rw [List.foldl_cons]
   have s1 := insW_sorted (w := t.set p k) h1 fun x hx => ⟨by rw [h2 x hx, List.length_set, hl], h3 x hx k (List.mem_cons_self ..)⟩
   obtain ⟨a, b, c⟩ := ins_row hl hp ks (insW (t.set p k) out) hd.2 s1 (fun x hx => by
     rcases mem_insW.1 hx with e | e
     · rw [e, List.length_set, hl]
     · exact h2 x e) fun x hx j hj => by
     rcases mem_insW.1 hx with e | e
     · rw [e]
       intro hh
       have hp' : p < t.length := by omega
       have e1 : (t.set p k)[p]? = (t.set p j)[p]? := by rw [hh]
       rw [List.getElem?_set, List.getElem?_set, if_pos rfl, if_pos rfl, if_pos hp', if_pos hp'] at e1
       have : k = j := Option.some.inj e1
       exact hd.1 (this ▸ hj)
     · exact h3 x e j (List.mem_cons_of_mem _ hj)
   refine ⟨a, fun x => ?_, by rw [c, insW_len, List.length_cons]; omega⟩
   rw [b x, mem_insW]
   constructor
   · rintro ((h | h) | ⟨j, hj, h⟩)
     · exact .inr ⟨k, List.mem_cons_self .., h⟩
     · exact .inl h
     · exact .inr ⟨j, List.mem_cons_of_mem _ hj, h⟩
   · rintro (h | ⟨j, hj, h⟩)
     · exact .inl (.inr h)
     · rcases List.mem_cons.1 hj with e | e
       · subst e; exact .inl (.inl h)
       · exact .inr ⟨j, e, h⟩
theorem rngI_nodup (n : Nat) : (rngI n).Nodup := (rngI_sorted n).imp fun h => by omega
theorem ins_all {L p n : Nat} (hp : p < L) : ∀ (ts out : List (List Int)), ts.Nodup -> (∀ t, t ∈ ts -> t.length = L /\ t.getD p 0 = 0) -> out.Pairwise (fun a b => ltL a b = true) -> (∀ x, x ∈ out -> x.length = L) -> (∀ x, x ∈ out -> ∀ t, t ∈ ts -> ∀ k, k ∈ rngI n -> x ≠ t.set p k) →
   (insAll p ts n out).Pairwise (fun a b => ltL a b = true) /\ (∀ x, x ∈ insAll p ts n out ↔ x ∈ out ∨ ∃ t k, t ∈ ts /\ k ∈ rngI n /\ x = t.set p k) /\ (insAll p ts n out).length = out.length + ts.length * n
 | [], out, _, _, h1, _, _ => ⟨h1, fun x => by simp [insAll], by simp [insAll]⟩
 | t :: ts, out, hd, ht, h1, h2, h3 => by
   rw [List.nodup_cons] at hd
   obtain ⟨t1, t2⟩ := ht t (List.mem_cons_self ..)
   obtain ⟨a, b, c⟩ := ins_row t1 hp (rngI n) out (rngI_nodup n) h1 h2 fun x hx k hk => h3 x hx t (List.mem_cons_self ..) k hk
   have ln : (rngI n).length = n := by simp [rngI]
   obtain ⟨a', b', c'⟩ := ins_all hp ts ((rngI n).foldl (fun o k => insW (t.set p k) o) out) hd.2 (fun u hu => ht u (List.mem_cons_of_mem _ hu)) a (fun x hx => by
     rcases (b x).1 hx with e | ⟨k, _, e⟩
     · exact h2 x e
     · rw [e, List.length_set, t1]) fun x hx u hu k hk => by
     rcases (b x).1 hx with e | ⟨j, hj, e⟩
     · exact h3 x e u (List.mem_cons_of_mem _ hu) k hk
     · rw [e]
       intro hh
       obtain ⟨u1, u2⟩ := ht u (List.mem_cons_of_mem _ hu)
       have e1 := congrArg (fun l : List Int => l.set p 0) hh
       (try simp only at e1)
       rw [List.set_set, List.set_set] at e1
       have z : ∀ v : List Int, v.length = L -> v.getD p 0 = 0 -> v.set p 0 = v := fun v hv h0 => by
         rw [getD_getI (by omega)] at h0
         rw [← h0, List.set_getElem_self]
       rw [z t t1 t2, z u u1 u2] at e1
       exact hd.1 (e1 ▸ hu)
   refine ⟨a', fun x => ?_, ?_⟩
   · show x ∈ insAll p ts n _ ↔ _
     rw [b' x, b x]
     constructor
     · rintro ((h | ⟨k, hk, h⟩) | ⟨u, k, hu, hk, h⟩)
       · exact .inl h
       · exact .inr ⟨t, k, List.mem_cons_self .., hk, h⟩
       · exact .inr ⟨u, k, List.mem_cons_of_mem _ hu, hk, h⟩
     · rintro (h | ⟨u, k, hu, hk, h⟩)
       · exact .inl (.inl h)
       · rcases List.mem_cons.1 hu with e | e
         · subst e; exact .inl (.inr ⟨k, hk, h⟩)
         · exact .inr ⟨u, k, e, hk, h⟩
   · show (insAll p ts n _).length = _
     rw [c', c, ln, List.length_cons, Nat.succ_mul]
     omega
theorem sorted_nodup {l : List (List Int)} (h : l.Pairwise fun a b => ltL a b = true) : l.Nodup := h.imp fun {a b} hab e => by
 rw [e, ltL_irr] at hab
 cases hab
theorem trees_sorted (g : List (List Int)) (s : Int) : (treesL g s).Pairwise fun a b => ltL a b = true := List.Pairwise.filter _ (allRot_sorted g s)
theorem ins_uni {g : List (List Int)} (hg : graphB g = true) {p : Int} (p0 : 0 ≤ p) (p1 : p < (g.length : Int)) : insAll p.toNat (treesL g p) (g.getD p.toNat []).length [] = allUni g p /\ (allUni g p).length = (treesL g p).length * (g.getD p.toNat []).length := by
 obtain ⟨a, b, c⟩ := ins_all (L := g.length) (p := p.toNat) (n := (g.getD p.toNat []).length) (by omega) (treesL g p) [] (sorted_nodup (trees_sorted g p)) (fun t ht => by
   unfold treesL at ht
   rw [List.mem_filter] at ht
   exact ⟨(mem_allRot.1 ht.1).1, (rot_ok (a := p) hg p0 p1 ht.1).2 p0⟩) List.Pairwise.nil (fun x hx => by simp at hx) fun x hx => by simp at hx
 have e : insAll p.toNat (treesL g p) (g.getD p.toNat []).length [] = allUni g p := sorted_ext a (allUni_sorted g p) fun x => by
   rw [b x, mem_allUni hg p0 p1]
   simp
 refine ⟨e, ?_⟩
 rw [← e, c]
 simp
theorem RdR.tl2 {S : Nat -> Prop} {h : Heap} {s : Sl} {xss : List (List Int)} (H : RdR S h s xss) (h1 : 1 ≤ xss.length) : RdR S h (s.cut 1 1 s.n s.c) xss.tail := by
 obtain ⟨ss, e, h2, h3⟩ := H.out
 have sn := H.len
 have c := RdV.cut h2 (l := 1) (m := s.n) (by omega) (Nat.le_refl _)
 have ec : ((ss.map Sl.v).drop (1 * 1)).take ((s.n - 1) * 1) = ss.tail.map Sl.v := by
   rw [List.take_of_length_le (by simp; omega)]
   cases ss <;> rfl
 rw [ec] at c
 refine ⟨ss.tail, by simp [e], c, fun i a b => ?_⟩
 have := h3 (i + 1) (by simp at a; omega) (by simp at b; omega)
 simpa using this
theorem eop_erase {L : List (Nat × List Value)} {S : Nat -> Prop} {h : Heap} {s : Sl} {xs : List Int} (R : RdI S h s xs) {k : Int} (k0 : 0 ≤ k) (k1 : k < (xs.length : Int)) (hb : xs.length ≤ 1000000) (hL : Vars h L) (C : Sl -> Heap -> Prop) (HC : ∀ t h', OwI h' (fun q => h.size ≤ q) t (xs.eraseIdx k.toNat) -> Fr No h h' -> Vars h' L -> C t h') :
   pop Tryz.prog (Instr.sliceAt tIs s.v none (some (VI k)) none) fun rv => ∃ a : Sl, rv = a.v /\ pop Tryz.prog (Instr.sliceAt tIs s.v (some (VI (w64 (k + 1)))) none none) fun rv => ∃ b : Sl, rv = b.v /\ callM Tryz.prog 79 #[a.v] h fun rv h1 => ∃ c : Sl, rv = c.v /\ Vars h1 L /\ eop Tryz.prog (appS tIs tIs tIs c.v b.v) h1 fun rv2 h2 => ∃ d : Sl, rv2 = d.v /\ Vars h2 L /\ C d h2 := by
 have sn := RdI.len R
 have sc := RdV.cap R
 have kw : w64 (k + 1) = k + 1 := w64_eq _ (by omega) (by omega)
 rw [kw]
 refine pop_cut_h rIs .i64 k0 (by omega) ⟨_, rfl, pop_cut_l rIs .i64 (by omega) (by omega) ⟨_, rfl, ?_⟩⟩
 have r1 := RdI.cut R (l := 0) (m := k.toNat) (Nat.zero_le _) (by omega)
 have r2 := RdI.cut R (l := (k + 1).toNat) (m := s.n) (by omega) (by omega)
 rw [List.drop_zero, Nat.sub_zero] at r1
 rw [List.take_of_length_le (by rw [List.length_drop]; omega)] at r2
 refine k_l1Own r1 (by rw [List.length_take]; omega) _ fun c h1 o1 f1 => ⟨c, rfl, hL.of_no f1, ?_⟩
 have cn : c.n = (xs.take k.toNat).length := by have := o1.len; simp at this; simp; omega
 have dn : (s.cut 1 (k + 1).toNat s.n s.c).n = s.n - (k + 1).toNat := rfl
 have z1 := f1.size
 have pv : ((xs.drop (k + 1).toNat).map VI).all plainV = true := by rw [List.all_map, List.all_eq_true]; intro x _; rfl
 refine eop_append rIs (o1.mono (F' := fun q => h.size ≤ q) fun q _ hq => hq.1) (fun q hq => by omega) (RdV.no r2 f1) pv (by rw [cn, dn, List.length_take]; omega) fun d h2 hd o2 f2 m2 => ⟨d, rfl, ?_, ?_⟩
 · exact (hL.of_no f1).fr f2 fun p hp ho => by
     have := (hL.mem p hp).lt
     have := (Ow.foot o1 ho).1.1
     omega
 · rw [← List.map_append] at o2
   refine HC d h2 ?_ ((f1.of_no.trans (f2.mono fun q _ hq => (Ow.foot o1 hq).1)).mono fun q hq hq2 => absurd hq2.1 (by omega)) ?_
   · rw [List.eraseIdx_eq_take_drop_succ, show k.toNat + 1 = (k + 1).toNat by omega]
     exact o2
   · exact (hL.of_no f1).fr f2 fun p hp ho => by
       have := (hL.mem p hp).lt
       have := (Ow.foot o1 ho).1.1
       omega
theorem mat_rest {xss : List (List Int)} {n k : Nat} (Q : Sq (n + 1) xss) (hk : k < n + 1) : Sq n (xss.tail.map fun r => r.eraseIdx k) /\ ∀ i j, i < n -> j < n -> matL (xss.tail.map fun r => r.eraseIdx k) i j = matL xss (i + 1) (skp k j) := by
 have ln := Q.len
 have hr : ∀ i (h : i < xss.tail.length), xss.tail[i] = xss[i + 1]'(by rw [List.length_tail] at h; omega) := fun i h => by rw [List.getElem_tail]
 refine ⟨⟨by simp; omega, fun i hi => ?_⟩, fun i j hi hj => ?_⟩
 · rw [List.length_map] at hi
   rw [List.getElem_map, hr i hi, List.length_eraseIdx, Q.row]
   rw [if_pos hk]
   omega
 · have hi' : i < xss.tail.length := by rw [List.length_tail]; omega
   have h1 : i + 1 < xss.length := by omega
   have e2 := Q.row (i + 1) h1
   have hs : skp k j < (xss[i + 1]'h1).length := by unfold skp; split <;> omega
   rw [matL_get h1 hs, matL_get (by rw [List.length_map]; exact hi') (by rw [List.getElem_map, hr i hi', List.length_eraseIdx, e2, if_pos hk]; omega)]
   have : ((xss.tail.map fun r => r.eraseIdx k)[i]'(by rw [List.length_map]; exact hi')) = (xss[i + 1]'h1).eraseIdx k := by rw [List.getElem_map, hr i hi']
   have e3 : ((xss.tail.map fun r => r.eraseIdx k)[i]'(by rw [List.length_map]; exact hi'))[j]? = (xss[i + 1]'h1)[skp k j]? := by
     rw [this, List.getElem?_eraseIdx]
     unfold skp
     split <;> rfl
   rw [List.getElem?_eq_getElem (by rw [List.getElem_map, hr i hi', List.length_eraseIdx, e2, if_pos hk]; omega), List.getElem?_eq_getElem hs] at e3
   exact Option.some.inj e3
theorem sgn_w (k : Nat) : w64 (0 - sgn k) = sgn (k + 1) := by
 rw [sgn_succ]
 unfold sgn
 split <;> rfl
theorem det_part {n : Nat} {A : Mat} (h : ∀ i j, i < n + 1 -> j < n + 1 -> (A i j).natAbs ≤ 10) {t : Nat} (ht : t ≤ n + 1) : (sumZ (fun k => sgn k * A 0 k * det n (fun i j => A (i + 1) (skp k j))) t).natAbs ≤ dbN (n + 1) := by
 have := sumZ_bound (f := fun k => sgn k * A 0 k * det n (fun i j => A (i + 1) (skp k j))) (b := 10 * dbN n) (n := t) fun k hk => by
   (try simp only)
   rw [Int.natAbs_mul, Int.natAbs_mul, sgn_abs, Nat.one_mul]
   exact Nat.mul_le_mul (h 0 k (by omega) (by omega)) (det_bound fun i j hi hj => h (i + 1) (skp k j) (by omega) (by unfold skp; split <;> omega))
 rw [dbN, Nat.mul_assoc]
 exact Nat.le_trans this (Nat.mul_le_mul_right _ ht)
theorem k_trDet : ∀ (n : Nat) {S : Nat -> Prop} {h : Heap} {s : Sl} {xss : List (List Int)} (M : RdR S h s xss) (Q : Sq n xss) (hn : n ≤ 7) (hb : Small n (matL xss)), Ret Tryz.prog 92 #[s.v] h (VI (det n (matL xss)))
 | 0, S, h, s, xss, M, Q, _, _ => by
   intro K HK
   have sn := M.len
   have ln := Q.len
   refine v92 s h K ⟨fun _ => HK h (Fr.refl _ _), fun e => ?_⟩
   simp only [decide_eq_false_iff_not] at e
   omega
 | n + 1, S, h, s, xss, M, Q, hn, hb => by
   intro K HK
   have sn := M.len
   have ln := Q.len
   refine v92 s h K ⟨fun e => ?_, fun _ => ?_⟩
   · simp only [decide_eq_true_eq] at e
     omega
   obtain ⟨s0, c0, r0⟩ := M.get (i := 0) (Int.le_refl _) (by omega)
   have l0 := Q.row 0 (by omega)
   have r0 : RdI S h s0 (xss[0]'(by omega)) := r0
   have s0n := RdI.len r0
   refine ⟨M.inb (Int.le_refl _) (by omega), s0, c0, ?_⟩
   have pb : ∀ t, t ≤ n + 1 -> (sumZ (fun k => sgn k * matL xss 0 k * det n (fun i j => matL xss (i + 1) (skp k j))) t).natAbs ≤ 50400000000 := fun t ht => Nat.le_trans (det_part hb ht) (Nat.le_trans (dbN_le (show n + 1 ≤ 7 by omega)) (by rw [dbN7]; exact Nat.le_refl _))
   refine ⟨fun m sm sg t h' => 0 ≤ t /\ t + m = ((n + 1 : Nat) : Int) /\ sm = sumZ (fun k => sgn k * matL xss 0 k * det n (fun i j => matL xss (i + 1) (skp k j))) t.toNat /\ sg = sgn t.toNat /\ Fr No h h', ⟨n + 1, Int.le_refl _, by omega, rfl, rfl, Fr.refl _ _⟩, ?_⟩
   rintro m sm sg t h1 ⟨t0, t1, rfl, rfl, f1⟩ hL1
   have M1 := M.no f1
   have r1 := RdI.no r0 f1
   refine ⟨fun e => ?_, fun e => ?_⟩
   · have ht := r1.lt e
     have htn : t.toNat < n + 1 := by omega
     have e00 : (xss[0]'(by omega))[t.toNat]'(by omega) = matL xss 0 t.toNat := (matL_get (by omega) (by omega)).symm
     have hx := abs_le (hb 0 t.toNat (by omega) htn)
     have tw : w64 (t + 1) = t + 1 := w64_eq _ (by omega) (by omega)
     have nxt : ∀ (x : Int) h', x = sumZ (fun k => sgn k * matL xss 0 k * det n (fun i j => matL xss (i + 1) (skp k j))) (t.toNat + 1) -> Fr No h h' -> ∃ m' : Nat, m' < m /\ 0 ≤ w64 (t + 1) /\ w64 (t + 1) + m' = ((n + 1 : Nat) : Int) /\ x = sumZ (fun k => sgn k * matL xss 0 k * det n (fun i j => matL xss (i + 1) (skp k j))) (w64 (t + 1)).toNat /\ w64 (0 - sgn t.toNat) = sgn (w64 (t + 1)).toNat /\ Fr No h h' := fun x h' hx f => by
       rw [tw, show (t + 1).toNat = t.toNat + 1 by omega]
       exact ⟨m - 1, by omega, by omega, by omega, hx, sgn_w _, f⟩
     refine ⟨r1.inb t0 ht, _, r1.get t0 ht, fun x h' => x = sumZ (fun k => sgn k * matL xss 0 k * det n (fun i j => matL xss (i + 1) (skp k j))) (t.toNat + 1) /\ Fr No h h', ⟨fun e2 => ?_, fun e2 => ?_⟩, fun x h' hx hL' => nxt x h' hx.1 hx.2⟩
     · rw [e00]
       refine pop_cut_l rIss .i64 (show (0 : Int) ≤ 1 by omega) (by omega) ⟨_, rfl, ?_⟩
       have T1 := RdR.tl2 M1 (by omega)
       have tln : xss.tail.length = n := by rw [List.length_tail]; omega
       have T1n : (s.cut 1 1 s.n s.c).n = n := by rw [T1.len, tln]
       have no_ : ∀ {x : Heap}, Fr (fun k => h1.size ≤ k) h1 x -> Fr No h1 x := fun f => f.mono fun k hk hk2 => absurd hk2 (by omega)
       refine ⟨fun m2 r j h' => 0 ≤ j /\ j + m2 = (n : Int) /\ OwX h' (fun q => h1.size ≤ q) r ((xss.tail.take j.toNat).map fun l => l.eraseIdx t.toNat) /\ Fr (fun q => h1.size ≤ q) h1 h', ⟨n, Int.le_refl _, by omega, OwR.nil _ _ _ _, Fr.refl _ _⟩, ?_⟩
       rintro m2 r j h2 ⟨j0, j1, o2, f2⟩ hL2
       have T2 := T1.no (no_ f2)
       refine ⟨fun e3 => ?_, fun e3 => ?_⟩
       · have hj := T2.lt e3
         obtain ⟨sj, cj, rj⟩ := T2.get j0 hj
         have lj : (xss.tail[j.toNat]'(by omega)).length = n + 1 := by rw [List.getElem_tail]; exact Q.row _ (by omega)
         refine ⟨T2.inb j0 hj, sj, cj, eop_erase rj t0 (by omega) (by omega) .nil _ fun d h4 o4 f4 V4 => ?_⟩
         have z4 := f4.size
         refine eop_putR (lo := h1.size) (m := h2.size) (OwR.toIv o2 |>.no f4) o4 f2.size z4 .nil (fun p hp => by simp at hp) (by rw [List.length_map, List.length_take]; omega) _ fun t2 h5 o5 f5 V5 => ?_
         rw [w64_eq (j + 1) (by omega) (by omega)]
         refine ⟨m2 - 1, by omega, by omega, by omega, ?_, (f2.trans f4.of_no).trans f5⟩
         rw [take_snoc _ j0 hj, List.map_append, List.map_cons, List.map_nil]
         exact o5
       · have hj := T2.ge e3
         rw [List.take_of_length_le (by omega)] at o2
         obtain ⟨Qr, er⟩ := mat_rest Q htn
         have hbr : Small n (matL (xss.tail.map fun r => r.eraseIdx t.toNat)) := fun i j hi hj => by rw [er i j hi hj]; exact hb _ _ (by omega) (by unfold skp; split <;> omega)
         refine k_trDet n (OwR.rd o2) Qr (by omega) hbr _ fun h7 f7 => ⟨_, rfl, .nil, ?_, f1.no_trans ((no_ f2).no_trans f7)⟩
         rw [det_congr er]
         rw [sumZ]
         have b1 := abs_le (pb t.toNat (by omega))
         have b2 := abs_le (pb (t.toNat + 1) (by omega))
         rw [sumZ] at b2
         have b3 : -10 ≤ sgn t.toNat * matL xss 0 t.toNat /\ sgn t.toNat * matL xss 0 t.toNat ≤ 10 := by
           unfold sgn
           split <;> omega
         rw [w64_eq (sgn t.toNat * matL xss 0 t.toNat) (by omega) (by omega)]
         generalize sgn t.toNat * matL xss 0 t.toNat * det n (fun i j => matL xss (i + 1) (skp t.toNat j)) = y at b2 ⊢
         generalize sumZ (fun k => sgn k * matL xss 0 k * det n (fun i j => matL xss (i + 1) (skp k j))) t.toNat = z at b1 b2 ⊢
         rw [w64_eq y (by omega) (by omega), w64_eq (z + y) (by omega) (by omega)]
     · rw [e00] at e2
       simp only [Bool.not_eq_false', decide_eq_true_eq] at e2
       refine ⟨?_, f1⟩
       rw [sumZ, e2]
       simp
   · have ht := r1.ge e
     have : t.toNat = n + 1 := by omega
     rw [this]
     exact HK h1 f1
theorem k_trLaplace {S : Nat -> Prop} {h : Heap} {g : Sl} {xss : List (List Int)} (G : RdR S h g xss) (hg : graphB xss = true) {s : Int} (s0 : 0 ≤ s) (s1 : s < (xss.length : Int)) (K : KQ) (HK : ∀ t h', OwX h' (Iv h.size h'.size) t (lapL xss s) -> Fr No h h' -> K t.v h') : callM Tryz.prog 93 #[.agg #[g.v], VI s] h K := by
 refine v93 g s h K fun b1 h1 hb1 f1 hL1 => ?_
 have f1 := f1.in_nil
 have z1 := f1.size
 have l1 : b1 < h1.size := hL1.head.lt
 have gl := graph_len hg
 have gn := G.len
 have no_ : ∀ {x : Heap}, Fr (fun k => h.size ≤ k) h x -> Fr No h x := fun f => f.mono fun k hk hk2 => absurd hk2 (by omega)
 refine ⟨fun m x p h' => 0 ≤ p /\ p + m = (xss.length : Int) /\ OwX h' (fun k => h1.size ≤ k) x (((List.range p.toNat).filter (notS s)).map (lapRow xss s)) /\ Fr (fun k => h.size ≤ k) h h' /\ h1.size ≤ h'.size, ⟨xss.length, Int.le_refl _, by omega, OwR.nil _ _ _ _, f1.of_no, Nat.le_refl _⟩, ?_⟩
 rintro m x p h3 ⟨p0, p1, o3, f3, z3⟩ hL3
 have g3 := no_ f3
 refine ⟨fun e => ?_, fun e => ?_⟩
 · have hp := G.lt e
   have G3 := G.no g3
   obtain ⟨sp, cp, rp⟩ := G3.get p0 hp
   have pl := rp.len
   have eg : xss.getD p.toNat [] = xss[p.toNat]'(by omega) := getD_get (by omega)
   have gm := graph_mem hg (List.getElem_mem (show p.toNat < xss.length by omega))
   rw [G.succ p0 hp]
   refine ⟨G3.inb p0 hp, sp, cp, fun e2 => ?_, fun e2 => ?_⟩
   · simp only [decide_eq_true_eq] at e2
     refine ⟨m - 1, by omega, by omega, by omega, ?_, f3, z3⟩
     rw [show (p + 1).toNat = p.toNat + 1 by omega, List.range_succ, List.filter_append, List.filter_cons_of_neg (notS_f (by omega)), List.filter_nil, List.append_nil]
     exact o3
   simp only [decide_eq_false_iff_not] at e2
   refine eop_make rIs (fun k => h3.size ≤ k) (fun _ h => h) .i64 .i64 g.n g.n (Nat.le_refl _) (by omega) fun t h4 n4 c4 o4 f4 m4 _ => ⟨t, rfl, hL3.of_no f4, ?_⟩
   have z4 := f4.size
   have o4 : OwI h4 (fun k => h3.size ≤ k) t (List.replicate xss.length 0) := by
     have e : (List.replicate g.n [VI 0]).flatten = (List.replicate xss.length (0 : Int)).map VI := by rw [gn]; simp [List.flatten_replicate_singleton]
     rw [e] at o4; exact o4
   refine int_set (L := [(b1, [g.v])]) (F := fun k => h3.size ≤ k) o4 p0 (by rw [List.length_replicate]; omega) (hL3.of_no f4) (fun q hq => by
     simp only [List.mem_cons, List.not_mem_nil, or_false] at hq
     subst hq; show ¬ h3.size ≤ b1; omega) _ fun h5 o5 f5 V5 => ?_
   rw [pl, ← rowV_start (by omega)] at o5
   have f35 := (f4.of_no (T := fun k => h3.size ≤ k)).trans f5
   refine ⟨fun m2 j h' => 0 ≤ j /\ j + m2 = ((xss[p.toNat]'(by omega)).length : Int) /\ OwI h' (fun k => h3.size ≤ k) t (rowV xss.length p.toNat (xss[p.toNat]'(by omega)).length ((xss[p.toNat]'(by omega)).take j.toNat)) /\ Fr (fun k => h3.size ≤ k) h3 h', ⟨(xss[p.toNat]'(by omega)).length, Int.le_refl _, by omega, by simpa using o5, f35⟩, ?_⟩
   rintro m2 j h6 ⟨j0, j1, o6, f6⟩ hL6
   have r6 := (rp.low.fr f6 fun k hk hk2 => by omega)
   refine ⟨fun e3 => ?_, fun e3 => ?_⟩
   · have hj := r6.lt e3
     have hv := gm.2 _ (List.getElem_mem (show j.toNat < (xss[p.toNat]'(by omega)).length by omega))
     have R6 := o6.rdF
     have rl := rowV_len xss.length p.toNat (xss[p.toNat]'(by omega)).length ((xss[p.toNat]'(by omega)).take j.toNat)
     have hvl : (xss[p.toNat]'(by omega))[j.toNat]'(by omega) < ((rowV xss.length p.toNat (xss[p.toNat]'(by omega)).length ((xss[p.toNat]'(by omega)).take j.toNat)).length : Int) := by rw [rl]; omega
     refine ⟨r6.inb j0 hj, _, r6.get j0 hj, RdI.inb R6 hv.1 hvl, _, RdI.get R6 hv.1 hvl, int_set (L := [(b1, [g.v])]) (F := fun k => h3.size ≤ k) o6 hv.1 hvl hL6 (fun q hq => by
       simp only [List.mem_cons, List.not_mem_nil, or_false] at hq
       subst hq; show ¬ h3.size ≤ b1; omega) _ fun h7 o7 f7 V7 => ?_⟩
     rw [RdI.succ r6 j0 hj]
     refine ⟨m2 - 1, by omega, by omega, by omega, ?_, f6.trans f7⟩
     rw [take_snoc _ j0 hj, rowV_step hv.1 hv.2, getD_getI (show ((xss[p.toNat]'(by omega))[j.toNat]'(by omega)).toNat < (rowV xss.length p.toNat (xss[p.toNat]'(by omega)).length ((xss[p.toNat]'(by omega)).take j.toNat)).length by omega)]
     have hb : w64 ((rowV xss.length p.toNat (xss[p.toNat]'(by omega)).length ((xss[p.toNat]'(by omega)).take j.toNat))[((xss[p.toNat]'(by omega))[j.toNat]'(by omega)).toNat]'(by omega) - 1) = (rowV xss.length p.toNat (xss[p.toNat]'(by omega)).length ((xss[p.toNat]'(by omega)).take j.toNat))[((xss[p.toNat]'(by omega))[j.toNat]'(by omega)).toNat]'(by omega) - 1 := by
       rw [rowV_get]
       have ob := occ_bound ((((xss[p.toNat]'(by omega))[j.toNat]'(by omega)).toNat : Nat) : Int) ((xss[p.toNat]'(by omega)).take j.toNat)
       rw [List.length_take] at ob
       have := gm.1
       exact w64_eq _ (by split <;> omega) (by split <;> omega)
     rw [hb] at o7
     exact o7
   · have hj := r6.ge e3
     rw [List.take_of_length_le (by omega)] at o6
     refine eop_erase o6.rdF s0 (by rw [rowV_len]; omega) (by rw [rowV_len]; omega) hL6 _ fun t8 h8 o8 f8 V8 => ?_
     have f8' : Fr (fun k => h3.size ≤ k) h6 h8 := f8.of_no
     have z6 := f6.size
     have o8 := o8.mono (F' := fun k => h3.size ≤ k) fun k _ hk => by omega
     have f38 := f6.trans f8'
     have z8 := f38.size
     have hL8 : Vars h8 [(b1, [g.v])] := V8
     refine eop_putR (lo := h1.size) (m := h3.size) (OwR.fr (OwR.toIv o3) f38 fun k hk hk2 hk3 => by have := hk2.2; omega) o8 z3 z8 hL8 (fun q hq => by
       simp only [List.mem_cons, List.not_mem_nil, or_false] at hq
       subst hq; exact l1) (by
         rw [List.length_map]
         have := List.length_filter_le (notS s) (List.range p.toNat)
         rw [List.length_range] at this
         omega) _ fun t2 h10 o10 f10 V10 => ?_
     refine ⟨m - 1, by omega, by omega, by omega, ?_, (f3.trans (f38.mono fun k _ hk => by omega)).trans (f10.mono fun k _ hk => by omega), by have := f10.size; omega⟩
     rw [show (p + 1).toNat = p.toNat + 1 by omega, List.range_succ, List.filter_append, List.filter_cons_of_pos (notS_t.2 (by omega)), List.filter_nil, List.map_append, List.map_cons, List.map_nil]
     have el : lapRow xss s p.toNat = (rowV xss.length p.toNat (xss[p.toNat]'(by omega)).length (xss[p.toNat]'(by omega))).eraseIdx s.toNat := by unfold lapRow; rw [eg]
     rw [el]
     exact o10
 · have hp := G.ge e
   have ep : p.toNat = xss.length := by omega
   rw [ep] at o3
   exact HK x h3 (o3.mono fun k hk hk2 => ⟨by omega, hk⟩) g3
theorem k_loops {S S' : Nat -> Prop} {h : Heap} {b : Nat} {g r f : Sl} {xss : List (List Int)} {rs : List Int} {a s mo : Int} (V : IsVar h b [g.v, VI s, r.v, f.v, VI mo]) (G : RdR S h g xss) (H : RdI S' h r rs) (W : WOK xss (rs, a)) {p : Int} (p0 : 0 ≤ p) (p1 : p < (xss.length : Int)) (K : KQ) (HK : ∀ h', Fr No h h' -> K (VB (lpB xss s rs p)) h') : callM Tryz.prog 151 #[VP b 0, VI p] h K := by
 have gn := G.len
 have gl := graph_len W.graph
 refine v151 b g s r f mo p h K (.cons V (by simp) .nil) ⟨fun m q n6 h' => 0 ≤ n6 /\ n6 + m = (xss.length : Int) + 1 /\ 0 ≤ q /\ q < (xss.length : Int) /\ lpB xss s rs p = lpG xss s rs p m q /\ Fr No h h', ⟨xss.length + 1, Int.le_refl _, by omega, p0, p1, rfl, Fr.refl _ _⟩, ?_⟩
 rintro m q n6 h1 ⟨n0, n1, q0, q1, el, f1⟩ hL1
 refine ⟨fun e => ?_, fun e => ?_⟩
 · simp only [decide_eq_true_eq] at e
   obtain ⟨k, rfl⟩ : ∃ k, m = k + 1 := ⟨m - 1, by omega⟩
   rw [lpG] at el
   refine ⟨fun e2 => ?_, fun e2 => ⟨fun e3 => ?_, fun e3 => ?_⟩⟩
   · simp only [decide_eq_true_eq] at e2
     rw [if_pos (.inl e2)] at el
     rw [← el]
     exact HK h1 f1
   · simp only [decide_eq_true_eq] at e3
     rw [if_pos (.inr e3)] at el
     rw [← el]
     exact HK h1 f1
   · simp only [decide_eq_false_iff_not] at e2 e3
     rw [if_neg (by rintro (x | x); exact e2 x; exact e3 x)] at el
     refine k_trNext (G.no f1) (RdI.no H f1) W q0 q1 _ fun h2 f2 => ⟨_, rfl, hL1.of_no f2, fun e4 => ?_, fun e4 => ?_⟩
     · simp only [decide_eq_true_eq] at e4
       rw [if_pos e4] at el
       rw [← el]
       exact HK h2 (f1.no_trans f2)
     · simp only [decide_eq_false_iff_not] at e4
       rw [if_neg e4] at el
       rw [w64_eq _ (by omega) (by omega)]
       exact ⟨k, by omega, by omega, by omega, by omega, (nx_lt W q1).2, el, f1.no_trans f2⟩
 · simp only [decide_eq_false_iff_not] at e
   have : m = 0 := by omega
   subst this
   rw [show lpG xss s rs p 0 q = true from rfl] at el
   rw [← el]
   exact HK h1 f1
theorem set_self {rs : List Int} {p : Nat} (h : p < rs.length) (e : rs[p] = 0) : rs.set p 0 = rs := by rw [← e]; exact List.set_getElem_self h
theorem wok_set {g : List (List Int)} {rs : List Int} {a c : Int} (W : WOK g (rs, a)) {p : Nat} (h : p < g.length) (c0 : 0 ≤ c) (c1 : c ≤ max ((g[p].length : Int) - 1) 0) : WOK g (rs.set p c, a) := ⟨W.graph, by simpa using W.len, W.lo, W.hi, fun i x y => by
 (try simp only at x ⊢)
 rw [List.getElem_set]
 split
 · rename_i e; subst e; exact ⟨c0, c1⟩
 · exact W.rot i (by rw [List.length_set] at x; exact x) y⟩
theorem getD_set_ne {rs : List Int} {p i : Nat} {c : Int} (h : i ≠ p) : (rs.set p c).getD i 0 = rs.getD i 0 := by
 rw [List.getD_eq_getElem?_getD, List.getElem?_set, if_neg fun e => h e.symm, List.getD_eq_getElem?_getD]
theorem rngI_snoc (k : Nat) : rngI (k + 1) = rngI k ++ [(k : Int)] := by unfold rngI; rw [List.range_succ, List.map_append]; rfl
theorem k_look : ∀ (d : Nat) {S R : Nat -> Prop} {h : Heap} {b lo : Nat} {g r f : Sl} {xss found : List (List Int)} {rs : List Int} {a s : Int} {p mo : Nat} (V : IsVar h b [g.v, VI s, r.v, f.v, VI mo]) (G : RdR S h g xss) (H : OwI h R r rs) (O : OwX h (fun k => lo ≤ k) f found) (W : WOK xss (rs, a)) (hS : ∀ k, S k -> k ≠ b /\ ¬ R k /\ k < lo) (hR : ∀ k, R k -> k ≠ b /\ k < lo) (hb : b < lo) (hlo : lo ≤ h.size)
   (s0 : 0 ≤ s) (s1 : s < (xss.length : Int)) (hd : p + d = xss.length) (hz : ∀ i (hi : i < rs.length), p ≤ i -> rs[i] = 0) (hn : ∀ i : Nat, i < p -> (i : Int) ≠ s -> lpB xss s rs i = false) (hf : found.length ≤ mo + 1) (hm : mo ≤ 1000) (K : KQ)
   (HK : ∀ h' f', IsVar h' b [g.v, VI s, r.v, Sl.v f', VI mo] -> OwI h' R r rs -> OwX h' (fun k => lo ≤ k) f' ((found ++ ptL xss s rs p).take (mo + 1)) -> Fr (fun k => k = b ∨ R k ∨ lo ≤ k) h h' -> K (.tuple #[]) h'), callM Tryz.prog 135 #[VP b 0, VI p] h K := by
 intro d
 induction d using Nat.strongRecOn with
 | ind d ih =>
 intro S R h b lo g r f xss found rs a s p mo V G H O W hS hR hb hlo s0 s1 hd hz hn hf hm K HK
 have gn := G.len
 have gl := graph_len W.graph
 have on := O.len
 have rl : rs.length = xss.length := W.len
 refine v135 b g s r f mo p h K (.cons V (by simp) .nil) ⟨fun e => ?_, fun e => ⟨fun e2 => ?_, fun e2 => ⟨fun e3 => ?_, fun e3 => ?_⟩⟩⟩
 · simp only [decide_eq_true_eq] at e
   refine HK h f V H ?_ (Fr.refl _ _)
   rw [List.take_append_of_le_length (by omega), List.take_of_length_le (by omega)]
   exact O
 · simp only [decide_eq_false_iff_not] at e
   simp only [decide_eq_true_eq] at e2
   have ep : p = xss.length := by omega
   subst ep
   refine k_l1Own H.rdF (by omega) _ fun t h1 o1 f1 => ⟨t, rfl, .cons (V.fr f1 fun x => x) (by simp) .nil, ?_⟩
   refine eop_putR (lo := lo) (m := h.size) (OwR.toIv O |>.no f1) (o1.mono fun k _ hk => hk.1) hlo f1.size (L := [(b, [g.v, VI s, r.v, f.v, VI mo])]) (.cons (V.fr f1 fun x => x) (by simp) .nil) (fun q hq => by
     simp only [List.mem_cons, List.not_mem_nil, or_false] at hq
     subst hq; exact hb) (by omega) _ fun t2 h3 o3 f3 V3 => ?_
   intro h4 f4 hL4
   have fb : Fr (fun k => k = b ∨ R k ∨ lo ≤ k) h3 h4 := f4.mono fun k _ hk => .inl (by simpa [In] using hk)
   have f13 : Fr (fun k => k = b ∨ R k ∨ lo ≤ k) h h3 := f1.of_no.trans (f3.mono fun k _ hk => .inr (.inr hk))
   refine HK h4 t2 hL4.head ?_ ?_ (f13.trans fb)
   · refine Ow.fr (Ow.fr (Ow.no H f1) f3 fun k hk hk2 => ?_) f4 fun k hk hk2 => ?_
     · have := (hR k (Ow.foot H hk).1).2; omega
     · exact (hR k (Ow.foot H hk).1).1 (by simpa [In] using hk2)
   · rw [ptL_end rl, lp_tree W s0 fun i hi his => hn i hi his, if_pos rfl, List.take_of_length_le (by simp; omega)]
     exact OwR.fr o3 f4 fun k _ hk hk2 => by
       have : k = b := by simpa [In] using hk2
       omega
 · simp only [decide_eq_false_iff_not] at e e2
   simp only [decide_eq_true_eq] at e3
   have pw : w64 ((p : Int) + 1) = ((p + 1 : Nat) : Int) := by rw [w64_eq _ (by omega) (by omega)]; omega
   rw [pw]
   have hp : p < xss.length := by omega
   have rp := hz p (by omega) (Nat.le_refl _)
   refine ih (d - 1) (by omega) V G H O W hS hR hb hlo s0 s1 (by omega) (fun i hi hpi => hz i hi (by omega)) (fun i hi his => hn i (by omega) his) hf hm _ fun h5 f5 V5 H5 O5 F5 => ⟨g, s, r, f5, mo, .cons V5 (by simp) .nil, ?_⟩
   refine HK h5 f5 V5 H5 ?_ F5
   rw [ptL_step rl hp]
   have hc : cand xss s p = [0] := by unfold cand; rw [if_pos (.inl e3)]
   rw [hc, List.flatMap_cons, List.flatMap_nil, List.append_nil, set_self (by omega) rp]
   exact O5
 · simp only [decide_eq_false_iff_not] at e e2 e3
   have hp : p < xss.length := by omega
   have rp := hz p (by omega) (Nat.le_refl _)
   obtain ⟨sp, cp, rp'⟩ := G.get (i := (p : Int)) (by omega) (by omega)
   have spl : sp.n = xss[p].length := rp'.len
   have gm := graph_mem W.graph (List.getElem_mem hp)
   have ge : xss[((p : Nat) : Int).toNat]'(by omega) = xss[p] := rfl
   have pw : w64 ((p : Int) + 1) = ((p + 1 : Nat) : Int) := by rw [w64_eq _ (by omega) (by omega)]; omega
   refine ⟨G.inb (by omega) (by omega), sp, cp, fun m k x6 x7 x8 x9 x10 h' => x6 = g /\ x7 = s /\ x8 = r /\ x10 = (mo : Int) /\ 0 ≤ k /\ k + m = (xss[p].length : Int) /\ (∃ c, OwI h' R r (rs.set p c)) /\ OwX h' (fun k => lo ≤ k) x9 ((found ++ (rngI k.toNat).flatMap fun j => ptL xss s (rs.set p j) (p + 1)).take (mo + 1)) /\ Fr (fun k => k = b ∨ R k ∨ lo ≤ k) h h', ⟨xss[p].length, rfl, rfl, rfl, rfl, Int.le_refl _, by omega, ⟨0, by rw [set_self (by omega) rp]; exact H⟩, ?_, Fr.refl _ _⟩, ?_⟩
   · have : rngI (0 : Int).toNat = [] := rfl
     rw [this, List.flatMap_nil, List.append_nil, List.take_of_length_le hf]
     exact O
   rintro m k x6 x7 x8 x9 x10 h6 ⟨rfl, rfl, rfl, rfl, k0, k1, ⟨c, H6⟩, O6, F6⟩ hL6
   have off : ∀ q, q ∈ [(b, [x6.v, VI x7, x8.v, x9.v, VI mo])] -> ¬ R q.1 := fun q hq => by
     simp only [List.mem_cons, List.not_mem_nil, or_false] at hq
     subst hq
     exact fun hr => (hR _ hr).1 rfl
   refine ⟨fun e4 => ?_, fun e4 => ?_⟩
   · simp only [decide_eq_true_eq] at e4
     have k2 : k < (xss[p].length : Int) := by omega
     have kw : w64 (k + 1) = k + 1 := w64_eq _ (by omega) (by omega)
     refine int_set H6 (by omega) (by rw [List.length_set]; omega) hL6 off _ fun h7 H7 f7 V7 => ?_
     rw [show ((p : Nat) : Int).toNat = p from rfl, List.set_set] at H7
     have W7 : WOK xss (rs.set p k, a) := wok_set W hp k0 (by omega)
     have F7 : Fr (fun k => k = b ∨ R k ∨ lo ≤ k) h h7 := F6.trans (f7.mono fun q _ hq => .inr (.inl hq))
     have G7 := G.fr F7 fun q hq hq2 => by
       obtain ⟨a1, a2, a3⟩ := hS q hq
       rcases hq2 with x | x | x
       · exact a1 x
       · exact a2 x
       · omega
     have O7 := OwR.fr O6 f7 fun q _ hq hq2 => by have := (hR q hq2).2; omega
     rw [kw]
     have snoc : rngI (k + 1).toNat = rngI k.toNat ++ [k] := by
       rw [show (k + 1).toNat = k.toNat + 1 by omega, rngI_snoc, show ((k.toNat : Nat) : Int) = k by omega]
     refine k_loops V7.head G7 H7.rdF W7 (by omega) (by omega) _ fun h8 f8 => ⟨x6, x7, x8, x9, mo, _, rfl, V7.of_no f8, fun e5 => ?_, fun e5 => ?_⟩
     · simp only [Bool.not_eq_true'] at e5
       rw [pw]
       refine ih (d - 1) (by omega) (V7.of_no f8).head (G7.no f8) (Ow.no H7 f8) (OwR.no O7 f8) W7 hS hR hb (by have := F7.size; have := f8.size; omega) s0 s1 (by omega) (fun i hi hpi => ?_) (fun i hi his => ?_) (by rw [List.length_take]; omega) hm _ fun h9 f9 V9 H9 O9 F9 => ⟨x6, x7, x8, f9, mo, .cons V9 (by simp) .nil, m - 1, by omega, rfl, rfl, rfl, rfl, by omega, by omega, ⟨k, H9⟩, ?_, (F7.trans f8.of_no).trans F9⟩
       · rw [List.getElem_set, if_neg (by omega)]
         exact hz i (by rw [List.length_set] at hi; exact hi) (by omega)
       · by_cases hip : i = p
         · subst hip; exact e5
         · have := hn i (by omega) his
           unfold lpB at this ⊢
           rw [← this]
           exact lpG_agree (fun j hj => getD_set_ne (by omega)) _ _
       · rw [take_app] at O9
         rw [snoc, List.flatMap_append, List.flatMap_cons, List.flatMap_nil, List.append_nil, ← List.append_assoc]
         exact O9
     · simp only [Bool.not_eq_false'] at e5
       have en := ptL_no W.graph s0 hp (by rw [List.length_set]; exact rl) (fun i h1 h2 _ => W7.rot i h1 h2) e5
       refine ⟨m - 1, by omega, rfl, rfl, rfl, rfl, by omega, by omega, ⟨k, Ow.no H7 f8⟩, ?_, F7.trans f8.of_no⟩
       rw [snoc, List.flatMap_append, List.flatMap_cons, List.flatMap_nil, List.append_nil, en, List.append_nil]
       exact OwR.no O7 f8
   · simp only [decide_eq_false_iff_not] at e4
     have ek : k.toNat = xss[p].length := by omega
     refine int_set H6 (by omega) (by rw [List.length_set]; omega) hL6 off _ fun h7 H7 f7 V7 => ?_
     rw [show ((p : Nat) : Int).toNat = p from rfl, List.set_set, set_self (by omega) rp] at H7
     have F7 : Fr (fun k => k = b ∨ R k ∨ lo ≤ k) h h7 := F6.trans (f7.mono fun q _ hq => .inr (.inl hq))
     have O7 := OwR.fr O6 f7 fun q _ hq hq2 => by have := (hR q hq2).2; omega
     refine HK h7 x9 V7.head H7 ?_ F7
     rw [ptL_step rl hp]
     rw [ek] at O7
     by_cases hl : xss[p].length = 0
     · have hc : cand xss x7 p = [0] := by unfold cand; rw [if_pos (.inr (by rw [getD_get hp]; exact hl))]
       have lpt : lpB xss x7 rs p = true := by
         unfold lpB
         rw [lpG, if_neg (by rintro (x | x) <;> omega), if_pos]
         unfold nx
         rw [if_neg (by omega), show ((p : Nat) : Int).toNat = p from rfl, getD_get hp, if_pos hl]
         omega
       have en := ptL_no W.graph s0 hp rl (fun i h1 h2 _ => W.rot i h1 h2) lpt
       rw [hc, List.flatMap_cons, List.flatMap_nil, set_self (by omega) rp, en]
       rw [hl] at O7
       exact O7
     · have hc : cand xss x7 p = rngI xss[p].length := by
         unfold cand
         rw [getD_get hp, if_neg (by rintro (x | x); exact e3 x; exact hl x)]
       rw [hc]
       exact O7
theorem k_trAll {S : Nat -> Prop} {h : Heap} {g : Sl} {xss : List (List Int)} (G : RdR S h g xss) (hg : graphB xss = true) {s : Int} (s0 : 0 ≤ s) (s1 : s < (xss.length : Int)) {mo : Nat} (hm : mo ≤ 1000) (K : KQ) (HK : ∀ t h', OwX h' (Iv h.size h'.size) t ((treesL xss s).take (mo + 1)) -> Fr No h h' -> K t.v h') : callM Tryz.prog 99 #[.agg #[g.v], VI s, VI mo] h K := by
 refine v99 g s mo h K fun b1 h1 hb1 f1 hL1 => ?_
 have f1 := f1.in_nil
 have z1 := f1.size
 have l1 : b1 < h1.size := hL1.head.lt
 have gl := graph_len hg
 have gn := G.len
 refine eop_make rIs (fun k => h1.size ≤ k) (fun _ h => h) .i64 .i64 g.n g.n (Nat.le_refl _) (by omega) fun t h2 n2 c2 o2 f2 m2 _ => ⟨t, rfl, hL1.of_no f2, fun b2 h3 hb2 f3 hL3 => ?_⟩
 have f3 := f3.in_nil
 have z2 := f2.size
 have z3 := f3.size
 have l2 : b2 < h3.size := hL3.head.lt
 have o2 : OwI h2 (Iv h1.size h2.size) t (List.replicate xss.length 0) := by
   have e : (List.replicate g.n [VI 0]).flatten = (List.replicate xss.length (0 : Int)).map VI := by rw [gn]; simp [List.flatten_replicate_singleton]
   rw [e] at o2
   exact o2.mono fun k hk hF => ⟨hF, (Ow.foot o2 hk).2⟩
 have f13 := f2.no_trans f3
 have W : WOK xss (List.replicate xss.length 0, s) := ⟨hg, by simp, s0, s1, fun i a b => by
   (try simp only at a ⊢)
   rw [List.getElem_replicate]
   omega⟩
 refine k_look xss.length (S := fun k => k < h1.size) (R := Iv h1.size h2.size) (lo := h3.size) (found := []) (p := 0) hL3.head ((G.no f1).low.no f13) (Ow.no o2 f3) (OwR.nil _ _ _ _) W (fun k hk => ⟨by omega, fun hr => by have := hr.1; omega, by omega⟩) (fun k hk => ⟨by have := hk.2; omega, by have := hk.2; omega⟩) l2 (Nat.le_refl _) s0 s1 (by omega) (fun i hi _ => by simp) (fun i hi => by omega) (by simp) hm _ fun h4 f4 V4 H4 O4 F4 => ⟨g, s, t, f4, mo, .cons V4 (fun p hp => ?_) (.cons ?_ (by simp) .nil), ?_⟩
 · simp only [List.mem_cons, List.not_mem_nil, or_false] at hp
   subst hp
   show b1 ≠ b2
   omega
 · refine hL3.tail.head.fr F4 fun hk => ?_
   rcases hk with x | x | x
   · omega
   · have := x.1; omega
   · omega
 · rw [List.nil_append, ptL_zero] at O4
   refine HK f4 h4 (O4.mono fun k hk hF => ⟨by omega, hk⟩) ((f1.no_trans f13).of_no.trans (F4.mono (T' := fun k => h.size ≤ k) fun k _ hk => ?_) |>.mono fun k hk hk2 => absurd hk2 (by omega))
   rcases hk with x | x | x
   · omega
   · have := x.1; omega
   · omega
theorem k_countUnicycles {S : Nat -> Prop} {h : Heap} {g : Sl} {xss : List (List Int)} (G : RdR S h g xss) (hg : graphB xss = true) {p : Int} (p0 : 0 ≤ p) (p1 : p < (xss.length : Int)) (K : KQ) (HK : ∀ h', Fr No h h' -> K (VI (treesN xss p * (xss.getD p.toNat []).length)) h') : callM Tryz.prog 90 #[.agg #[g.v], VI p] h K := by
 have gl := graph_len hg
 refine v90 g p h K ⟨G.inb p0 p1, fun b1 h1 hb1 f1 hL1 => ?_⟩
 have f1 := f1.in_nil
 have G1 := G.no f1
 obtain ⟨sp, cp, rp⟩ := G1.get p0 p1
 have spl := rp.len
 have gm := graph_mem hg (List.getElem_mem (show p.toNat < xss.length by omega))
 obtain ⟨ll, Q⟩ := lap_sq p0 p1
 refine ⟨sp, cp, k_laplace G1 hg p0 p1 _ fun t h2 o2 f2 => ⟨t, rfl, hL1.of_no f2, cell_keep G1 p0 p1 f2 (fun _ _ x => x) cp, ?_⟩⟩
 refine k_determinant (OwR.rd o2) (by rw [ll]; exact Q) (by omega) (by rw [ll]; exact lap_small hg p0 p1) _ fun h3 f3 => ⟨_, rfl, (hL1.of_no f2).of_no f3, cell_keep G1 p0 p1 (f2.no_trans f3) (fun _ _ x => x) cp, ?_⟩
 rw [ll]
 have hb := abs_le (Nat.le_trans (det_bound (lap_small hg p0 p1)) (Nat.le_trans (dbN_le (show xss.length - 1 ≤ 7 by omega)) (show dbN 7 ≤ 50400000000 by rw [dbN7]; exact Nat.le_refl _)))
 have h5 : (sp.n : Int) ≤ 5 := by have := gm.1; omega
 have hm : -252000000000 ≤ det (xss.length - 1) (matL (lapL xss p)) * (sp.n : Int) /\ det (xss.length - 1) (matL (lapL xss p)) * (sp.n : Int) ≤ 252000000000 := by
   have e : sp.n = 0 ∨ sp.n = 1 ∨ sp.n = 2 ∨ sp.n = 3 ∨ sp.n = 4 ∨ sp.n = 5 := by omega
   rcases e with e | e | e | e | e | e <;> rw [e] <;> omega
 rw [w64_eq _ (by omega) (by omega)]
 rw [getD_get (show p.toNat < xss.length by omega), ← spl] at HK
 exact HK h3 (f1.no_trans (f2.no_trans f3))
theorem k_AllUni1 {S S' : Nat -> Prop} {h : Heap} {bp bg bo : Nat} {g o t : Sl} {xss : List (List Int)} {x : List Int} {ws : List (List Int × Int)} {p : Int} (Vp : IsVar h bp [VI p]) (Vg : IsVar h bg [g.v]) (Vo : IsVar h bo [o.v]) (n1 : bp ≠ bg) (n2 : bp ≠ bo) (n3 : bg ≠ bo) (G : RdR S h g xss) (X : RdI S' h t x) (W : WOK xss (x, p)) {F : Nat -> Prop} (O : OwWS h F o ws) (hF : ∀ k, h.size ≤ k -> F k) (hob : ¬ F bo) (hbp : ¬ F bp) (hbg : ¬ F bg) (hw : ws.length ≤ 1000000) (K : KQ)
   (HK : ∀ h' o', IsVar h' bp [VI p] -> IsVar h' bg [g.v] -> IsVar h' bo [Sl.v o'] -> OwWS h' F o' (if uniB xss x p then ws ++ [(x, p)] else ws) -> Fr (fun k => k = bo ∨ F k) h h' -> K (VB true) h') : callV Tryz.prog (.func (.func 96) #[] #[VP bp 0, VP bg 0, VP bo 0]) [t.v] h K := by
 have gl := graph_len W.graph
 have lo_ := Vo.lt
 refine v96 t bp p bg g bo o h K (.cons Vp (fun q hq => by
   simp only [List.mem_cons, List.not_mem_nil, or_false] at hq
   rcases hq with rfl | rfl
   · exact fun e => n1 e.symm
   · exact fun e => n2 e.symm) (.cons Vg (fun q hq => by
     simp only [List.mem_cons, List.not_mem_nil, or_false] at hq
     rcases hq with rfl
     exact fun e => n3 e.symm) (.cons Vo (by simp) .nil))) fun b4 h2 hb4 f2 hL2 => ?_
 have f2 := f2.in_nil
 have X2 : RdI S' h2 t x := RdI.no X f2
 have xl : x.length = xss.length := W.len
 refine k_isUnicycle (G.no f2) X2 W _ fun h3 f3 => ⟨_, rfl, hL2.of_no f3, fun e => ?_, fun e => ?_⟩
 · rw [if_pos e] at HK
   have X3 : RdI S' h3 t x := RdI.no X2 f3
   refine k_copiedW X3 p (by omega) _ fun t4 h4 o4 f4 => ⟨t4, p, rfl, (hL2.of_no f3).of_no f4, ?_⟩
   have f04 : Fr No h h4 := f2.no_trans (f3.no_trans f4)
   have z4 := f04.size
   refine eop_lit rWs (fun k => h4.size ≤ k) (fun _ h => h) 1 (by omega) [t4.v, VI p] rfl rfl fun u h5 n5 c5 o5 f5 m5 _ => ⟨u, rfl, ((hL2.of_no f3).of_no f4).of_no f5, ?_⟩
   have z5 := f5.size
   have hL5 := ((hL2.of_no f3).of_no f4).of_no f5
   have O5 : OwWS h5 (fun k => F k /\ k < h.size) o ws := OwW.no (OwW.no (O.mono fun k hk hF => ⟨hF, hk⟩) f04) f5
   have z3 : h.size ≤ h3.size := (f2.no_trans f3).size
   refine OwW.snoc rWs O5 (F' := F) (p := p) (fun k _ hk => hk.1) (fun k hk => hF k (by omega)) ((Ow.no o4 f5).mono fun k _ hk => hF k (by have := hk.1; omega)) (fun k hk hk2 => by have := (Ow.foot o4 hk).1.1; have := hk2.2; omega) o5.rd (by omega) fun y h6 o6 f6 => ⟨y, rfl, ?_, fun h7 f7 hL7 => ?_⟩
   · refine hL5.fr f6 fun q hq hk => ?_
     simp only [List.mem_cons, List.not_mem_nil, or_false] at hq
     rcases hq with rfl | rfl | rfl | rfl
     · have := hk.2; (try simp only at this); omega
     · exact hbp hk.1
     · exact hbg hk.1
     · exact hob hk.1
   · have e7 : ∀ k, In [bo] k -> k = bo := fun k hk => by simpa [In] using hk
     refine HK h7 y hL7.tail.head hL7.tail.tail.head hL7.tail.tail.tail.head (o6.fr f7 fun k _ hk hk2 => hob (e7 k hk2 ▸ hk)) ?_
     exact ((f04.no_trans f5).of_no.trans (f6.mono fun k _ hk => .inr hk.1)).trans (f7.mono fun k _ hk => .inl (e7 k hk))
 · rw [if_neg (by rw [e]; simp)] at HK
   have f03 := f2.no_trans f3
   have hL3 := hL2.of_no f3
   exact HK h3 o hL3.tail.head hL3.tail.tail.head hL3.tail.tail.tail.head (O.no f03) f03.of_no
noncomputable def allUniP (g : List (List Int)) (p : Int) : List (List Int × Int) × Bool :=
 if graphB g && inR 0 ((g.length : Int) - 1) p then (if treesN g p * (g.getD p.toNat []).length ≤ 300 then ((allUni g p).map fun rs => (rs, p), true) else ([], false)) else ([], false)
theorem allUni_len {g : List (List Int)} (hg : graphB g = true) {p : Int} (p0 : 0 ≤ p) (p1 : p < (g.length : Int)) (h : treesN g p * (g.getD p.toNat []).length ≤ 300) : (allUni g p).length ≤ 300 /\ ((g.getD p.toNat []).length ≠ 0 -> (treesL g p).length ≤ 300) := by
 rw [treesN_eq hg p0 p1] at h
 have e := (ins_uni hg p0 p1).2
 have h2 : (treesL g p).length * (g.getD p.toNat []).length ≤ 300 := by
   have : (((treesL g p).length * (g.getD p.toNat []).length : Nat) : Int) ≤ 300 := by rw [Int.natCast_mul]; exact h
   omega
 refine ⟨by rw [e]; exact h2, fun hz => ?_⟩
 have : (treesL g p).length * 1 ≤ (treesL g p).length * (g.getD p.toNat []).length := Nat.mul_le_mul_left _ (by omega)
 omega
theorem k_AllUnicycles {S : Nat -> Prop} {h : Heap} {g : Sl} {xss : List (List Int)} (G : RdR S h g xss) (p : Int) (K : KQ) (HK : ∀ t h', OwWS h' (Iv h.size h'.size) t (allUniP xss p).1 -> Fr No h h' -> K (.tuple #[t.v, VB (allUniP xss p).2]) h') : callM Tryz.prog 43 #[.agg #[g.v], VI p] h K := by
 refine v43 g p h K fun b1 b2 h2 hb1 hb2 f2 hL2 => ?_
 have f2 := f2.in_nil
 have z2 := f2.size
 have l2 : b2 < h2.size := hL2.head.lt
 have l1 : b1 < h2.size := hL2.tail.head.lt
 have ne12 : b1 ≠ b2 := hL2.ne _ (List.mem_cons_self ..)
 refine eop_lit rIs (fun k => h2.size ≤ k) (fun _ h => h) 1 (by omega) [VI p] rfl rfl fun t h3 n3 c3 o3 f3 m3 _ => ⟨t, rfl, hL2.of_no f3, ?_⟩
 have r3 : RdI (fun k => h2.size ≤ k) h3 t [p] := o3.rdF
 have f03 := f2.no_trans f3
 refine k_has (G.no f03) r3 _ fun h4 f4 => ⟨_, rfl, (hL2.of_no f3).of_no f4, fun e => ?_, fun e => ?_⟩
 all_goals simp only [List.all_cons, List.all_nil, Bool.and_true] at e
 · have er : allUniP xss p = ([], false) := by unfold allUniP; rw [if_neg (by rw [not_t e]; simp)]
   have := HK nilSl h4 (by rw [er]; exact OwW.nil _ _ _ _) (f03.no_trans f4)
   rw [er] at this
   exact this
 have e := not_f e
 have e' := e
 rw [Bool.and_eq_true] at e'
 have pr := inR_iff.1 e'.2
 have hg := e'.1
 have gl := graph_len hg
 have p1 : p < (xss.length : Int) := by omega
 have f04 := f03.no_trans f4
 refine k_countUnicycles (G.no f04) hg pr.1 p1 _ fun h5 f5 => ⟨_, rfl, ((hL2.of_no f3).of_no f4).of_no f5, fun e2 => ?_, fun e2 => ?_⟩
 · simp only [decide_eq_true_eq] at e2
   have er : allUniP xss p = ([], false) := by unfold allUniP; rw [if_pos e, if_neg (by omega)]
   have := HK nilSl h5 (by rw [er]; exact OwW.nil _ _ _ _) (f04.no_trans f5)
   rw [er] at this
   exact this
 simp only [decide_eq_false_iff_not] at e2
 have er : allUniP xss p = ((allUni xss p).map fun rs => (rs, p), true) := by unfold allUniP; rw [if_pos e, if_pos (by omega)]
 have ul := (allUni_len hg pr.1 p1 (show treesN xss p * (xss.getD p.toNat []).length ≤ 300 by omega)).1
 rw [er] at HK
 have f05 := f04.no_trans f5
 have z5 := f05.size
 have hL5 := ((hL2.of_no f3).of_no f4).of_no f5
 have z25 : h2.size ≤ h5.size := by have := f3.size; have := f4.size; have := f5.size; omega
 refine eop_lit rWs (fun k => h5.size ≤ k) (fun _ h => h) 0 (by omega) [] rfl rfl fun o h6 n6 c6 o6 f6 m6 _ => ⟨o, rfl, hL5.of_no f6, fun b3 h8 hb3 f8 hL8 => ?_⟩
 have f8 := f8.in_nil
 have z6 := f6.size
 have z8 := f8.size
 have l3 : b3 < h8.size := hL8.head.lt
 have O8 : OwWS h8 (fun k => h5.size ≤ k /\ k < h6.size) o [] := ⟨[], rfl, (Ow.no o6 f8).mono fun k hk hF => ⟨hF, (Ow.foot o6 hk).2⟩, fun i h1 => by simp at h1, fun i j h1 => by simp at h1, fun i h1 => by simp at h1⟩
 have f68 : Fr No h5 h8 := f6.no_trans f8
 have f08 := f05.no_trans f68
 have z08 := f08.size
 have b12 : b2 < h5.size /\ b1 < h5.size := ⟨by omega, by omega⟩
 -- what the list may lie in: what was made for it, and what comes behind the rotors
 have G8 : RdR (fun k => k < h5.size) h8 g xss := ((G.no f05).low).no f68
 have pf : ∀ {a b k : Nat}, a = h8.size -> Iv a b k -> ¬ ((h5.size ≤ k /\ k < h6.size) ∨ (h8.size ≤ k /\ ¬ Iv a b k)) := fun ha hk hh => by
   have := hk.1
   rcases hh with x | x
   · omega
   · exact x.2 hk
 refine k_allRotors G8 hg (-1) _ (fun a b pre h' => ∃ y, IsVar h' b2 [VI p] /\ IsVar h' b1 [g.v] /\ IsVar h' b3 [Sl.v y] /\ RdR (fun k => k < h5.size) h' g xss /\ OwWS h' (fun k => (h5.size ≤ k /\ k < h6.size) ∨ (h8.size ≤ k /\ ¬ Iv a b k)) y ((pre.filter fun rs => uniB xss rs p).map fun rs => (rs, p)) /\ Fr (fun k => h5.size ≤ k) h5 h' /\ h8.size ≤ h'.size) (fun _ => False)
   ?_ ?_ ?_ ?_ _ ?_
 · rintro a b pre h' ⟨y, _, _, _, G', _⟩
   exact G'
 · intro h' f'
   exact ⟨o, hL8.tail.head.fr f' fun x => x, hL8.tail.tail.head.fr f' fun x => x, hL8.head.fr f' fun x => x, G8.no f', (OwW.no O8 f').mono fun k _ hk => .inl hk, f68.of_no.trans f'.of_no, f'.size⟩
 · rintro a b pre h1 h2' ⟨y, v2, v1, v3, G', O', F', z'⟩ f' ha
   have nb : ∀ {k : Nat}, k < h8.size -> ¬ Iv a b k := fun hk hh => by have := hh.1; omega
   exact ⟨y, v2.fr f' (nb (by omega)), v1.fr f' (nb (by omega)), v3.fr f' (nb l3), G'.fr f' fun k hk => nb (by omega), O'.fr f' fun k _ hk hk2 => pf ha hk2 hk, F'.trans (f'.mono fun k _ hk => by have := hk.1; omega), by have := f'.size; omega⟩
 · rintro b pre x post t h1 K' eA ⟨y, v2, v1, v3, G', O', F', z'⟩ hb X HK'
   have W := (rot_ok (s := -1) (a := p) hg pr.1 p1 (show x ∈ allRot xss (-1) by rw [eA]; simp)).1
   have pl : ((pre.filter fun rs => uniB xss rs p).map fun rs => (rs, p)).length ≤ 300 := by
     rw [List.length_map]
     have : (allUni xss p).length = (pre.filter fun rs => uniB xss rs p).length + ((x :: post).filter fun rs => uniB xss rs p).length := by
       unfold allUni
       rw [eA, List.filter_append, List.length_append]
     omega
   refine k_AllUni1 v2 v1 v3 (fun e => ne12 e.symm) (by omega) (by omega) G' X W O' (fun k hk => .inr ⟨by omega, fun hh => by have := hh.2; omega⟩) (fun hh => by rcases hh with z | z <;> omega) (fun hh => by rcases hh with z | z <;> omega) (fun hh => by rcases hh with z | z <;> omega) (by omega) _ fun h2' o' v2' v1' v3' O2 F2 => HK' true h2' ⟨o', v2', v1', v3', G'.fr F2 fun k hk hk2 => ?_, ?_, F'.trans (F2.mono fun k _ hk => ?_), by have := F2.size; omega⟩ (F2.mono fun k _ hk hh => ?_) fun e => by cases e
   · rcases hk2 with z | z | z <;> omega
   · rw [List.filter_append, List.map_append]
     by_cases hu : uniB xss x p = true
     · rw [if_pos hu] at O2
       rw [List.filter_cons_of_pos (p := fun rs => uniB xss rs p) hu, List.filter_nil]
       exact O2
     · rw [if_neg hu] at O2
       rw [List.filter_cons_of_neg (p := fun rs => uniB xss rs p) hu, List.filter_nil, List.map_nil, List.append_nil]
       exact O2
   · rcases hk with z | z | z <;> omega
   · have := hh.1
     rcases hk with z | z
     · omega
     · exact pf rfl hh z
 · rintro b pre post h' eA hpost ⟨y, v2, v1, v3, G', O', F', z'⟩
   have ep : post = [] := hpost.elim id fun x => x.elim
   rw [ep, List.append_nil] at eA
   rw [← eA] at O'
   refine ⟨y, p, g, .cons v3 (fun q hq => ?_) (.cons v2 (fun q hq => ?_) (.cons v1 (by simp) .nil)), ?_⟩
   · simp only [List.mem_cons, List.not_mem_nil, or_false] at hq
     rcases hq with rfl | rfl
     · show b2 ≠ b3; omega
     · show b1 ≠ b3; omega
   · simp only [List.mem_cons, List.not_mem_nil, or_false] at hq
     subst hq
     exact ne12
   · refine HK y h' (O'.mono fun k hk hF => ⟨?_, hk⟩) (f05.fresh F' fun k hk => by omega)
     rcases hF with z | z <;> omega
theorem k_trLess {S S' : Nat -> Prop} {h : Heap} {a b : Sl} {xs ys : List Int} (H : RdI S h a xs) (H' : RdI S' h b ys) (hl : xs.length = ys.length) (K : KQ) (HK : K (VB (ltL xs ys)) h) : callM Tryz.prog 100 #[a.v, b.v] h K := by
 refine v100 a b h K ⟨fun m i h' => h' = h /\ 0 ≤ i /\ i + m = (xs.length : Int) /\ ltL xs ys = ltL (xs.drop i.toNat) (ys.drop i.toNat), ⟨xs.length, rfl, Int.le_refl _, by omega, by simp⟩, ?_⟩
 rintro m i h1 ⟨rfl, i0, i1, el⟩ hL
 refine ⟨fun e => ?_, fun e => ?_⟩
 · have hi := H.lt e
   have hi' : i < (ys.length : Int) := by omega
   rw [drop_cons xs i0 hi, drop_cons ys i0 hi', ltL] at el
   refine ⟨H.inb i0 hi, _, H.get i0 hi, H'.inb i0 hi', _, H'.get i0 hi', fun e2 => ⟨H'.inb i0 hi', _, H'.get i0 hi', ?_⟩, fun e2 => ?_⟩
   · simp only [Bool.not_eq_true', decide_eq_false_iff_not] at e2
     rw [if_neg e2] at el
     rw [← el]
     exact HK
   · simp only [Bool.not_eq_false', decide_eq_true_eq] at e2
     rw [if_pos e2] at el
     rw [H.succ i0 hi]
     exact ⟨m - 1, by omega, rfl, by omega, by omega, el⟩
 · have hi := H.ge e
   rw [List.drop_of_length_le (by omega), List.drop_of_length_le (by omega)] at el
   rw [el] at HK
   exact HK
theorem wcs_plain : ∀ (ss : List Sl) (ps : List Int), (wcs ss ps).all plainV = true
 | [], _ => by cases ‹List Int› <;> rfl
 | _ :: _, [] => rfl
 | s :: ss, p :: ps => by
   rw [wcs, List.all_cons, List.all_cons, wcs_plain ss ps]
   rfl
theorem wcs_take : ∀ (ss : List Sl) (ps : List Int) (i : Nat), ss.length = ps.length -> (wcs ss ps).take (i * 2) = wcs (ss.take i) (ps.take i) /\ (wcs ss ps).drop (i * 2) = wcs (ss.drop i) (ps.drop i)
 | [], [], i, _ => by simp [wcs]
 | [], _ :: _, _, h => by simp at h
 | _ :: _, [], _, h => by simp at h
 | s :: ss, p :: ps, 0, _ => by simp [wcs]
 | s :: ss, p :: ps, i + 1, h => by
   obtain ⟨a, b⟩ := wcs_take ss ps i (by simpa using h)
   rw [show (i + 1) * 2 = i * 2 + 1 + 1 by omega]
   simp only [wcs, List.take_succ_cons, List.drop_succ_cons, a, b, and_self]
theorem wcs_app : ∀ (ss : List Sl) (ps : List Int) (ts : List Sl) (qs : List Int), ss.length = ps.length -> wcs ss ps ++ wcs ts qs = wcs (ss ++ ts) (ps ++ qs)
 | [], [], ts, qs, _ => rfl
 | [], _ :: _, _, _, h => by simp at h
 | _ :: _, [], _, _, h => by simp at h
 | s :: ss, p :: ps, ts, qs, h => by
   simp only [wcs, List.cons_append, wcs_app ss ps ts qs (by simpa using h)]
theorem OwW.of {h : Heap} {F : Nat -> Prop} {eo ei : TypeId} {s : Sl} {ws : List (List Int × Int)} (ss : List Sl) (hl : ss.length = ws.length) (hs : Ow h F eo 2 s (wcs ss (ws.map (·.2)))) (hz : ∀ p, p ∈ ss.zip ws -> Ow h F ei 1 p.1 (p.2.1.map VI)) (hp : ss.Pairwise fun a b => ∀ k, a.own k -> ¬ b.own k) (hd : ∀ a, a ∈ ss -> ∀ k, s.own k -> ¬ a.own k) : OwW h F eo ei s ws := by
 refine ⟨ss, hl, hs, fun i h1 h2 => ?_, fun i j h1 h2 hne k hk hk2 => ?_, fun i h1 k hk => hd _ (List.getElem_mem h1) k hk⟩
 · have : (ss[i], ws[i]) ∈ ss.zip ws := by
     rw [show (ss[i], ws[i]) = (ss.zip ws)[i]'(by simp; omega) by simp]
     exact List.getElem_mem _
   exact hz _ this
 · rw [List.pairwise_iff_getElem] at hp
   rcases Nat.lt_or_gt_of_ne hne with h | h
   · exact hp i j h1 h2 h k hk hk2
   · exact hp j i h2 h1 h k hk2 hk
theorem ins_walk {L : List (Nat × List Value)} {h : Heap} {F : Nat -> Prop} {m : Nat} {s x : Sl} {ws : List (List Int × Int)} {xs : List Int} {p : Int} (O : OwWS h (fun k => F k /\ k < m) s ws) (X : OwI h (fun k => m ≤ k) x xs) (hF : ∀ k, m ≤ k -> F k) (hm : m ≤ h.size) (hL : Vars h L) (hw : ws.length ≤ 1000000) {i : Int} (i0 : 0 ≤ i) (i1 : i ≤ (ws.length : Int)) (C : Sl -> Heap -> Prop)
   (HC : ∀ t h', OwWS h' F t (ws.take i.toNat ++ (xs, p) :: ws.drop i.toNat) -> Fr No h h' -> Vars h' L -> C t h') :
   ∃ J : Sl -> Heap -> Prop, (pop Tryz.prog (Instr.sliceAt tWs s.v none (some (VI i)) none) fun rv_7 => ∃ t76 : Sl, rv_7 = t76.v ∧
     (eop Tryz.prog (Instr.buildSlice tWs 0 #[]) h fun rv_8 h_14 => ∃ t73 : Sl, rv_8 = t73.v /\ Vars h_14 L ∧
     (eop Tryz.prog (appS tWs tWs tWs t73.v t76.v) h_14 fun rv_9 h_15 => ∃ t77 : Sl, rv_9 = t77.v /\ Vars h_15 L ∧
     eop Tryz.prog (Instr.buildSlice tWs 1 #[(0, (Value.agg #[x.v, VI p]))]) h_15 fun rv_10 h_16 => ∃ t79 : Sl, rv_10 = t79.v /\ Vars h_16 L ∧
     eop Tryz.prog (appS tWs tWs tWs t77.v t79.v) h_16 fun rv_11 h_17 => ∃ t80 : Sl, rv_11 = t80.v /\ Vars h_17 L /\ J t80 h_17) ∧
     (eop Tryz.prog (Instr.buildSlice tWs 1 #[(0, (Value.agg #[x.v, VI p]))]) h_14 fun rv_12 h_18 => ∃ t79 : Sl, rv_12 = t79.v /\ Vars h_18 L ∧
     eop Tryz.prog (appS tWs tWs tWs t73.v t76.v) h_18 fun rv_13 h_19 => ∃ t77 : Sl, rv_13 = t77.v /\ Vars h_19 L ∧
     eop Tryz.prog (appS tWs tWs tWs t77.v t79.v) h_19 fun rv_14 h_20 => ∃ t80 : Sl, rv_14 = t80.v /\ Vars h_20 L /\ J t80 h_20)) ∧
     (eop Tryz.prog (Instr.buildSlice tWs 1 #[(0, (Value.agg #[x.v, VI p]))]) h fun rv_15 h_21 => ∃ t79 : Sl, rv_15 = t79.v /\ Vars h_21 L ∧
     eop Tryz.prog (Instr.buildSlice tWs 0 #[]) h_21 fun rv_16 h_22 => ∃ t73 : Sl, rv_16 = t73.v /\ Vars h_22 L ∧
     eop Tryz.prog (appS tWs tWs tWs t73.v t76.v) h_22 fun rv_17 h_23 => ∃ t77 : Sl, rv_17 = t77.v /\ Vars h_23 L ∧
     eop Tryz.prog (appS tWs tWs tWs t77.v t79.v) h_23 fun rv_18 h_24 => ∃ t80 : Sl, rv_18 = t80.v /\ Vars h_24 L /\ J t80 h_24)) ∧
     ∀ (y : Sl) (h_25 : Heap), J y h_25 -> Vars h_25 L -> pop Tryz.prog (Instr.sliceAt tWs s.v (some (VI i)) none none) fun rv_19 => ∃ t84 : Sl, rv_19 = t84.v ∧
     eop Tryz.prog (appS tWs tWs tWs y.v t84.v) h_25 fun rv_20 h_26 => ∃ t85 : Sl, rv_20 = t85.v /\ Vars h_26 L /\ C t85 h_26 := by
 have sn := OwW.len O
 obtain ⟨ss, e1, h2, h3, h4, h5⟩ := O.out
 have hps : ss.length = (ws.map (·.2)).length := by simpa using e1
 have cl : (wcs ss (ws.map (·.2))).length = ws.length * 2 := by rw [wcs_length hps, e1]
 obtain ⟨wt, wd⟩ := wcs_take ss (ws.map (·.2)) i.toNat hps
 have scap : s.n ≤ s.c := h2.cap.1
 -- the two parts that are read
 have R := h2.rd
 have R1 := RdV.cut R (l := 0) (m := i.toNat) (Nat.zero_le _) (by omega)
 rw [Nat.zero_mul, List.drop_zero, Nat.sub_zero, wt] at R1
 have R2 := RdV.cut R (l := i.toNat) (m := s.n) (by omega) (Nat.le_refl _)
 rw [wd, List.take_of_length_le (by rw [wcs_length (by simp [e1]), List.length_drop, e1, sn]; omega)] at R2
 have low : ∀ k, s.own k -> k < h.size /\ F k /\ k < m := fun k hk => ⟨(h2.foot hk).2, (h2.foot hk).1⟩
 have offF : ∀ {a b : Heap}, Fr (fun k => h.size ≤ k) a b -> ∀ k, s.own k -> ¬ (fun k => h.size ≤ k) k := fun _ k hk hh => by have := (low k hk).1; omega
 have vfr : ∀ {a : Heap}, Fr (fun k => h.size ≤ k) h a -> Vars a L := fun f => hL.fr f fun q hq hk => by have := (hL.mem q hq).lt; omega
 have nofr : ∀ {a : Heap}, Fr (fun k => h.size ≤ k) h a -> Fr No h a := fun f => f.mono fun k hk hk2 => absurd hk2 (by omega)
 have n1 : (s.cut 2 0 i.toNat s.c).n = i.toNat := rfl
 have n2 : (s.cut 2 i.toNat s.n s.c).n = s.n - i.toNat := rfl
 -- the steps
 have lit0 : ∀ {a : Heap} (J : Sl -> Heap -> Prop), Fr (fun k => h.size ≤ k) h a -> (∀ t b, Ow b (fun k => h.size ≤ k) tW 2 t [] -> Fr (fun k => h.size ≤ k) h b -> Fr No a b -> (∀ k, t.own k -> a.size ≤ k) -> Vars b L -> J t b) -> eop Tryz.prog (Instr.buildSlice tWs 0 #[]) a fun rv b => ∃ t : Sl, rv = t.v /\ Vars b L /\ J t b := fun J f HJ =>
   eop_lit rWs (fun k => h.size ≤ k) (fun k hk => by have := f.size; omega) 0 (by omega) [] rfl rfl fun t b _ _ ob fb mb _ => ⟨t, rfl, vfr (f.trans fb.of_no), HJ t b ob (f.trans fb.of_no) fb mb (vfr (f.trans fb.of_no))⟩
 have lit1 : ∀ {a : Heap} (J : Sl -> Heap -> Prop), Fr (fun k => h.size ≤ k) h a -> (∀ t b, Ow b (fun k => a.size ≤ k) tW 2 t [x.v, VI p] -> t.n = 1 -> Fr (fun k => h.size ≤ k) h b -> Fr No a b -> Vars b L -> J t b) -> eop Tryz.prog (Instr.buildSlice tWs 1 #[(0, (Value.agg #[x.v, VI p]))]) a fun rv b => ∃ t : Sl, rv = t.v /\ Vars b L /\ J t b := fun J f HJ =>
   eop_lit rWs (fun k => _ ≤ k) (fun _ h => h) 1 (by omega) [x.v, VI p] rfl rfl fun t b n _ ob fb _ _ => ⟨t, rfl, vfr (f.trans fb.of_no), HJ t b ob n (f.trans fb.of_no) fb (vfr (f.trans fb.of_no))⟩
 have app : ∀ {a : Heap} {t u : Sl} {vs news : List Value} {T : Nat -> Prop} (J : Sl -> Heap -> Prop), Fr (fun k => h.size ≤ k) h a -> Ow a (fun k => h.size ≤ k) tW 2 t vs -> RdV T a 2 u news -> news.all plainV = true -> t.n + u.n ≤ 1000000000 -> (∀ y b, Ow b (fun k => h.size ≤ k) tW 2 y (vs ++ news) -> y.n = t.n + u.n -> Fr (fun k => h.size ≤ k) h b -> Fr t.own a b -> Vars b L -> J y b) -> eop Tryz.prog (appS tWs tWs tWs t.v u.v) a fun rv b => ∃ y : Sl, rv = y.v /\ Vars b L /\ J y b := fun J f O' R' hp hb HJ =>
   eop_append rWs O' (fun k hk => by have := f.size; omega) R' hp (by omega) fun y b hn ob fb _ => by
     have fb' : Fr (fun k => h.size ≤ k) _ b := fb.mono fun k _ hk => (Ow.foot O' hk).1
     exact ⟨y, rfl, vfr (f.trans fb'), HJ y b ob hn (f.trans fb') fb (vfr (f.trans fb'))⟩
 have R1at : ∀ {a : Heap}, Fr (fun k => h.size ≤ k) h a -> RdV s.own a 2 (s.cut 2 0 i.toNat s.c) (wcs (ss.take i.toNat) ((ws.map (·.2)).take i.toNat)) := fun f => RdV.fr R1 f (offF f)
 have p1 := wcs_plain (ss.take i.toNat) ((ws.map (·.2)).take i.toNat)
 have p2 := wcs_plain (ss.drop i.toNat) ((ws.map (·.2)).drop i.toNat)
 have px : [x.v, VI p].all plainV = true := rfl
 refine ⟨fun y a => Ow a (fun k => h.size ≤ k) tW 2 y (wcs (ss.take i.toNat) ((ws.map (·.2)).take i.toNat) ++ [x.v, VI p]) /\ y.n = i.toNat + 1 /\ Fr (fun k => h.size ≤ k) h a, pop_cut_h rWs .i64 i0 (by omega) ⟨_, rfl, ?_, ?_⟩, ?_⟩
 · refine lit0 _ (Fr.refl _ _) fun t a o f fa ta V => ⟨?_, ?_⟩
   · have tn : t.n = 0 := by have := o.len; simp at this; omega
     refine app _ f o (R1at f) p1 (by omega) fun t7 b o7 n7 f7 _ V7 => ?_
     refine lit1 _ f7 fun t9 c o9 n9 f9 g9 V9 => ?_
     rw [List.nil_append] at o7
     exact app _ f9 (o7.no g9) o9.rd px (by omega) fun y d oy ny fy _ Vy => ⟨oy, by omega, fy⟩
   · have tn : t.n = 0 := by have := o.len; simp at this; omega
     refine lit1 _ f fun t9 c o9 n9 f9 g9 V9 => ?_
     refine app _ f9 (o.no g9) (R1at f9) p1 (by omega) fun t7 b o7 n7 f7 g7 V7 => ?_
     rw [List.nil_append] at o7
     refine app _ f7 o7 (RdV.fr o9.rd g7 fun k hk hk2 => ?_) px (by omega) fun y d oy ny fy _ Vy => ⟨oy, by omega, fy⟩
     have h1 := (Ow.foot o hk2).2
     have h2 := (Ow.foot o9 hk).1
     (try simp only at h2)
     omega
 · refine lit1 _ (Fr.refl _ _) fun t9 c o9 n9 f9 g9 V9 => ?_
   refine lit0 _ f9 fun t a o f fa tz V => ?_
   have tn : t.n = 0 := by have := o.len; simp at this; omega
   refine app _ f o (R1at f) p1 (by omega) fun t7 b o7 n7 f7 g7 V7 => ?_
   rw [List.nil_append] at o7
   refine app _ f7 o7 (RdV.fr (RdV.no o9.rd fa) g7 fun k hk hk2 => ?_) px (by omega) fun y d oy ny fy _ Vy => ⟨oy, by omega, fy⟩
   have h1 := tz k hk2
   have h2 := (Ow.foot o9 hk).2
   omega
 · rintro y a ⟨oy, yn, fy⟩ V
   refine pop_cut_l rWs .i64 i0 (by omega) ⟨_, rfl, ?_⟩
   refine app _ fy oy (RdV.fr R2 fy (offF fy)) p2 (by omega) fun z b oz zn fz _ Vz => HC z b ?_ (nofr fz) Vz
   have hcell : wcs (ss.take i.toNat) ((ws.map (·.2)).take i.toNat) ++ [x.v, VI p] ++ wcs (ss.drop i.toNat) ((ws.map (·.2)).drop i.toNat) = wcs (ss.take i.toNat ++ x :: ss.drop i.toNat) ((ws.take i.toNat ++ (xs, p) :: ws.drop i.toNat).map (·.2)) := by
     rw [List.append_assoc, List.map_append, List.map_cons, ← List.map_take, ← List.map_drop, ← wcs_app _ _ _ _ (by simp [e1])]
     rfl
   rw [hcell] at oz
   have ex : ∀ (u : Sl) (l : List Int), Ow h (fun k => F k /\ k < m) tI 1 u (l.map VI) -> Ow b F tI 1 u (l.map VI) := fun u l H => (H.fr (nofr fz) fun _ _ x => x).mono fun k _ hk => hk.1
   have zr := List.Pairwise.imp (fun h => h) (show ss.Pairwise fun a b => ∀ k, a.own k -> ¬ b.own k from List.pairwise_iff_getElem.2 fun a b ha hb hab k hk => h4 a b ha hb (by omega) k hk)
   have zr2 : (ss.take i.toNat ++ ss.drop i.toNat).Pairwise fun a b => ∀ k, a.own k -> ¬ b.own k := by rw [List.take_append_drop]; exact zr
   rw [List.pairwise_append] at zr2
   have inn : ∀ u, u ∈ ss -> ∀ k, u.own k -> F k /\ k < m := fun u hu k hk => by
     obtain ⟨j, hj, rfl⟩ := List.getElem_of_mem hu
     exact (Ow.foot (h3 j hj (by omega)) hk).1
   have xo : ∀ k, x.own k -> m ≤ k /\ k < h.size := fun k hk => Ow.foot X hk
   refine OwW.of (ss.take i.toNat ++ x :: ss.drop i.toNat) (by simp; omega) (oz.mono fun k _ hk => hF k (by omega)) (fun q hq => ?_) ?_ fun u hu k hk hk2 => ?_
   · rw [List.zip_append (by simp [e1]), List.zip_cons_cons, List.mem_append, List.mem_cons] at hq
     rcases hq with hq | rfl | hq
     · obtain ⟨j, hj, rfl⟩ := List.getElem_of_mem hq
       rw [List.length_zip, List.length_take, List.length_take] at hj
       rw [List.getElem_zip, List.getElem_take, List.getElem_take]
       exact ex _ _ (h3 j (by omega) (by omega))
     · exact (X.fr (nofr fz) fun _ _ x => x).mono fun k _ hk => hF k hk
     · obtain ⟨j, hj, rfl⟩ := List.getElem_of_mem hq
       rw [List.length_zip, List.length_drop, List.length_drop] at hj
       rw [List.getElem_zip, List.getElem_drop, List.getElem_drop]
       exact ex _ _ (h3 (i.toNat + j) (by omega) (by omega))
   · rw [List.pairwise_append, List.pairwise_cons]
     refine ⟨zr2.1, ⟨fun u hu k hk hk2 => ?_, zr2.2.1⟩, fun u hu v hv k hk hk2 => ?_⟩
     · have := (inn u (List.mem_of_mem_drop hu) k hk2).2
       have := (xo k hk).1
       omega
     · rcases List.mem_cons.1 hv with rfl | hv
       · have := (inn u (List.mem_of_mem_take hu) k hk).2
         have := (xo k hk2).1
         omega
       · exact zr2.2.2 u hu v hv k hk hk2
   · have hz := (Ow.foot oz hk).1
     (try simp only at hz)
     rcases List.mem_append.1 hu with hu | hu
     · have := (inn u (List.mem_of_mem_take hu) k hk2).2; omega
     · rcases List.mem_cons.1 hu with rfl | hu
       · have := (xo k hk2).2; omega
       · have := (inn u (List.mem_of_mem_drop hu) k hk2).2; omega
theorem insW_map (p : Int) {w : List Int} {l : List (List Int)} {i : Nat} (hi : i ≤ l.length) (h1 : ∀ j (h : j < l.length), j < i -> ltL l[j] w = true) (h2 : ∀ h : i < l.length, ltL l[i] w = false) : (l.map fun rs => (rs, p)).take i ++ (w, p) :: (l.map fun rs => (rs, p)).drop i = (insW w l).map fun rs => (rs, p) := by
 rw [insW_cut hi h1 h2, List.map_append, List.map_cons, List.map_take, List.map_drop]
theorem insAll_step (p n : Nat) (ts : List (List Int)) (t : List Int) (out : List (List Int)) : insAll p (ts ++ [t]) n out = (rngI n).foldl (fun o k => insW (t.set p k) o) (insAll p ts n out) := by
 unfold insAll
 rw [List.foldl_append, List.foldl_cons, List.foldl_nil]
theorem ins_count (p : Nat) (t : List Int) : ∀ (ks : List Int) (out : List (List Int)), (ks.foldl (fun o k => insW (t.set p k) o) out).length = out.length + ks.length
 | [], out => by simp
 | k :: ks, out => by rw [List.foldl_cons, ins_count p t ks, insW_len, List.length_cons]; omega
theorem insAll_count (p n : Nat) : ∀ (ts out : List (List Int)), (insAll p ts n out).length = out.length + ts.length * n
 | [], out => by simp [insAll]
 | t :: ts, out => by
   have e : insAll p (t :: ts) n out = insAll p ts n ((rngI n).foldl (fun o k => insW (t.set p k) o) out) := rfl
   have ln : (rngI n).length = n := by simp [rngI]
   rw [e, insAll_count p n ts, ins_count, ln, List.length_cons, Nat.succ_mul]
   omega
theorem mem_insAll {p n L : Nat} : ∀ (ts out : List (List Int)), (∀ t, t ∈ ts -> t.length = L) -> (∀ t, t ∈ out -> t.length = L) -> ∀ x, x ∈ insAll p ts n out -> x.length = L
 | [], out, _, h, x, hx => h x hx
 | t :: ts, out, h1, h2, x, hx => by
   have e : insAll p (t :: ts) n out = insAll p ts n ((rngI n).foldl (fun o k => insW (t.set p k) o) out) := rfl
   rw [e] at hx
   refine mem_insAll ts _ (fun u hu => h1 u (List.mem_cons_of_mem _ hu)) (fun y hy => ?_) x hx
   have : ∀ (ks : List Int) (o : List (List Int)), (∀ t, t ∈ o -> t.length = L) -> ∀ y, y ∈ ks.foldl (fun o k => insW (t.set p k) o) o -> y.length = L := by
     intro ks
     induction ks with
     | nil => intro o ho y hy; exact ho y hy
     | cons k ks ih =>
       intro o ho y hy
       refine ih (insW (t.set p k) o) (fun z hz => ?_) y hy
       rcases mem_insW.1 hz with e | e
       · rw [e, List.length_set]; exact h1 t (List.mem_cons_self ..)
       · exact ho z e
   exact this _ _ h2 y hy
theorem ins_row_len {p L : Nat} {t : List Int} (ht : t.length = L) : ∀ (ks : List Int) (o : List (List Int)), (∀ t, t ∈ o -> t.length = L) -> ∀ y, y ∈ ks.foldl (fun o k => insW (t.set p k) o) o -> y.length = L := by
 intro ks
 induction ks with
 | nil => intro o ho y hy; exact ho y hy
 | cons k ks ih =>
   intro o ho y hy
   refine ih (insW (t.set p k) o) (fun z hz => ?_) y hy
   rcases mem_insW.1 hz with e | e
   · rw [e, List.length_set]; exact ht
   · exact ho z e
theorem k_spec_AllUnicycles {S : Nat -> Prop} {h : Heap} {g : Sl} {xss : List (List Int)} (G : RdR S h g xss) (p : Int) (K : KQ) (HK : ∀ t h', OwWS h' (Iv h.size h'.size) t (allUniP xss p).1 -> Fr No h h' -> K (.tuple #[t.v, VB (allUniP xss p).2]) h') : callM Tryz.prog 46 #[.agg #[g.v], VI p] h K := by
 refine v46 g p h K fun b1 h1 hb1 f1 hL1 => ?_
 have f1 := f1.in_nil
 have z1 := f1.size
 have l1 : b1 < h1.size := hL1.head.lt
 refine k_spec_grPlace (G.no f1) p _ fun h2 f2 => ⟨_, rfl, hL1.of_no f2, fun e => ?_, fun e => ?_⟩
 · have er : allUniP xss p = ([], false) := by unfold allUniP; rw [if_neg (by rw [not_t e]; simp)]
   have := HK nilSl h2 (by rw [er]; exact OwW.nil _ _ _ _) (f1.no_trans f2)
   rw [er] at this
   exact this
 have e := not_f e
 have e' := e
 rw [Bool.and_eq_true] at e'
 have pr := inR_iff.1 e'.2
 have hg := e'.1
 have gl := graph_len hg
 have p0 := pr.1
 have p1 : p < (xss.length : Int) := by omega
 have pn : p.toNat < xss.length := by omega
 have f02 := f1.no_trans f2
 have G2 := G.no f02
 obtain ⟨sp, cp, rp⟩ := G2.get p0 p1
 have spl := rp.len
 have ge : xss.getD p.toNat [] = xss[p.toNat] := getD_get pn
 have gm := graph_mem hg (List.getElem_mem pn)
 obtain ⟨ll, Q⟩ := lap_sq p0 p1
 refine ⟨G2.inb p0 p1, sp, cp, k_trLaplace G2 hg p0 p1 _ fun t h3 o3 f3 => ⟨t, rfl, (hL1.of_no f2).of_no f3, cell_keep G2 p0 p1 f3 (fun _ _ x => x) cp, ?_⟩⟩
 refine k_trDet (xss.length - 1) (OwR.rd o3) Q (by omega) (lap_small hg p0 p1) _ fun h4 f4 => ⟨_, rfl, ((hL1.of_no f2).of_no f3).of_no f4, cell_keep G2 p0 p1 (f3.no_trans f4) (fun _ _ x => x) cp, ?_⟩
 have hb := abs_le (Nat.le_trans (det_bound (lap_small hg p0 p1)) (Nat.le_trans (dbN_le (show xss.length - 1 ≤ 7 by omega)) (show dbN 7 ≤ 50400000000 by rw [dbN7]; exact Nat.le_refl _)))
 have hm : w64 (det (xss.length - 1) (matL (lapL xss p)) * (sp.n : Int)) = treesN xss p * (xss.getD p.toNat []).length := by
   have h5 : (sp.n : Int) ≤ 5 := by have := gm.1; omega
   have hm : -252000000000 ≤ det (xss.length - 1) (matL (lapL xss p)) * (sp.n : Int) /\ det (xss.length - 1) (matL (lapL xss p)) * (sp.n : Int) ≤ 252000000000 := by
     have e : sp.n = 0 ∨ sp.n = 1 ∨ sp.n = 2 ∨ sp.n = 3 ∨ sp.n = 4 ∨ sp.n = 5 := by omega
     rcases e with e | e | e | e | e | e <;> rw [e] <;> omega
   rw [w64_eq _ (by omega) (by omega), ge, ← spl]
   rfl
 rw [hm]
 have f04 := f02.no_trans (f3.no_trans f4)
 have hL4 := ((hL1.of_no f2).of_no f3).of_no f4
 refine ⟨fun e2 => ?_, fun e2 => ?_⟩
 · simp only [decide_eq_true_eq] at e2
   have er : allUniP xss p = ([], false) := by unfold allUniP; rw [if_pos e, if_neg (by omega)]
   have := HK nilSl h4 (by rw [er]; exact OwW.nil _ _ _ _) f04
   rw [er] at this
   exact this
 simp only [decide_eq_false_iff_not] at e2
 have e3 : treesN xss p * (xss.getD p.toNat []).length ≤ 300 := by omega
 have er : allUniP xss p = ((allUni xss p).map fun rs => (rs, p), true) := by unfold allUniP; rw [if_pos e, if_pos e3]
 obtain ⟨ul, tl⟩ := allUni_len hg p0 p1 e3
 obtain ⟨iu, iu2⟩ := ins_uni hg p0 p1
 rw [er] at HK
 have z4 := f04.size
 have z14 : h1.size ≤ h4.size := by have := f2.size; have := f3.size; have := f4.size; omega
 refine k_trAll (G.no f04) hg p0 p1 (mo := 300) (by omega) _ fun t5 h5 o5 f5 => ⟨t5, rfl, hL4.of_no f5, ?_⟩
 have z5 := f5.size
 have tlen : ∀ t, t ∈ treesL xss p -> t.length = xss.length := fun t ht => by
   unfold treesL at ht
   rw [List.mem_filter] at ht
   exact (mem_allRot.1 ht.1).1
 -- the trees that are gone through: all of them, if there is an exit
 generalize hts : (treesL xss p).take 301 = ts at o5
 have tsm : ∀ t, t ∈ ts -> t.length = xss.length := fun t ht => tlen t (by rw [← hts] at ht; exact List.mem_of_mem_take ht)
 have fin : insAll p.toNat ts xss[p.toNat].length [] = allUni xss p := by
   by_cases hz : xss[p.toNat].length = 0
   · have h0 : ∀ (us o : List (List Int)), insAll p.toNat us 0 o = o := by
       intro us
       induction us with
       | nil => intro o; rfl
       | cons u us ih => intro o; exact ih o
     rw [hz, h0]
     rw [ge, hz, Nat.mul_zero] at iu2
     exact (List.length_eq_zero_iff.1 iu2).symm
   · rw [← iu, ge, ← hts, List.take_of_length_le (by have := tl (by rw [ge]; exact hz); omega)]
 have T5 := OwR.rd o5
 have tsn := T5.len
 have f05 := f04.no_trans f5
 have cnt : ∀ i : Nat, (insAll p.toNat (ts.take i) xss[p.toNat].length []).length ≤ 1505 := fun i => by
   rw [insAll_count]
   have h1 : (ts.take i).length ≤ 301 := by rw [List.length_take, ← hts, List.length_take]; omega
   have h2 := Nat.mul_le_mul h1 gm.1
   simp only [List.length_nil]
   omega
 refine ⟨fun m out i h' => 0 ≤ i /\ i + m = (ts.length : Int) /\ OwWS h' (fun k => h5.size ≤ k) out ((insAll p.toNat (ts.take i.toNat) xss[p.toNat].length []).map fun rs => (rs, p)) /\ Fr (fun k => h5.size ≤ k) h5 h', ⟨ts.length, Int.le_refl _, by omega, OwW.nil _ _ _ _, Fr.refl _ _⟩, ?_⟩
 rintro m out i h6 ⟨i0, i1, o6, f6⟩ hL6
 have no_ : ∀ {x : Heap}, Fr (fun k => h5.size ≤ k) h5 x -> Fr No h5 x := fun f => f.mono fun k hk hk2 => absurd hk2 (by omega)
 have T6 := T5.no (no_ f6)
 have G6 := G.no (f05.no_trans (no_ f6))
 have z6 := f6.size
 refine ⟨fun e4 => ?_, fun e4 => ?_⟩
 · have hi := T6.lt e4
   obtain ⟨si, ci, ri⟩ := T6.get i0 hi
   have til := tsm _ (List.getElem_mem (show i.toNat < ts.length by omega))
   obtain ⟨sq, cq, rq⟩ := G6.get p0 p1
   have sql : sq.n = xss[p.toNat].length := rq.len
   refine ⟨T6.inb i0 hi, si, ci, G6.inb p0 p1, sq, cq, ?_⟩
   have cnt2 : ∀ k : Nat, k ≤ 5 -> ((rngI k).foldl (fun o c => insW ((ts[i.toNat]'(by omega)).set p.toNat c) o) (insAll p.toNat (ts.take i.toNat) xss[p.toNat].length [])).length ≤ 1510 := fun k hk => by
     rw [ins_count]
     have := cnt i.toNat
     have : (rngI k).length = k := by simp [rngI]
     omega
   refine ⟨fun m2 out2 k h' => 0 ≤ k /\ k + m2 = (xss[p.toNat].length : Int) /\ OwWS h' (fun k => h5.size ≤ k) out2 (((rngI k.toNat).foldl (fun o c => insW ((ts[i.toNat]'(by omega)).set p.toNat c) o) (insAll p.toNat (ts.take i.toNat) xss[p.toNat].length [])).map fun rs => (rs, p)) /\ Fr (fun k => h5.size ≤ k) h5 h', ⟨xss[p.toNat].length, Int.le_refl _, by omega, o6, f6⟩, ?_⟩
   rintro m2 out2 k h7 ⟨k0, k1, o7, f7⟩ hL7
   refine ⟨fun e5 => ?_, fun e5 => ?_⟩
   · simp only [decide_eq_true_eq] at e5
     have kl : k < (xss[p.toNat].length : Int) := by omega
     have k5 : k.toNat < 5 := by have := gm.1; omega
     generalize hW : (rngI k.toNat).foldl (fun o c => insW ((ts[i.toNat]'(by omega)).set p.toNat c) o) (insAll p.toNat (ts.take i.toNat) xss[p.toNat].length []) = wl at o7
     have wln : wl.length ≤ 1510 := by rw [← hW]; exact cnt2 _ (by omega)
     have wll : ∀ x, x ∈ wl -> x.length = xss.length := by
       rw [← hW]
       exact ins_row_len til _ _ fun x hx => mem_insAll _ _ (fun t ht => tsm t (List.mem_of_mem_take ht)) (fun t ht => by simp at ht) x hx
     have R7 : RdI (fun k => Iv h4.size h5.size k /\ k < h5.size) h7 si (ts[i.toNat]'(by omega)) := by
       obtain ⟨s5, c5, r5⟩ := T5.get i0 hi
       have c6 := cell_keep T5 i0 hi (no_ f6) (fun _ _ x => x) c5
       have := slv_inj (c6.symm.trans ci)
       subst this
       exact r5.no (no_ f7)
     have z7 := f7.size
     refine k_l1Own R7 (by omega) _ fun x h8 o8 f8 => ⟨x, rfl, hL7.of_no f8, ?_⟩
     have z8 := f8.size
     have xn : x.n = xss.length := by have := RdI.len o8.rdF; omega
     refine ⟨Ow.inb o8 p0 (by omega), fun b2 h10 hb2 f10 hL10 => ?_⟩
     have f10 := f10.in_nil
     have z10 := f10.size
     have l2 : b2 < h10.size := hL10.head.lt
     have o10 := Ow.no o8 f10
     obtain ⟨wr, os, fs⟩ := Ow.store1 o10 p0 (by omega) (VI k)
     have fs' : Fr (Iv h7.size h8.size) h10 (hset h10 (x.at p 1) (VI k)) := fs.mono fun q _ hq => (Ow.foot o10 hq).1
     have hL11 : Vars (hset h10 (x.at p 1) (VI k)) [(b2, [x.v, VI p]), (b1, [g.v])] := hL10.fr fs' fun q hq hk => by
       simp only [List.mem_cons, List.not_mem_nil, or_false] at hq
       rcases hq with rfl | rfl
       · have := hk.2; (try simp only at this); omega
       · have := hk.1; (try simp only at this); omega
     refine ⟨wr, hL11, ?_⟩
     intro h11 e11 hL11'
     rw [← e11] at os fs' hL11
     rw [← List.map_set] at os
     have f810 := f8.no_trans f10
     have z11 := fs'.size
     have o11 : OwWS h11 (fun q => h5.size ≤ q /\ q < h7.size) out2 (wl.map fun rs => (rs, p)) := (OwW.no (o7.mono fun q hq hF => ⟨hF, hq⟩) f810).fr fs' fun q _ hq hk => by have := hk.1; omega
     have x11 : OwI h11 (fun q => h7.size ≤ q) x ((ts[i.toNat]'(by omega)).set p.toNat k) := os.mono fun q _ hq => hq.1
     have wn := OwW.len o11
     rw [List.length_map] at wn
     have W11 := OwW.rd o11
     have X11 := x11.rdF
     have kw : w64 (k + 1) = k + 1 := w64_eq _ (by omega) (by omega)
     have nxt : ∀ (i' : Int), 0 ≤ i' -> i' ≤ (wl.length : Int) -> (∀ j (h : j < wl.length), j < i'.toNat -> ltL wl[j] ((ts[i.toNat]'(by omega)).set p.toNat k) = true) -> (∀ h : i'.toNat < wl.length, ltL wl[i'.toNat] ((ts[i.toNat]'(by omega)).set p.toNat k) = false) -> ∀ t h', OwWS h' (fun q => h5.size ≤ q) t ((wl.map fun rs => (rs, p)).take i'.toNat ++ ((ts[i.toNat]'(by omega)).set p.toNat k, p) :: (wl.map fun rs => (rs, p)).drop i'.toNat) -> Fr No h11 h' -> Vars h' [(b2, [x.v, VI p]), (b1, [g.v])] -> ∃ m' : Nat, m' < m2 /\ 0 ≤ w64 (k + 1) /\ w64 (k + 1) + m' = (xss[p.toNat].length : Int) /\ OwWS h' (fun k => h5.size ≤ k) t (((rngI (w64 (k + 1)).toNat).foldl (fun o c => insW ((ts[i.toNat]'(by omega)).set p.toNat c) o) (insAll p.toNat (ts.take i.toNat) xss[p.toNat].length [])).map fun rs => (rs, p)) /\ Fr (fun k => h5.size ≤ k) h5 h' := by
       intro i' a0 a1 a2 a3 t h' ot ft _
       rw [kw]
       refine ⟨m2 - 1, by omega, by omega, by omega, ?_, ((f7.trans f810.of_no).trans (fs'.mono fun q _ hq => by have := hq.1; omega)).trans ft.of_no⟩
       rw [insW_map p (by omega) a2 a3] at ot
       rw [show (k + 1).toNat = k.toNat + 1 by omega, rngI_snoc, List.foldl_append, List.foldl_cons, List.foldl_nil, hW, show ((k.toNat : Nat) : Int) = k by omega]
       exact ot
     refine ⟨fun m3 i' h' => h' = h11 /\ 0 ≤ i' /\ i' + m3 = (wl.length : Int) /\ ∀ j (h : j < wl.length), j < i'.toNat -> ltL wl[j] ((ts[i.toNat]'(by omega)).set p.toNat k) = true, ⟨wl.length, rfl, Int.le_refl _, by omega, fun j h hj => by omega⟩, ?_⟩
     rintro m3 i' h12 ⟨rfl, a0, a1, a2⟩ hL12
     refine ⟨fun e6 => ?_, fun e6 => ?_⟩
     · simp only [decide_eq_true_eq] at e6
       have il : i' < (wl.length : Int) := by omega
       obtain ⟨inb, sw, cw, rw_⟩ := W11.get a0 (by rw [List.length_map]; exact il)
       have hw0 : ((wl.map fun rs => (rs, p))[i'.toNat]'(by rw [List.length_map]; omega)).1 = wl[i'.toNat]'(by omega) := by rw [List.getElem_map]
       rw [hw0] at rw_
       have cw0 := cw 0 (by simp)
       refine ⟨inb, sw, cw0, k_trLess rw_ X11 (by rw [List.length_set, til]; exact wll _ (List.getElem_mem _)) _ ⟨_, rfl, hL12, fun e7 => ?_, fun e7 => ?_⟩⟩
       · rw [w64_eq _ (by omega) (by omega)]
         refine ⟨m3 - 1, by omega, rfl, by omega, by omega, fun j hj hji => ?_⟩
         by_cases hh : j < i'.toNat
         · exact a2 j hj hh
         · have : j = i'.toNat := by omega
           subst this
           exact e7
       · exact ins_walk o11 x11 (fun q hq => by omega) (by omega) hL12 (by rw [List.length_map]; omega) a0 (by rw [List.length_map]; omega) _ (nxt i' a0 (by omega) a2 fun _ => e7)
     · simp only [decide_eq_false_iff_not] at e6
       exact ins_walk o11 x11 (fun q hq => by omega) (by omega) hL12 (by rw [List.length_map]; omega) a0 (by rw [List.length_map]; omega) _ (nxt i' a0 (by omega) a2 fun hh => by omega)
   · simp only [decide_eq_false_iff_not] at e5
     have ek : k.toNat = xss[p.toNat].length := by omega
     rw [T6.succ i0 hi]
     refine ⟨m - 1, by omega, by omega, by omega, ?_, f7⟩
     rw [ek] at o7
     rw [take_snoc _ i0 hi, insAll_step]
     exact o7
 · have hi := T6.ge e4
   rw [List.take_of_length_le (by omega), fin] at o6
   exact HK out h6 (o6.mono fun k hk hF => ⟨by omega, hk⟩) (f05.fresh f6 fun k hk => by omega)
theorem lasso_uni {g : List (List Int)} {rs : List Int} {p : Int} {i d i' d' : Nat} (L : Lasso g rs p i d) (L' : Lasso g rs p i' d') : i = i' /\ d = d' := by
 have a1 := L.d1
 have a2 := L'.d1
 have e : i + d = i' + d' := by
   rcases Nat.lt_trichotomy (i + d) (i' + d') with h | h | h
   · exact absurd L.eq (L'.inj i (i + d) (by omega) h)
   · exact h
   · exact absurd L'.eq (L.inj i' (i' + d') (by omega) h)
 have e2 : i = i' := by
   rcases Nat.lt_trichotomy i i' with h | h | h
   · exact absurd (L.eq.trans (by rw [e]; exact L'.eq.symm)) (L.inj i i' h (by omega))
   · exact h
   · exact absurd (L'.eq.trans (by rw [← e]; exact L.eq.symm)) (L.inj i' i h (by omega))
 exact ⟨e2, by omega⟩
noncomputable def cyF (g : List (List Int)) (rs : List Int) (p : Int) : List Int × Bool :=
 @dite _ (0 ≤ itx g rs p g.length /\ ∃ t : Nat × Nat, Lasso g rs p t.1 t.2) (Classical.propDecidable _) (fun h => ((List.range (Classical.choose h.2).2).map fun r => itx g rs p ((Classical.choose h.2).1 + r), true)) fun _ => ([], false)
theorem cyF_none {g : List (List Int)} {rs : List Int} {p : Int} (h : itx g rs p g.length < 0) : cyF g rs p = ([], false) := by
 unfold cyF
 rw [dif_neg (fun h2 => by have := h2.1; omega)]
theorem cyF_some {g : List (List Int)} {rs : List Int} {p : Int} (h : 0 ≤ itx g rs p g.length) {i d : Nat} (L : Lasso g rs p i d) : cyF g rs p = ((List.range d).map fun r => itx g rs p (i + r), true) := by
 have h2 : 0 ≤ itx g rs p g.length /\ ∃ t : Nat × Nat, Lasso g rs p t.1 t.2 := ⟨h, (i, d), L⟩
 unfold cyF
 rw [dif_pos h2]
 obtain ⟨e1, e2⟩ := lasso_uni L (Classical.choose_spec h2.2)
 rw [← e1, ← e2]
noncomputable def cyFP (g : List (List Int)) (rs : List Int) (p : Int) : List Int × Bool := if walkB g rs p then cyF g rs p else ([], false)
theorem k_trCycle2 {S S' : Nat -> Prop} {h : Heap} {g w : Sl} {xss : List (List Int)} {rs : List Int} {a : Int} (G : RdR S h g xss) (H : RdI S' h w rs) (W : WOK xss (rs, a)) {p : Int} (h0 : 0 ≤ p) (h1 : p < (xss.length : Int)) {D : Nat} (D1 : 1 ≤ D) (hD : itx xss rs p D = p) (hDm : D ≤ xss.length) (hp : 0 ≤ itx xss rs p xss.length) (K : KQ)
   (HS : ∀ d t h', 1 ≤ d -> itx xss rs p d = p -> (∀ j, 1 ≤ j -> j < d -> itx xss rs p j ≠ p) -> RdI (fun _ => True) h' t ((List.range d).map fun r => itx xss rs p r) -> Fr No h h' -> K t.v h') : callM Tryz.prog 129 #[.agg #[g.v], w.v, VI p] h K := by
 refine v129 g w p h K fun b1 h2 hb1 f2 hL2 => ?_
 have f2 := f2.in_nil
 have l1 : b1 < h2.size := hL2.head.lt
 have z2 := f2.size
 have hgl := graph_len W.graph
 refine eop_lit rIs (fun k => h2.size ≤ k) (fun _ h => h) 1 (by omega) [VI p] rfl rfl fun t h4 n4 c4 o4 f4 m4 _ => ⟨t, rfl, hL2.of_no f4, ?_⟩
 have z4 := f4.size
 have f04 := f2.no_trans f4
 refine k_trNext (G.no f04) (H.no f04) W h0 h1 _ fun h5 f5 => ⟨_, rfl, (hL2.of_no f4).of_no f5, ?_⟩
 have z5 := f5.size
 have f05 := f04.no_trans f5
 refine ⟨fun n x q h' => ∃ m, 1 ≤ m /\ m ≤ D /\ n = D - m /\ q = itx xss rs p m /\ (∀ j, 1 ≤ j -> j < m -> itx xss rs p j ≠ p) /\ OwI h' (fun k => h2.size ≤ k) x ((List.range m).map fun r => itx xss rs p r) /\ Fr No h h' /\ h2.size ≤ h'.size, ⟨D - 1, 1, Nat.le_refl _, D1, rfl, rfl, fun j a b => by omega, by show Ow _ _ _ _ _ _; simpa [itx] using Ow.no o4 f5, f05, by omega⟩, ?_⟩
 rintro n x q h6 ⟨m, m1, m2, rfl, rfl, mj, o6, f6, z6⟩ hL6
 refine ⟨fun e => ?_, fun e => ?_⟩
 · have e := not_t e
   simp only [decide_eq_false_iff_not] at e
   have hmd : m ≠ D := fun h => e (by rw [h]; exact hD)
   refine eop_lit rIs (fun k => h6.size ≤ k) (fun _ h => h) 1 (by omega) [VI (itx xss rs p m)] rfl rfl fun u h7 n7 c7 o7 f7 m7 _ => ⟨u, rfl, hL6.of_no f7, ?_⟩
   have z7 := f7.size
   have r7 : RdI u.own h7 u [itx xss rs p m] := o7.rd
   have hxn : x.n = m := by have := RdI.len (Ow.rdF o6 : RdI _ h6 x _); simpa using this
   have off : ∀ p, p ∈ [(b1, [g.v])] -> ¬ (h2.size ≤ p.1) := fun p hp => by
     simp only [List.mem_cons, List.not_mem_nil, or_false] at hp
     subst hp
     show ¬ (h2.size ≤ b1)
     omega
   refine eop_append rIs (Ow.no o6 f7) (fun k hk => by omega) r7 (plainVI _) (by have := r7.len; simp at this; omega) fun y h8 n8 o8 f8 d8 => ⟨y, rfl, (hL6.of_no f7).fr f8 (fun p hp hk => off p hp (o6.foot hk).1), ?_⟩
   have z8 := f8.size
   have f08 : Fr No h h8 := (f6.no_trans f7).fresh f8 fun k hk => by have := (o6.foot hk).1; omega
   refine k_trNext (G.no f08) (H.no f08) W (itx_nn W h0 h1 hp _) (itx_lt W h0 h1 _).2 _ fun h9 f9 => ⟨_, rfl, ((hL6.of_no f7).fr f8 (fun p hp hk => off p hp (o6.foot hk).1)).of_no f9, ?_⟩
   have z9 := f9.size
   rw [← List.map_append] at o8
   refine ⟨D - (m + 1), by omega, m + 1, by omega, by omega, rfl, rfl, fun j a b => ?_, ?_, f08.no_trans f9, by omega⟩
   · by_cases hj : j < m
     · exact mj j a hj
     · obtain rfl : j = m := by omega
       exact e
   · rw [List.range_succ, List.map_append, List.map_cons, List.map_nil]
     exact Ow.no o8 f9
 · have e := not_f e
   simp only [decide_eq_true_eq] at e
   exact HS m x h6 m1 e mj ((Ow.rdF o6 : RdI _ h6 x _).mono fun _ _ => trivial) f6
theorem k_trCycleFrom {S S' : Nat -> Prop} {h : Heap} {g w : Sl} {xss : List (List Int)} {rs : List Int} {p : Int} (G : RdR S h g xss) (H : RdI S' h w rs) (W : WOK xss (rs, p)) (K : KQ) (HK : ∀ t h', RdI (fun _ => True) h' t (cyF xss rs p).1 -> Fr No h h' -> K (.tuple #[t.v, VB (cyF xss rs p).2]) h') : callM Tryz.prog 81 #[.agg #[g.v], .agg #[w.v, VI p]] h K := by
 have h0 : 0 ≤ p := W.lo
 have h1 : p < (xss.length : Int) := W.hi
 refine v81 g w p h K fun b1 b2 h2 hb1 hb2 f2 hL2 => ?_
 have f2 := f2.in_nil
 refine k_trCycle (G.no f2) (H.no f2) W h0 h1 _ (fun hn h3 f3 => ⟨nilSl, false, rfl, hL2.of_no f3, fun _ => ?_, fun e => by simp at e⟩) fun hn t xs h3 hx r3 f3 => ⟨t, true, rfl, hL2.of_no f3, fun e => by simp at e, fun _ => ?_⟩
 · rw [cyF_none hn] at HK
   exact HK nilSl h3 ((Ow.nil _ _ _ _ : OwI h3 (fun _ => True) nilSl []).rdF) (f2.no_trans f3)
 refine ⟨fun n q h' => ∃ m, m ≤ xss.length /\ n = xss.length - m /\ q = itx xss rs p m /\ (∀ j, j < m -> itx xss rs p j ∉ xs) /\ Fr No h h' /\ RdI (fun _ => True) h' t xs, ⟨xss.length, 0, by omega, rfl, rfl, fun j hj => by omega, f2.no_trans f3, r3⟩, ?_⟩
 rintro n q h4 ⟨m, hm, rfl, rfl, mj, f4, r4⟩ hL4
 refine k_l1Has r4 _ _ ⟨_, rfl, hL4, fun e => ?_, fun e => ?_⟩
 · have e := not_t e
   simp only [decide_eq_false_iff_not] at e
   have hm2 : m < xss.length := by
     by_cases hx2 : m < xss.length
     · exact hx2
     · obtain rfl : m = xss.length := by omega
       exact absurd ((hx _).2 ⟨_, Nat.le_refl _, rfl⟩) e
   refine k_trNext (G.no f4) (H.no f4) W (itx_nn W h0 h1 hn _) (itx_lt W h0 h1 _).2 _ fun h6 f6 => ⟨_, rfl, hL4.of_no f6, xss.length - (m + 1), by omega, m + 1, by omega, rfl, rfl, fun j hj => ?_, f4.no_trans f6, r4.no f6⟩
   by_cases hj2 : j < m
   · exact mj j hj2
   · obtain rfl : j = m := by omega
     exact e
 · have e := not_f e
   simp only [decide_eq_true_eq] at e
   obtain ⟨k0, hk0, ek0⟩ := (hx _).1 e
   obtain ⟨i9, d9, c1, c2, c3⟩ := itx_cyc W h0 h1 hn
   have hper : itx xss rs p (m + d9) = itx xss rs p m := by
     have e1 := itx_shift ek0 d9
     have e2 := itx_per c3 (k0 - i9) 1
     rw [show i9 + (k0 - i9) = k0 by omega, Nat.mul_one] at e2
     rw [← e1, e2, ek0]
   refine k_trCycle2 (G.no f4) (H.no f4) W (itx_nn W h0 h1 hn m) (itx_lt W h0 h1 m).2 (D := d9) c1 (by rw [← itx_add2]; exact hper) (by omega) (by rw [← itx_add2]; exact itx_nn W h0 h1 hn _) _ fun d t2 h7 d1 dd dj r7 f7 => ⟨t2, rfl, hL4.of_no f7, ?_⟩
   have L : Lasso xss rs p m d := ⟨d1, by rw [itx_add2]; exact dd.symm, fun a b ab bm ee => by
     by_cases ha : a < m
     · refine mj a ha ((hx _).2 ⟨a + (b - a) * xss.length, ?_, ?_⟩)
       · have : 1 * xss.length ≤ (b - a) * xss.length := Nat.mul_le_mul_right _ (by omega)
         omega
       · have := itx_per (g := xss) (rs := rs) (p := p) (i := a) (d := b - a) (by rw [show a + (b - a) = b by omega]; exact ee) 0 xss.length
         simpa using this
     · have e1 := itx_shift ee (m + d - b)
       rw [show b + (m + d - b) = m + d by omega, itx_add2 p m d, dd] at e1
       refine dj (a + (m + d - b) - m) (by omega) (by omega) ?_
       rw [← itx_add2, show m + (a + (m + d - b) - m) = a + (m + d - b) by omega]
       exact e1⟩
   rw [cyF_some hn L] at HK
   refine HK t2 h7 ?_ (f4.no_trans f7)
   simp only [itx_add2]
   exact r7
theorem k_impl_CycleFrom {S S' : Nat -> Prop} {h : Heap} {g w : Sl} {xss : List (List Int)} {rs : List Int} (G : RdR S h g xss) (H : RdI S' h w rs) (p : Int) (K : KQ) (HK : ∀ t h', RdI (fun _ => True) h' t (cyFP xss rs p).1 -> Fr No h h' -> K (.tuple #[t.v, VB (cyFP xss rs p).2]) h') : callM Tryz.prog 31 #[.agg #[g.v], .agg #[w.v, VI p]] h K := by
 refine v31 g w p h K fun b1 b2 h2 hb1 hb2 f2 hL2 => ?_
 have f2 := f2.in_nil
 refine k_isWalk (G.no f2) (H.no f2) p _ fun h3 f3 => ⟨_, rfl, hL2.of_no f3, fun e => ?_, fun e => ?_⟩
 · have er : cyFP xss rs p = ([], false) := by unfold cyFP; rw [if_neg (by rw [not_t e]; simp)]
   rw [er] at HK
   exact HK nilSl h3 ((Ow.nil _ _ _ _ : OwI h3 (fun _ => True) nilSl []).rdF) (f2.no_trans f3)
 have e := not_f e
 have W := wok_of e
 have er : cyFP xss rs p = cyF xss rs p := by unfold cyFP; rw [if_pos e]
 rw [er] at HK
 have f03 := f2.no_trans f3
 refine k_cycleFromX (G.no f03) (H.no f03) W W.lo W.hi _ (fun hn h4 f4 => ⟨nilSl, false, rfl, (hL2.of_no f3).of_no f4, ?_⟩) fun hn i d t h4 L _ r4 f4 => ⟨t, true, rfl, (hL2.of_no f3).of_no f4, ?_⟩
 · rw [cyF_none hn] at HK
   exact HK nilSl h4 ((Ow.nil _ _ _ _ : OwI h4 (fun _ => True) nilSl []).rdF) (f03.no_trans f4)
 · rw [cyF_some hn L] at HK
   exact HK t h4 r4 (f03.no_trans f4)
theorem k_spec_CycleFrom {S S' : Nat -> Prop} {h : Heap} {g w : Sl} {xss : List (List Int)} {rs : List Int} (G : RdR S h g xss) (H : RdI S' h w rs) (p : Int) (K : KQ) (HK : ∀ t h', RdI (fun _ => True) h' t (cyFP xss rs p).1 -> Fr No h h' -> K (.tuple #[t.v, VB (cyFP xss rs p).2]) h') : callM Tryz.prog 32 #[.agg #[g.v], .agg #[w.v, VI p]] h K := by
 refine v32 g w p h K fun b1 b2 h2 hb1 hb2 f2 hL2 => ?_
 have f2 := f2.in_nil
 refine k_spec_waGood (G.no f2) (H.no f2) p _ fun h3 f3 => ⟨_, rfl, hL2.of_no f3, fun e => ?_, fun e => ?_⟩
 · have er : cyFP xss rs p = ([], false) := by unfold cyFP; rw [if_neg (by rw [not_t e]; simp)]
   rw [er] at HK
   exact HK nilSl h3 ((Ow.nil _ _ _ _ : OwI h3 (fun _ => True) nilSl []).rdF) (f2.no_trans f3)
 have e := not_f e
 have W := wok_of e
 have er : cyFP xss rs p = cyF xss rs p := by unfold cyFP; rw [if_pos e]
 rw [er] at HK
 have f03 := f2.no_trans f3
 exact k_trCycleFrom (G.no f03) (H.no f03) W _ fun t h4 r4 f4 => ⟨t, _, rfl, (hL2.of_no f3).of_no f4, HK t h4 r4 (f03.no_trans f4)⟩
theorem k_spec_IsUnicycle {S S' : Nat -> Prop} {h : Heap} {g w : Sl} {xss : List (List Int)} {rs : List Int} (G : RdR S h g xss) (H : RdI S' h w rs) (p : Int) (K : KQ) (HK : ∀ h', Fr No h h' -> K (.tuple #[VB (walkB xss rs p && uniB xss rs p), VB (walkB xss rs p)]) h') : callM Tryz.prog 28 #[.agg #[g.v], .agg #[w.v, VI p]] h K := by
 refine v28 g w p h K fun b1 b2 h2 hb1 hb2 f2 hL2 => ?_
 have f2 := f2.in_nil
 refine k_spec_waGood (G.no f2) (H.no f2) p _ fun h3 f3 => ⟨_, rfl, hL2.of_no f3, fun e => ?_, fun e => ?_⟩
 · rw [not_t e] at HK
   exact HK h3 (f2.trans f3)
 · rw [not_f e] at HK
   have f03 := f2.trans f3
   refine k_trUni (G.no f03) (H.no f03) (wok_of (not_f e)) _ fun h4 f4 => ⟨_, rfl, (hL2.of_no f3).of_no f4, ?_⟩
   rw [Bool.true_and] at HK
   exact HK h4 (f03.trans f4)
noncomputable def touP (g : List (List Int)) (rs : List Int) (p : Int) : List Int × Bool := if walkB g rs p && uniB g rs p then (rs.set p.toNat 0, true) else ([], false)
theorem k_impl_TreeOfUnicycle {S S' : Nat -> Prop} {h : Heap} {g w : Sl} {xss : List (List Int)} {rs : List Int} (G : RdR S h g xss) (H : RdI S' h w rs) (p : Int) (K : KQ) (HK : ∀ t h', OwI h' (Iv h.size h'.size) t (touP xss rs p).1 -> Fr No h h' -> K (.tuple #[t.v, VB (touP xss rs p).2]) h') : callM Tryz.prog 29 #[.agg #[g.v], .agg #[w.v, VI p]] h K := by
 refine v29 g w p h K fun b1 b2 h2 hb1 hb2 f2 hL2 => ?_
 have f2 := f2.in_nil
 have l2 : b2 < h2.size := hL2.head.lt
 have l1 : b1 < h2.size := hL2.tail.head.lt
 refine k_isWalk (G.no f2) (H.no f2) p _ fun h3 f3 => ⟨_, rfl, hL2.of_no f3, fun e => ?_, fun e => ?_⟩
 · have er : touP xss rs p = ([], false) := by unfold touP; rw [not_t e]; rfl
   rw [er] at HK
   exact HK nilSl h3 (Ow.nil _ _ _ _) (f2.no_trans f3)
 have e := not_f e
 have W := wok_of e
 have f03 := f2.no_trans f3
 refine k_isUnicycle (G.no f03) (H.no f03) W _ fun h4 f4 => ⟨_, rfl, (hL2.of_no f3).of_no f4, fun e2 => ?_, fun e2 => ?_⟩
 · have er : touP xss rs p = ([], false) := by unfold touP; rw [not_t e2, Bool.and_false]; rfl
   rw [er] at HK
   exact HK nilSl h4 (Ow.nil _ _ _ _) (f03.no_trans f4)
 have er : touP xss rs p = (rs.set p.toNat 0, true) := by unfold touP; rw [e, not_f e2]; rfl
 rw [er] at HK
 have f04 := f03.no_trans f4
 have wl : rs.length = xss.length := W.len
 have gl := graph_len W.graph
 have z4 : h2.size ≤ h4.size := by have := f3.size; have := f4.size; omega
 refine k_Clone (H.no f04) (by omega) _ fun t h5 o5 f5 => ⟨t, rfl, ((hL2.of_no f3).of_no f4).of_no f5, ?_⟩
 have z04 := f04.size
 refine int_set o5 W.lo (by have := W.hi; rw [wl]; exact this) (((hL2.of_no f3).of_no f4).of_no f5) (fun q hq hk => by
   have := hk.1
   simp only [List.mem_cons, List.not_mem_nil, or_false] at hq
   rcases hq with rfl | rfl
   · (try simp only at this); omega
   · (try simp only at this); omega) _ fun h6 o6 f6 _ => ?_
 have z6 := f6.size
 exact HK t h6 (o6.mono fun k _ hk => ⟨by have := hk.1; omega, by have := hk.2; omega⟩) ((f04.no_trans f5).fresh f6 fun k hk => by have := hk.1; omega)
theorem k_spec_TreeOfUnicycle {S S' : Nat -> Prop} {h : Heap} {g w : Sl} {xss : List (List Int)} {rs : List Int} (G : RdR S h g xss) (H : RdI S' h w rs) (p : Int) (K : KQ) (HK : ∀ t h', OwI h' (Iv h.size h'.size) t (touP xss rs p).1 -> Fr No h h' -> K (.tuple #[t.v, VB (touP xss rs p).2]) h') : callM Tryz.prog 30 #[.agg #[g.v], .agg #[w.v, VI p]] h K := by
 refine v30 g w p h K fun b1 b2 h2 hb1 hb2 f2 hL2 => ?_
 have f2 := f2.in_nil
 have l2 : b2 < h2.size := hL2.head.lt
 have l1 : b1 < h2.size := hL2.tail.head.lt
 refine k_spec_waGood (G.no f2) (H.no f2) p _ fun h3 f3 => ⟨_, rfl, hL2.of_no f3, fun e => ?_, fun e => ?_⟩
 · have er : touP xss rs p = ([], false) := by unfold touP; rw [not_t e]; rfl
   rw [er] at HK
   exact HK nilSl h3 (Ow.nil _ _ _ _) (f2.no_trans f3)
 have e := not_f e
 have W := wok_of e
 have f03 := f2.no_trans f3
 refine k_trUni (G.no f03) (H.no f03) W _ fun h4 f4 => ⟨_, rfl, (hL2.of_no f3).of_no f4, fun e2 => ?_, fun e2 => ?_⟩
 · have er : touP xss rs p = ([], false) := by unfold touP; rw [not_t e2, Bool.and_false]; rfl
   rw [er] at HK
   exact HK nilSl h4 (Ow.nil _ _ _ _) (f03.no_trans f4)
 have er : touP xss rs p = (rs.set p.toNat 0, true) := by unfold touP; rw [e, not_f e2]; rfl
 rw [er] at HK
 have f04 := f03.no_trans f4
 have wl : rs.length = xss.length := W.len
 have gl := graph_len W.graph
 have z4 : h2.size ≤ h4.size := by have := f3.size; have := f4.size; omega
 refine k_l1Own (H.no f04) (by omega) _ fun t h5 o5 f5 => ⟨t, rfl, ((hL2.of_no f3).of_no f4).of_no f5, ?_⟩
 have z04 := f04.size
 refine int_set o5 W.lo (by have := W.hi; rw [wl]; exact this) (((hL2.of_no f3).of_no f4).of_no f5) (fun q hq hk => by
   have := hk.1
   simp only [List.mem_cons, List.not_mem_nil, or_false] at hq
   rcases hq with rfl | rfl
   · (try simp only at this); omega
   · (try simp only at this); omega) _ fun h6 o6 f6 _ => ?_
 have z6 := f6.size
 exact HK t h6 (o6.mono fun k _ hk => ⟨by have := hk.1; omega, by have := hk.2; omega⟩) ((f04.no_trans f5).fresh f6 fun k hk => by have := hk.1; omega)
theorem walkB_pl2 {g : List (List Int)} {p : Int} {rs : List Int} (h : (graphB g && inR 0 ((g.length : Int) - 1) p) = true) : walkB g rs p = walkB g rs 0 := by
 rw [Bool.and_eq_true] at h
 have gl := graph_len h.1
 have h0 : inR 0 ((g.length : Int) - 1) 0 = true := inR_iff.2 ⟨Int.le_refl _, by omega⟩
 unfold walkB
 rw [h.2, h0]
theorem k_trFar {S S' : Nat -> Prop} {h : Heap} {g w : Sl} {xss : List (List Int)} {rs : List Int} {a : Int} (G : RdR S h g xss) (H : RdI S' h w rs) (W : WOK xss (rs, a)) {s : Int} (s0 : 0 ≤ s) {p : Int} (h0 : 0 ≤ p) (h1 : p < (xss.length : Int)) (K : KQ)
   (HN : (∀ m, m < xss.length -> itx xss rs p m ≠ s) -> ∀ h', Fr No h h' -> K (VI (-1)) h')
   (HS : ∀ m : Nat, m < xss.length -> itx xss rs p m = s -> (∀ j, j < m -> itx xss rs p j ≠ s) -> ∀ h', Fr No h h' -> K (VI m) h') : callM Tryz.prog 138 #[.agg #[g.v], VI s, w.v, VI p] h K := by
 refine v138 g s w p h K fun b1 h2 hb1 f2 hL2 => ?_
 have f2 := f2.in_nil
 have hgl := graph_len W.graph
 refine ⟨fun n q i h' => ∃ m : Nat, i = (m : Int) /\ m ≤ xss.length /\ n = xss.length - m /\ q = itx xss rs p m /\ 0 ≤ q /\ (∀ j, j < m -> itx xss rs p j ≠ s) /\ Fr No h h', ⟨xss.length, 0, rfl, by omega, rfl, rfl, h0, fun j hj => by omega, f2⟩, ?_⟩
 rintro n q i h3 ⟨m, rfl, hm, rfl, rfl, q0, mj, f3⟩ hL3
 refine ⟨fun e => ⟨fun e2 => ?_, fun e2 => ?_⟩, fun e => ?_⟩
 · have hi := (G.no f3).lt e
   simp only [decide_eq_true_eq] at e2
   exact HS m (by omega) e2 mj h3 f3
 · have hi := (G.no f3).lt e
   simp only [decide_eq_false_iff_not] at e2
   have mj2 : ∀ j, j < m + 1 -> itx xss rs p j ≠ s := fun j hj => by
     by_cases hj2 : j < m
     · exact mj j hj2
     · obtain rfl : j = m := by omega
       exact e2
   refine k_trNext (G.no f3) (H.no f3) W q0 (itx_lt W h0 h1 _).2 _ fun h4 f4 => ⟨_, rfl, hL3.of_no f4, fun e3 => ?_, fun e3 => ?_⟩
   · simp only [decide_eq_true_eq] at e3
     refine HN (fun j hj => ?_) h4 (f3.no_trans f4)
     by_cases hj2 : j < m + 1
     · exact mj2 j hj2
     · have : itx xss rs p j < 0 := itx_neg_mono (k := m + 1) (by rw [itx]; exact e3) (by omega)
       omega
   · simp only [decide_eq_false_iff_not] at e3
     rw [w64_eq _ (by omega) (by omega)]
     exact ⟨xss.length - (m + 1), by omega, m + 1, by omega, by omega, rfl, rfl, by omega, mj2, f3.no_trans f4⟩
 · have hi := (G.no f3).ge e
   obtain rfl : m = xss.length := by omega
   exact HN mj h3 f3
theorem k_trIs {S S' : Nat -> Prop} {h : Heap} {g w : Sl} {xss : List (List Int)} {rs : List Int} {a : Int} (G : RdR S h g xss) (H : RdI S' h w rs) (W : WOK xss (rs, a)) {s : Int} (s0 : 0 ≤ s) : Ret Tryz.prog 103 #[.agg #[g.v], VI s, w.v] h (VB (treeB xss rs s)) := by
 intro K HK
 refine v103 g s w h K fun b1 h2 hb1 f2 hL2 => ?_
 have f2 := f2.in_nil
 refine ⟨fun n i h' => 0 ≤ i /\ i + n = (xss.length : Int) /\ (∀ p : Nat, (p : Int) < i -> ∃ k, itx xss rs p k = s) /\ Fr No h h', ⟨xss.length, by omega, by omega, fun p hp => by omega, f2⟩, ?_⟩
 rintro n i h3 ⟨i0, i1, i2, f3⟩ hL3
 refine ⟨fun e => ?_, fun e => ?_⟩
 · have hi := (G.no f3).lt e
   have ei : ((i.toNat : Nat) : Int) = i := by omega
   refine k_trFar (G.no f3) (H.no f3) W s0 i0 hi _ (fun hn h4 f4 => ⟨_, rfl, hL3.of_no f4, fun _ => ?_, fun e => by simp at e⟩) fun m hm em _ h4 f4 => ⟨_, rfl, hL3.of_no f4, fun e => ?_, fun _ => ?_⟩
   · have ef : treeB xss rs s = false := by
       rw [Bool.eq_false_iff]
       intro ht
       obtain ⟨k, hk⟩ := (treeB_iff W s0).1 ht i.toNat (by omega)
       rw [ei] at hk
       obtain ⟨m, m1, m2⟩ := reach_low W i0 hi s0 hk
       exact hn m m1 m2
     rw [ef] at HK
     exact HK h4 (f3.no_trans f4)
   · simp only [decide_eq_true_eq] at e
     omega
   · rw [(G.no f3).succ i0 hi]
     refine ⟨n - 1, by omega, by omega, by omega, fun p hp => ?_, f3.no_trans f4⟩
     by_cases hp2 : (p : Int) < i
     · exact i2 p hp2
     · have : (p : Int) = i := by omega
       rw [this]
       exact ⟨m, em⟩
 · have hi := (G.no f3).ge e
   rw [(treeB_iff W s0).2 fun p hp => i2 p (by omega)] at HK
   exact HK h3 f3
theorem k_trGood {S S' : Nat -> Prop} {h : Heap} {g w : Sl} {xss : List (List Int)} {rs : List Int} (G : RdR S h g xss) (H : RdI S' h w rs) (s : Int) : Ret Tryz.prog 102 #[.agg #[g.v], VI s, w.v] h (VB (sinkrB xss s rs)) := by
 intro K HK
 refine v102 g s w h K fun b1 h2 hb1 f2 hL2 => ?_
 have f2 := f2.in_nil
 refine k_spec_grPlace (G.no f2) s _ fun h3 f3 => ⟨_, rfl, hL2.of_no f3, fun e => ?_, fun e => ?_⟩
 · have f03 := f2.no_trans f3
   refine k_spec_waGood (G.no f03) (H.no f03) s _ fun h4 f4 => ⟨_, rfl, (hL2.of_no f3).of_no f4, fun e2 => ?_, fun e2 => ?_⟩
   · have f04 := f03.no_trans f4
     have W := wok_of e2
     have wl : rs.length = xss.length := W.len
     have s0 : 0 ≤ s := W.lo
     have s1 : s < (xss.length : Int) := W.hi
     have H4 := H.no f04
     refine ⟨H4.inb s0 (by omega), _, H4.get s0 (by omega), ?_⟩
     have er : sinkrB xss s rs = decide (rs[s.toNat]'(by omega) = 0) := by
       unfold sinkrB
       rw [e, ← walkB_pl2 e, e2, getD_getI (show s.toNat < rs.length by omega), Bool.true_and, Bool.true_and]
     rw [er] at HK
     exact HK h4 f04
   · have er : sinkrB xss s rs = false := by unfold sinkrB; rw [← walkB_pl2 e, e2, Bool.false_and, Bool.and_false]
     rw [er] at HK
     exact HK h4 (f03.no_trans f4)
 · have er : sinkrB xss s rs = false := by unfold sinkrB; rw [e, Bool.false_and]
   rw [er] at HK
   exact HK h3 (f2.no_trans f3)
def uotP (g : List (List Int)) (s : Int) (rs : List Int) (k : Int) : (List Int × Int) × Bool := if sinkrB g s rs && (treeB g rs s && inR 0 (((g.getD s.toNat []).length : Int) - 1) k) then ((rs.set s.toNat k, s), true) else (([], 0), false)
theorem k_impl_UnicycleOfTree {S S' : Nat -> Prop} {h : Heap} {g w : Sl} {xss : List (List Int)} {rs : List Int} (G : RdR S h g xss) (H : RdI S' h w rs) (s k : Int) (K : KQ) (HK : ∀ t h', OwI h' (Iv h.size h'.size) t (uotP xss s rs k).1.1 -> Fr No h h' -> K (.tuple #[.agg #[t.v, VI (uotP xss s rs k).1.2], VB (uotP xss s rs k).2]) h') : callM Tryz.prog 35 #[.agg #[g.v], VI s, w.v, VI k] h K := by
 refine v35 g s w k h K fun b1 b2 h2 hb1 hb2 f2 hL2 => ?_
 have f2 := f2.in_nil
 have z2 := f2.size
 have l2 : b2 < h2.size := hL2.head.lt
 have l1 : b1 < h2.size := hL2.tail.head.lt
 have e2' : ∀ q, In [b2] q -> q = b2 := fun q hq => by simpa [In] using hq
 have out : ∀ {x y : Heap}, Fr No h x -> Fr (In [b2]) x y -> Fr No h y := fun f f' => f.fresh f' fun q hq => by rw [e2' q hq]; exact hb2
 refine k_areSinkRotors (G.no f2) (H.no f2) s _ fun h3 f3 => ⟨_, rfl, hL2.of_no f3, fun e h13 f13 _ => ?_, fun e => ?_⟩
 · have er : uotP xss s rs k = (([], 0), false) := by unfold uotP; rw [not_t e]; rfl
   rw [er] at HK
   exact HK nilSl h13 (Ow.nil _ _ _ _) (out (f2.no_trans f3) f13)
 have e := not_f e
 have e' := e
 unfold sinkrB at e'
 obtain ⟨ea, eb⟩ := Bool.and_eq_true_iff.1 e'
 have W : WOK xss (rs, s) := wok_of (by rw [walkB_pl2 ea]; exact (Bool.and_eq_true_iff.1 eb).1)
 have wl : rs.length = xss.length := W.len
 have gl := graph_len W.graph
 have s0 : 0 ≤ s := W.lo
 have s1 : s < (xss.length : Int) := W.hi
 have f03 := f2.no_trans f3
 refine k_isTree (G.no f03) (H.no f03) W (by omega) s _ fun h4 f4 => ⟨_, rfl, (hL2.of_no f3).of_no f4, fun e3 h13 f13 _ => ?_, fun e3 => ?_⟩
 · have er : uotP xss s rs k = (([], 0), false) := by unfold uotP; rw [not_t e3, Bool.false_and, Bool.and_false]; rfl
   rw [er] at HK
   exact HK nilSl h13 (Ow.nil _ _ _ _) (out (f03.no_trans f4) f13)
 have e3 := not_f e3
 have f04 := f03.no_trans f4
 have G4 := G.no f04
 have hL4 := (hL2.of_no f3).of_no f4
 obtain ⟨sp, cp, rp⟩ := G4.get s0 s1
 have spl := rp.len
 have ge : xss.getD s.toNat [] = xss[s.toNat]'(by omega) := getD_get (by omega)
 have gm := graph_mem W.graph (List.getElem_mem (show s.toNat < xss.length by omega))
 refine ⟨G4.inb s0 s1, sp, cp, ?_⟩
 rw [w64_eq _ (by omega) (by omega)]
 refine k_impl_in k 0 ((sp.n : Int) - 1) h4 _ ⟨_, rfl, hL4, fun e4 h13 f13 _ => ?_, fun e4 => ?_⟩
 · have e4 : inR 0 ((sp.n : Int) - 1) k = false := not_t e4
   have er : uotP xss s rs k = (([], 0), false) := by unfold uotP; rw [ge, ← spl, e4, Bool.and_false, Bool.and_false]; rfl
   rw [er] at HK
   exact HK nilSl h13 (Ow.nil _ _ _ _) (out f04 f13)
 have e4 : inR 0 ((sp.n : Int) - 1) k = true := not_f e4
 have er : uotP xss s rs k = ((rs.set s.toNat k, s), true) := by unfold uotP; rw [ge, ← spl, e4, e, e3]; rfl
 rw [er] at HK
 have z04 := f04.size
 have z24 : h2.size ≤ h4.size := by have := f3.size; have := f4.size; omega
 refine k_Clone (H.no f04) (by omega) _ fun t h5 o5 f5 => ?_
 have r5 : RdI (Iv h4.size h5.size) h5 t rs := o5.rdF
 refine ⟨t, rfl, hL4.of_no f5, r5.inb s0 (by omega), fun b3 h9 hb3 f9 hL9 => ?_⟩
 have f9 := f9.in_nil
 have z9 := f9.size
 have o9 : OwI h9 (Iv h4.size h5.size) t rs := Ow.no o5 f9
 refine (int_set o9 s0 (by omega) hL9 (fun q hq hk => by
   have hk1 := hk.1
   have hk2 := hk.2
   simp only [List.mem_cons, List.not_mem_nil, or_false] at hq
   rcases hq with rfl | rfl | rfl
   · (try simp only at hk2); omega
   · (try simp only at hk1); omega
   · (try simp only at hk1); omega) _ fun h6 o6 f6 _ h11 f11 _ => ?_).2
 have z6 := f6.size
 have z11 := f11.size
 refine HK t h11 ((Ow.fr o6 f11 fun q hq hq2 => ?_).mono fun q _ hq => ⟨by have := hq.1; omega, by have := hq.2; omega⟩) (out (((f04.no_trans f5).no_trans f9).fresh f6 fun q hq => by have := hq.1; omega) f11)
 have h7 := (Ow.foot o6 hq).1.1
 rw [e2' q hq2] at h7
 omega
theorem k_spec_UnicycleOfTree {S S' : Nat -> Prop} {h : Heap} {g w : Sl} {xss : List (List Int)} {rs : List Int} (G : RdR S h g xss) (H : RdI S' h w rs) (s k : Int) (K : KQ) (HK : ∀ t h', OwI h' (Iv h.size h'.size) t (uotP xss s rs k).1.1 -> Fr No h h' -> K (.tuple #[.agg #[t.v, VI (uotP xss s rs k).1.2], VB (uotP xss s rs k).2]) h') : callM Tryz.prog 48 #[.agg #[g.v], VI s, w.v, VI k] h K := by
 refine v48 g s w k h K fun b1 b2 h2 hb1 hb2 f2 hL2 => ?_
 have f2 := f2.in_nil
 have z2 := f2.size
 have l2 : b2 < h2.size := hL2.head.lt
 have l1 : b1 < h2.size := hL2.tail.head.lt
 have e2' : ∀ q, In [b2] q -> q = b2 := fun q hq => by simpa [In] using hq
 have out : ∀ {x y : Heap}, Fr No h x -> Fr (In [b2]) x y -> Fr No h y := fun f f' => f.fresh f' fun q hq => by rw [e2' q hq]; exact hb2
 refine k_trGood (G.no f2) (H.no f2) s _ fun h3 f3 => ⟨_, rfl, hL2.of_no f3, fun e h13 f13 _ => ?_, fun e => ?_⟩
 · have er : uotP xss s rs k = (([], 0), false) := by unfold uotP; rw [not_t e]; rfl
   rw [er] at HK
   exact HK nilSl h13 (Ow.nil _ _ _ _) (out (f2.no_trans f3) f13)
 have e := not_f e
 have e' := e
 unfold sinkrB at e'
 obtain ⟨ea, eb⟩ := Bool.and_eq_true_iff.1 e'
 have W : WOK xss (rs, s) := wok_of (by rw [walkB_pl2 ea]; exact (Bool.and_eq_true_iff.1 eb).1)
 have wl : rs.length = xss.length := W.len
 have gl := graph_len W.graph
 have s0 : 0 ≤ s := W.lo
 have s1 : s < (xss.length : Int) := W.hi
 have f03 := f2.no_trans f3
 refine k_trIs (G.no f03) (H.no f03) W s0 _ fun h4 f4 => ⟨_, rfl, (hL2.of_no f3).of_no f4, fun e3 h13 f13 _ => ?_, fun e3 => ?_⟩
 · have er : uotP xss s rs k = (([], 0), false) := by unfold uotP; rw [not_t e3, Bool.false_and, Bool.and_false]; rfl
   rw [er] at HK
   exact HK nilSl h13 (Ow.nil _ _ _ _) (out (f03.no_trans f4) f13)
 have e3 := not_f e3
 have f04 := f03.no_trans f4
 have G4 := G.no f04
 have hL4 := (hL2.of_no f3).of_no f4
 obtain ⟨sp, cp, rp⟩ := G4.get s0 s1
 have spl := rp.len
 have ge : xss.getD s.toNat [] = xss[s.toNat]'(by omega) := getD_get (by omega)
 have gm := graph_mem W.graph (List.getElem_mem (show s.toNat < xss.length by omega))
 refine ⟨G4.inb s0 s1, sp, cp, ?_⟩
 rw [w64_eq _ (by omega) (by omega)]
 refine k_spec_l1In k 0 ((sp.n : Int) - 1) h4 _ ⟨_, rfl, hL4, fun e4 h13 f13 _ => ?_, fun e4 => ?_⟩
 · have e4 : inR 0 ((sp.n : Int) - 1) k = false := not_t e4
   have er : uotP xss s rs k = (([], 0), false) := by unfold uotP; rw [ge, ← spl, e4, Bool.and_false, Bool.and_false]; rfl
   rw [er] at HK
   exact HK nilSl h13 (Ow.nil _ _ _ _) (out f04 f13)
 have e4 : inR 0 ((sp.n : Int) - 1) k = true := not_f e4
 have er : uotP xss s rs k = ((rs.set s.toNat k, s), true) := by unfold uotP; rw [ge, ← spl, e4, e, e3]; rfl
 rw [er] at HK
 have z04 := f04.size
 have z24 : h2.size ≤ h4.size := by have := f3.size; have := f4.size; omega
 refine k_l1Own (H.no f04) (by omega) _ fun t h5 o5 f5 => ?_
 have r5 : RdI (Iv h4.size h5.size) h5 t rs := o5.rdF
 refine ⟨t, rfl, hL4.of_no f5, r5.inb s0 (by omega), fun b3 h9 hb3 f9 hL9 => ?_⟩
 have f9 := f9.in_nil
 have z9 := f9.size
 have o9 : OwI h9 (Iv h4.size h5.size) t rs := Ow.no o5 f9
 refine (int_set o9 s0 (by omega) hL9 (fun q hq hk => by
   have hk1 := hk.1
   have hk2 := hk.2
   simp only [List.mem_cons, List.not_mem_nil, or_false] at hq
   rcases hq with rfl | rfl | rfl
   · (try simp only at hk2); omega
   · (try simp only at hk1); omega
   · (try simp only at hk1); omega) _ fun h6 o6 f6 _ h11 f11 _ => ?_).2
 have z6 := f6.size
 have z11 := f11.size
 refine HK t h11 ((Ow.fr o6 f11 fun q hq hq2 => ?_).mono fun q _ hq => ⟨by have := hq.1; omega, by have := hq.2; omega⟩) (out (((f04.no_trans f5).no_trans f9).fresh f6 fun q hq => by have := hq.1; omega) f11)
 have h7 := (Ow.foot o6 hq).1.1
 rw [e2' q hq2] at h7
 omega
def uniS (g : List (List Int)) : Nat -> Int
 | 0 => 0
 | k + 1 => uniS g k + treesN g k * (g.getD k []).length
def cntuP (g : List (List Int)) : Int × Bool := if graphB g then (uniS g g.length, true) else (0, false)
theorem uni_row {g : List (List Int)} (hg : graphB g = true) {p : Nat} (h : p < g.length) : 0 ≤ treesN g p * (g.getD p []).length /\ treesN g p * (g.getD p []).length ≤ 252000000000 := by
 have gl := graph_len hg
 have p0 : (0 : Int) ≤ p := by omega
 have p1 : (p : Int) < (g.length : Int) := by omega
 have gm := graph_mem hg (List.getElem_mem h)
 have hb := abs_le (Nat.le_trans (det_bound (lap_small hg p0 p1)) (Nat.le_trans (dbN_le (show g.length - 1 ≤ 7 by omega)) (show dbN 7 ≤ 50400000000 by rw [dbN7]; exact Nat.le_refl _)))
 have ht := treesN_eq hg p0 p1
 have hu : treesN g p = det (g.length - 1) (matL (lapL g p)) := rfl
 rw [← hu] at hb
 rw [getD_get h]
 have e : g[p].length = 0 ∨ g[p].length = 1 ∨ g[p].length = 2 ∨ g[p].length = 3 ∨ g[p].length = 4 ∨ g[p].length = 5 := by omega
 rcases e with e | e | e | e | e | e <;> rw [e] <;> omega
theorem uniS_bd {g : List (List Int)} (hg : graphB g = true) : ∀ k, k ≤ g.length -> 0 ≤ uniS g k /\ uniS g k ≤ 252000000000 * (k : Int)
 | 0, _ => ⟨Int.le_refl _, by simp [uniS]⟩
 | k + 1, h => by
   have := uniS_bd hg k (by omega)
   have := uni_row hg (show k < g.length by omega)
   simp only [uniS]
   omega
theorem k_impl_CountUnicycles {S : Nat -> Prop} {h : Heap} {g : Sl} {xss : List (List Int)} (G : RdR S h g xss) (K : KQ) (HK : ∀ h', Fr No h h' -> K (.tuple #[VI (cntuP xss).1, VB (cntuP xss).2]) h') : callM Tryz.prog 41 #[.agg #[g.v]] h K := by
 refine v41 g h K fun b1 h1 hb1 f1 hL1 => ?_
 have f1 := f1.in_nil
 refine k_isGraph (G.no f1) _ fun h2 f2 => ⟨_, rfl, hL1.of_no f2, fun e => ?_, fun e => ?_⟩
 · have er : cntuP xss = (0, false) := by unfold cntuP; rw [not_t e]; rfl
   rw [er] at HK
   exact HK h2 (f1.no_trans f2)
 have e := not_f e
 have gl := graph_len e
 have er : cntuP xss = (uniS xss xss.length, true) := by unfold cntuP; rw [if_pos e]
 rw [er] at HK
 refine ⟨fun n y i h' => 0 ≤ i /\ i + n = (xss.length : Int) /\ y = uniS xss i.toNat /\ Fr No h h', ⟨xss.length, by omega, by omega, rfl, f1.no_trans f2⟩, ?_⟩
 rintro n y i h3 ⟨i0, i1, rfl, f3⟩ hL3
 refine ⟨fun e2 => ?_, fun e2 => ?_⟩
 · have hi := (G.no f3).lt e2
   have ei : ((i.toNat : Nat) : Int) = i := by omega
   refine k_countUnicycles (G.no f3) e i0 hi _ fun h4 f4 => ⟨_, rfl, hL3.of_no f4, ?_⟩
   have b1 := uniS_bd e i.toNat (by omega)
   have b2 := uni_row e (show i.toNat < xss.length by omega)
   rw [ei] at b2
   rw [(G.no f3).succ i0 hi, w64_eq (uniS xss i.toNat + _) (by omega) (by omega)]
   refine ⟨n - 1, by omega, by omega, by omega, ?_, f3.no_trans f4⟩
   rw [show (i + 1).toNat = i.toNat + 1 by omega, uniS, ei]
 · have hi := (G.no f3).ge e2
   rw [show i.toNat = xss.length by omega]
   exact HK h3 f3
theorem k_spec_CountUnicycles {S : Nat -> Prop} {h : Heap} {g : Sl} {xss : List (List Int)} (G : RdR S h g xss) (K : KQ) (HK : ∀ h', Fr No h h' -> K (.tuple #[VI (cntuP xss).1, VB (cntuP xss).2]) h') : callM Tryz.prog 42 #[.agg #[g.v]] h K := by
 refine v42 g h K fun b1 h1 hb1 f1 hL1 => ?_
 have f1 := f1.in_nil
 refine k_spec_grGood (G.no f1) _ fun h2 f2 => ⟨_, rfl, hL1.of_no f2, fun e => ?_, fun e => ?_⟩
 · have er : cntuP xss = (0, false) := by unfold cntuP; rw [not_t e]; rfl
   rw [er] at HK
   exact HK h2 (f1.no_trans f2)
 have e := not_f e
 have gl := graph_len e
 have er : cntuP xss = (uniS xss xss.length, true) := by unfold cntuP; rw [if_pos e]
 rw [er] at HK
 refine ⟨fun n y i h' => 0 ≤ i /\ i + n = (xss.length : Int) /\ y = uniS xss i.toNat /\ Fr No h h', ⟨xss.length, by omega, by omega, rfl, f1.no_trans f2⟩, ?_⟩
 rintro n y i h3 ⟨i0, i1, rfl, f3⟩ hL3
 refine ⟨fun e2 => ?_, fun e2 => ?_⟩
 · have G3 := G.no f3
   have hi := G3.lt e2
   have ei : ((i.toNat : Nat) : Int) = i := by omega
   obtain ⟨sp, cp, rp⟩ := G3.get i0 hi
   have spl := rp.len
   have ge : xss.getD i.toNat [] = xss[i.toNat]'(by omega) := getD_get (by omega)
   have b1 := uniS_bd e i.toNat (by omega)
   have b2 := uni_row e (show i.toNat < xss.length by omega)
   rw [ei, ge, ← spl] at b2
   refine ⟨G3.inb i0 hi, sp, cp, fun e3 => ?_, fun e3 => ?_⟩
   · obtain ⟨ll, Q⟩ := lap_sq i0 hi
     refine k_trLaplace G3 e i0 hi _ fun t h4 o4 f4 => ⟨t, rfl, hL3.of_no f4, ?_⟩
     refine k_trDet (xss.length - 1) (OwR.rd o4) Q (by omega) (lap_small e i0 hi) _ fun h5 f5 => ⟨_, rfl, (hL3.of_no f4).of_no f5, ?_⟩
     have hu : treesN xss i = det (xss.length - 1) (matL (lapL xss i)) := rfl
     rw [← hu, G3.succ i0 hi, w64_eq (treesN xss i * (sp.n : Int)) (by omega) (by omega), w64_eq (uniS xss i.toNat + _) (by omega) (by omega)]
     refine ⟨n - 1, by omega, by omega, by omega, ?_, f3.no_trans (f4.no_trans f5)⟩
     rw [show (i + 1).toNat = i.toNat + 1 by omega, uniS, ei, ge, spl]
   · simp only [decide_eq_false_iff_not] at e3
     rw [G3.succ i0 hi]
     refine ⟨n - 1, by omega, by omega, by omega, ?_, f3⟩
     rw [show (i + 1).toNat = i.toNat + 1 by omega, uniS, ei, ge, ← spl, show sp.n = 0 by omega]
     simp
 · have hi := (G.no f3).ge e2
   rw [show i.toNat = xss.length by omega]
   exact HK h3 f3
end Go.Proofs.YtkjkfjkapbpgiaaGreat
