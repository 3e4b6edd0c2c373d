import Derived.Test.YtkjkfjkapbpgiaaDoorWalksTurnK1
set_option linter.unusedVariables false
set_option linter.unusedSimpArgs false
namespace Go.Proofs.YtkjkfjkapbpgiaaDoor
open Go Go.Mx
theorem pass_at {g : List (List Int)} : ∀ (n : Nat) (w r : Rn), goP g n w = some r → r.ps.length = w.ps.length + n ∧ (∀ i, i < w.ps.length → r.ps.getD i 0 = w.ps.getD i 0) ∧ (∀ i, i < n → ∃ t, sq g w.s (i + 1) = some t ∧ r.ps.getD (w.ps.length + i) 0 = t.2) ∧ sq g w.s n = some r.s
  | 0, w, r, h => by
    simp only [goP, Option.some.injEq] at h
    rw [← h]
    exact ⟨rfl, fun i _ => rfl, fun i h => by omega, rfl⟩
  | n + 1, w, r, h => by
    rw [goP] at h
    cases hs : stepP g w.s with
    | none => rw [hs] at h; cases h
    | some s' =>
      rw [hs] at h
      obtain ⟨a1, a2, a3, a4⟩ := pass_at n _ r h
      simp only [List.length_append, List.length_cons, List.length_nil] at a1 a2 a3 a4
      have sh := sq_succ' g hs
      refine ⟨by omega, fun i hi => ?_, fun i hi => ?_, by rw [sh]; exact a4⟩
      · rw [a2 i (by omega)]
        simp [List.getD, List.getElem?_append_left hi]
      · cases i with
        | zero =>
          refine ⟨s', by rw [sq, sq]; exact hs, ?_⟩
          rw [Nat.add_zero, a2 w.ps.length (by omega)]
          simp [List.getD]
        | succ i =>
          obtain ⟨t, h1, h2⟩ := a3 i (by omega)
          exact ⟨t, by rw [sh]; exact h1, by rw [← h2]; congr 1; omega⟩
theorem pass_at0 {g : List (List Int)} {s0 : St} {n : Nat} {r : Rn} (h : goP g n (go0 g s0) = some r) : r.ps.length = n + 1 ∧ (∀ i, i ≤ n → ∃ t, sq g s0 i = some t ∧ r.ps.getD i 0 = t.2) ∧ sq g s0 n = some r.s := by
  obtain ⟨a1, a2, a3, a4⟩ := pass_at n _ r h
  have l1 : (go0 g s0).ps.length = 1 := rfl
  refine ⟨by omega, fun i hi => ?_, a4⟩
  cases i with
  | zero => exact ⟨s0, rfl, by rw [a2 0 (by omega)]; rfl⟩
  | succ i =>
    obtain ⟨t, h1, h2⟩ := a3 i (by omega)
    exact ⟨t, h1, by rw [← h2, l1, Nat.add_comm]⟩
theorem wt_facts (g : List (List Int)) (rs : List Int) (p n : Int) : (visP g rs p n).2 = (useP g rs p n).2 ∧ (runOfP g rs p n).2 = (useP g rs p n).2 ∧ ((passP g rs p n).2 = true → (useP g rs p n).2 = true) ∧ ((useP g rs p n).2 = true → WOK g (rs, p) ∧ 0 ≤ n ∧ n ≤ 2000 ∧ ∃ r, goP g n.toNat (go0 g (rs, p)) = some r ∧ (useP g rs p n).1 = r.us ∧ (visP g rs p n).1 = r.vs ∧ (runOfP g rs p n).1 = r.s ∧ ((passP g rs p n).2 = true → (passP g rs p n).1 = r.ps)) := by
  by_cases hc : (walkB g rs p && inR 0 2000 n) = true
  · have hc' := hc
    rw [Bool.and_eq_true] at hc'
    obtain ⟨e1, e2, e3, e4⟩ := run_all hc'.1 hc'.2
    have hn := inR_iff.1 hc'.2
    have pf : inR 0 200 n = false → passP g rs p n = ([], false) := fun h => by unfold passP; rw [h, Bool.and_false]; rfl
    cases hr : goP g n.toNat (go0 g (rs, p)) with
    | none =>
      rw [hr] at e1 e2 e3 e4
      rw [e1, e2, e3]
      refine ⟨rfl, rfl, fun h => ?_, fun h => (by cases h)⟩
      cases h2 : inR 0 200 n with
      | true => rw [e4 h2] at h; cases h
      | false => rw [pf h2] at h; cases h
    | some r =>
      rw [hr] at e1 e2 e3 e4
      rw [e1, e2, e3]
      refine ⟨rfl, rfl, fun _ => rfl, fun _ => ⟨wok_of hc'.1, by omega, by omega, r, rfl, rfl, rfl, rfl, fun h => ?_⟩⟩
      cases h2 : inR 0 200 n with
      | true => rw [e4 h2]
      | false => rw [pf h2] at h; cases h
  · obtain ⟨e1, e2, e3, e4⟩ := run_no (Bool.eq_false_iff.2 hc)
    rw [e1, e2, e3, e4]
    exact ⟨rfl, rfl, fun h => (by cases h), fun h => (by cases h)⟩
theorem wbP_two (g : List (List Int)) (rs : List Int) (p : Int) : (wbP g rs p).2 = walkB g rs p := by
  unfold wbP
  cases h : walkB g rs p <;> simp
theorem wbP_walk {g : List (List Int)} {rs : List Int} {p : Int} {i : Nat} (h : i < (wbP g rs p).1.length) : walkB g rs p = true := by
  cases hw : walkB g rs p with
  | true => rfl
  | false => unfold wbP at h; rw [hw] at h; simp at h
theorem wbP_rise {g : List (List Int)} {rs : List Int} {p : Int} {i j : Nat} (hij : i < j) (hj : j < (wbP g rs p).1.length) : ((wbP g rs p).1[i]'(by omega)).2 < ((wbP g rs p).1[j]).2 := by
  have hw := wbP_walk hj
  have e : (wbP g rs p).1 = wbL g rs p g.length := by unfold wbP; rw [if_pos hw]
  have := List.pairwise_iff_getElem.1 (wbL_rise (g := g) (rs := rs) (p := p) g.length) i j (by rw [← e]; omega) (by rw [← e]; exact hj) hij
  simp only [e]
  exact this
set_option maxHeartbeats 4000000 in
theorem wt_tail2 {h0 : Heap} {S1 : Nat → Prop} {s1 : Sl} {x1 : List Value} (G1 : RdV S1 h0 1 s1 x1) (B1 : ∀ v, v ∈ x1 → ∃ m : Int, v = Value.int .u8 m ∧ 0 ≤ m ∧ m ≤ 255) (J : Heap → Prop) (HJ : ∀ h', J h' → Fr No h0 h') (b4 : Nat) (u4 : Sl) (q4 : Int) (b3 : Nat) (u3 : Sl) (q3 : Int) (b2 : Nat) (u2 : Sl) (q2 : Int) (b1 : Nat) (u1 : Sl) {K : Value → Heap → Prop} (HK : ∀ h', Fr No h0 h' → K (VB true) h') : w5_2 Tryd.prog J b4 u4 q4 b3 u3 q3 b2 u2 q2 b1 u1 s1 K := by
  unfold w5_2
  intro h42 hJ hL42
  have f42 := HJ _ hJ
  refine k_DrawStepOf (G1.no f42) B1 _ fun t w gs rs p h43 G43 H43 f43 => ⟨t, w, p, rfl, hL42.of_no f43, fun b7 b8 h47 _ _ f47 hL47 => ?_⟩
  have f47 := f47.in_nil
  have G47 := G43.no f47
  have H47 := H43.no f47
  refine k_StepOf G47 H47 p _ fun st h48 o48 f48 => ⟨st, _, _, rfl, hL47.of_no f48, fun b9 h50 _ f50 hL50 => ?_⟩
  have f50 := f50.in_nil
  have fa := f48.no_trans f50
  refine k_spec_StepOf (G47.no fa) (H47.no fa) p _ fun st' h51 o51 f51 => ⟨st', _, _, rfl, hL50.of_no f51, fun b10 h53 _ f53 hL53 => ?_⟩
  have f53 := f53.in_nil
  have fb := fa.no_trans (f51.no_trans f53)
  refine k_WalksBefore (G47.no fb) (H47.no fb) p _ fun bw h54 o54 f54 => ⟨bw, _, rfl, hL53.of_no f54, ?_⟩
  have fc := fb.no_trans f54
  refine k_spec_WalksBefore (G47.no fc) (H47.no fc) p _ fun bw' h55 o55 f55 => ⟨bw', _, rfl, (hL53.of_no f54).of_no f55, ?_⟩
  have fd := fc.no_trans f55
  refine k_WalkText (H47.no fd) p _ fun h56 f56 => ⟨_, _, rfl, ((hL53.of_no f54).of_no f55).of_no f56, ?_⟩
  have fe := fd.no_trans f56
  refine k_spec_WalkText (H47.no fe) p _ fun h57 f57 => ⟨_, _, rfl, (((hL53.of_no f54).of_no f55).of_no f56).of_no f57, fun e => by simp at e, fun _ => ?_⟩
  have hL57 := (((hL53.of_no f54).of_no f55).of_no f56).of_no f57
  have ff := fe.no_trans f57
  have g57 := f56.no_trans f57
  have g55 := f55.no_trans g57
  have g54 := f54.no_trans g55
  have S57 : RdI _ h57 st _ := RdI.no o48.rdF (f50.no_trans ((f51.no_trans f53).no_trans g54))
  have S57' : RdI _ h57 st' _ := RdI.no o51.rdF (f53.no_trans g54)
  have B57 := (OwW.rd o54).no g55
  have B57' := (OwW.rd o55).no g57
  have G57 := G47.no ff
  have H57 := H47.no ff
  refine k_wWalk S57 S57' _ _ _ fun h58 f58 => ⟨_, rfl, hL57.of_no f58, fun e => by simp at e, fun _ => ⟨fun e => by simp at e, fun _ => ?_⟩⟩
  refine k_wWalks (B57.no f58) (B57'.no f58) _ fun h59 f59 => ⟨_, rfl, (hL57.of_no f58).of_no f59, fun e => by simp at e, fun _ => ⟨fun e => by simp at e, fun _ => ⟨fun e => by simp at e, fun _ => ?_⟩⟩⟩
  have fg := f58.no_trans f59
  have hL59 := (hL57.of_no f58).of_no f59
  refine k_IsWalk (G57.no fg) (H57.no fg) p _ fun h60 f60 => ⟨_, rfl, hL59.of_no f60, ?_⟩
  have fh := fg.no_trans f60
  refine k_spec_IsWalk (G57.no fh) (H57.no fh) p _ fun h61 f61 => ⟨_, rfl, (hL59.of_no f60).of_no f61, fun e => by simp at e, fun _ => ?_⟩
  have fi := fh.no_trans f61
  refine k_IsWalk (G57.no fi) (H57.no fi) p _ fun h62 f62 => ⟨_, rfl, ((hL59.of_no f60).of_no f61).of_no f62, fun e => by rw [wbP_two] at e; simp at e, fun _ => ?_⟩
  have fj := fi.no_trans f62
  have hL62 := ((hL59.of_no f60).of_no f61).of_no f62
  have B62 := B57.no fj
  have G62 := G57.no fj
  have H62 := H57.no fj
  have S62 := S57.no fj
  have big := B62.big
  have wl := B62.len
  have f062 : Fr No h0 h62 := f42.no_trans (f43.no_trans (f47.no_trans (ff.no_trans fj)))
  refine ⟨fun m i h' => 0 ≤ i ∧ i + m = ((wbP gs rs p).1.length : Int) ∧ Fr No h62 h', ⟨(wbP gs rs p).1.length, by omega, by omega, Fr.refl _ _⟩, ?_⟩
  rintro m i h63 ⟨i0, i1, f63⟩ hL63
  have B63 := B62.no f63
  refine ⟨fun e => ?_, fun e => ?_⟩
  · simp only [decide_eq_true_eq] at e
    have hi : i < ((wbP gs rs p).1.length : Int) := by omega
    have hi2 : i.toNat < (wbP gs rs p).1.length := by omega
    obtain ⟨ib, si, c1, r1⟩ := B63.get i0 hi
    have hw := wbP_walk hi2
    have hstep := before_step hw (List.getElem_mem hi2)
    refine ⟨ib, si, _, c1, fun b11 h65 _ f65 hL65 => ?_⟩
    have f65 := f65.in_nil
    have f265 := f63.no_trans f65
    refine k_StepOf (G62.no f265) (r1.no f65) _ _ fun y h66 o66 f66 => ⟨y, _, _, rfl, hL65.of_no f66, fun e3 => by rw [hstep] at e3; simp at e3, fun _ b12 h68 _ f68 hL68 => ?_⟩
    have f68 := f68.in_nil
    have f268 := f265.no_trans (f66.no_trans f68)
    rw [hstep] at o66 hL68 ⊢
    simp only at o66
    refine k_wWalk (RdI.no o66.rdF f68) (H62.no f268) _ _ _ fun h69 f69 => ⟨_, rfl, hL68.of_no f69, fun e4 => by simp at e4, fun _ => ?_⟩
    have f269 := f268.no_trans f69
    have nxt : ∃ m' : Nat, m' < m ∧ (0 ≤ w64 (i + 1) ∧ w64 (i + 1) + m' = ((wbP gs rs p).1.length : Int) ∧ Fr No h62 h69) := by
      rw [w64_succ (n := (wbP gs rs p).1.length) i0 hi (by omega)]
      exact ⟨m - 1, by omega, by omega, by omega, f269⟩
    refine ⟨fun e5 => ?_, fun _ => nxt⟩
    simp only [decide_eq_true_eq] at e5
    have B69 := B62.no f269
    have hgl := graph_len (wok_of hw).graph
    have wbl := (wbL_len gs rs p gs.length).1
    have wbe : (wbP gs rs p).1.length ≤ 8 := by unfold wbP; rw [if_pos hw]; simp only; omega
    rw [w64_eq (i - 1) (by omega) (by omega)]
    obtain ⟨ib2, si2, c2, _⟩ := B69.get (i := i - 1) (by omega) (by omega)
    refine ⟨ib2, _, c2 1 (by simp), fun e6 => ?_, fun _ => nxt⟩
    exfalso
    have := wbP_rise (g := gs) (rs := rs) (p := p) (i := (i - 1).toNat) (j := i.toNat) (by omega) hi2
    simp only [decide_eq_true_eq] at e6
    omega
  · refine ⟨fun e2 => ?_, fun _ => HK h63 (f062.no_trans f63)⟩
    have hrun : runOfP gs rs p 1 = ((runOfP gs rs p 1).1, true) := Prod.ext rfl e2
    obtain ⟨hw, wb2, wbm⟩ := step_before hrun
    refine k_WalksBefore (G62.no f63) (S62.no f63) _ _ fun al h70 o70 f70 => ⟨al, _, rfl, hL63.of_no f70, ?_⟩
    have A70 := OwW.rd o70
    have al_len := A70.len
    have abig := A70.big
    have f270 := f63.no_trans f70
    refine ⟨fun m2 fd j h' => 0 ≤ j ∧ j + m2 = ((wbP gs (runOfP gs rs p 1).1.1 (runOfP gs rs p 1).1.2).1.length : Int) ∧ fd = (((wbP gs (runOfP gs rs p 1).1.1 (runOfP gs rs p 1).1.2).1.take j.toNat).any fun u => decide (u.2 = p ∧ u.1 = rs)) ∧ Fr No h70 h', ⟨(wbP gs (runOfP gs rs p 1).1.1 (runOfP gs rs p 1).1.2).1.length, by omega, by omega, rfl, Fr.refl _ _⟩, ?_⟩
    generalize hWS : (wbP gs (runOfP gs rs p 1).1.1 (runOfP gs rs p 1).1.2).1 = WS at *
    rintro m2 fd j h71 ⟨j0, j1, rfl, f71⟩ hL71
    have A71 := A70.no f71
    refine ⟨fun e3 => ?_, fun e3 => ?_⟩
    · simp only [decide_eq_true_eq] at e3
      have hj : j < (WS.length : Int) := by omega
      have hj2 : j.toNat < WS.length := by omega
      obtain ⟨ib, si, c1, r1⟩ := A71.get j0 hj
      have ej : w64 (j + 1) = j + 1 := w64_succ (n := WS.length) j0 hj (by omega)
      have ts : (WS.take (j + 1).toNat).any (fun u => decide (u.2 = p ∧ u.1 = rs)) = ((WS.take j.toNat).any (fun u => decide (u.2 = p ∧ u.1 = rs)) || decide (WS[j.toNat].2 = p ∧ WS[j.toNat].1 = rs)) := by
        rw [show (j + 1).toNat = j.toNat + 1 by omega, any_take_succ hj2]
      rw [ej]
      refine ⟨ib, si, _, c1, fun e4 b13 h73 _ f73 hL73 => ?_, fun e4 b13 h73 _ f73 hL73 => ?_⟩
      · exact ⟨m2 - 1, by omega, by omega, by omega, by rw [ts, e4, Bool.true_or], f71.no_trans f73.in_nil⟩
      · have f73 := f73.in_nil
        have f273 := f270.no_trans (f71.no_trans f73)
        refine k_wWalk (r1.no f73) (H62.no f273) _ _ _ fun h74 f74 => ⟨_, rfl, hL73.of_no f74, m2 - 1, by omega, by omega, by omega, by rw [ts, e4, Bool.false_or], f71.no_trans (f73.no_trans f74)⟩
    · simp only [decide_eq_false_iff_not] at e3
      rw [List.take_of_length_le (by omega)]
      have hany : (WS.any fun u => decide (u.2 = p ∧ u.1 = rs)) = true := List.any_eq_true.2 ⟨(rs, p), wbm, by simp⟩
      refine ⟨fun _ => ?_, fun e4 => by rw [wb2] at e4; cases e4⟩
      rw [hany]
      exact HK h71 (f062.no_trans (f270.no_trans f71))
theorem vis_ok {g : List (List Int)} : ∀ (m k : Nat) (t : List Int) (s : St) (t' : List Int) (s' : St), (∀ x, x ∈ t → 0 ≤ x ∧ x ≤ (k : Int)) → runT g visU m t s = some (t', s') → t'.length = t.length ∧ ∀ x, x ∈ t' → 0 ≤ x ∧ x ≤ ((k + m : Nat) : Int)
  | 0, k, t, s, t', s', hk, h => by
    simp only [runT, Option.some.injEq, Prod.mk.injEq] at h
    rw [← h.1]
    exact ⟨rfl, by simpa using hk⟩
  | m + 1, k, t, s, t', s', hk, h => by
    rw [runT] at h
    split at h
    · cases h
    · rename_i s2 hs
      have := vis_ok m (k + 1) _ _ _ _ (bump_mem (i := s2.2.toNat) hk) h
      rw [show k + (m + 1) = k + 1 + m by omega]
      exact ⟨this.1.trans (bump_length _ _), this.2⟩
theorem k_vis1 {F : Nat → Prop} {b b' : Nat} {h : Heap} {o w : Sl} {ps : List Int} {q : Int} (V : IsVar h b [o.v]) (V' : IsVar h b' [w.v, VI q]) (hbb : b' ≠ b) (O : OwI h F o ps) (hb : ¬ o.own b) (hb' : ¬ o.own b') (h0 : 0 ≤ q) (h1 : q < (ps.length : Int)) (hv : ∀ x, x ∈ ps → 0 ≤ x ∧ x ≤ 1000000) (x : Int) (K : Value → Heap → Prop)
    (HK : ∀ h' v, IsVar h' b [o.v] → OwI h' F o (bump ps q.toNat) → Fr o.own h h' → K v h') : callV Tryd.prog (.func (.func 75) #[] #[VP b 0, VP b' 0]) [VI x] h K := by
  have R : RdI F h o ps := O.rdF
  have hl := R.len
  have hm := hv _ (List.getElem_mem (show q.toNat < ps.length by omega))
  refine v75 x b o b' w q h K (.cons V (by simpa using hbb) (.cons V' (by simp) .nil)) ⟨R.inb h0 h1, _, R.get h0 h1, R.inb h0 h1, ?_⟩
  rw [w64_eq _ (by omega) (by omega)]
  obtain ⟨w1, w2, w3⟩ := O.store1 h0 (by omega) (VI ((ps[q.toNat]'(by omega)) + 1))
  have hL : Vars (hset h (o.at q 1) (VI ((ps[q.toNat]'(by omega)) + 1))) [(b, [o.v]), (b', [w.v, VI q])] := .cons (V.fr w3 hb) (by simpa using hbb) (.cons (V'.fr w3 hb') (by simp) .nil)
  refine ⟨w1, hL, fun h2 e2 _ => ?_⟩
  subst e2
  rw [← List.map_set] at w2
  have e : ps.set q.toNat ((ps[q.toNat]'(by omega)) + 1) = bump ps q.toNat := by unfold bump; rw [getD_getI (by omega)]
  rw [e] at w2
  exact HK _ _ hL.head w2 w3
theorem k_VisitsOf {S S' : Nat → Prop} {h : Heap} {g w : Sl} {xss : List (List Int)} {rs : List Int} (G : RdR S h g xss) (H : RdI S' h w rs) (p n : Int) (K : Value → Heap → Prop) (HK : ∀ t h', OwI h' (Iv h.size h'.size) t (visP xss rs p n).1 → Fr No h h' → K (.tuple #[t.v, VB (visP xss rs p n).2]) h') : callM Tryd.prog 24 #[.agg #[g.v], .agg #[w.v, VI p], VI n] h K := by
  refine v24 g w p n h K fun b1 b2 h2 hb1 hb2 f2 hL2 => ?_
  have f2 := f2.in_nil
  have no : visP xss rs p n = ([], false) → ∀ h', Fr No h h' → K (.tuple #[nilSl.v, VB false]) h' := fun e h' f => by
    have := HK nilSl h' (by rw [e]; exact Ow.nil _ _ _ _) f
    rw [e] at this
    exact this
  refine k_isRun (G.no f2) (H.no f2) p n 2000 _ fun h3 f3 => ⟨_, rfl, hL2.of_no f3, fun e => ?_, fun e => ?_⟩
  · exact no (by unfold visP; rw [if_neg (by rw [not_t e]; simp)]) _ (f2.no_trans f3)
  have e := not_f e
  have e2 : visP xss rs p n = match runT xss visU n.toNat (List.replicate xss.length 0) (rs, p) with
    | none => ([], false)
    | some (t, _) => (t, true) := by unfold visP; exact if_pos e
  rw [Bool.and_eq_true, inR_iff] at e
  have W := wok_of e.1
  have hgl := graph_len W.graph
  have f03 := f2.no_trans f3
  have z03 := f03.size
  have hL := hL2.of_no f3
  have l2 : b2 < h3.size := hL.head.lt
  have l1 : b1 < h3.size := hL.tail.head.lt
  have fj : Fr No h3 h3 := Fr.refl _ _
  have cp : ∀ {h1 : Heap} {K : Value → Heap → Prop}, Fr No h3 h1 → (∀ t h2, OwI h2 (Iv h1.size h2.size) t rs → Fr No h1 h2 → K (.agg #[t.v, VI p]) h2) → callM Tryd.prog 69 #[.agg #[w.v, VI p]] h1 K := fun f HK => k_copiedW ((H.no f03).no f) p (by have := W.len; simp only at this; omega) _ HK
  have mk : ∀ {h1 : Heap} {K : Value → Heap → Prop}, Fr No h3 h1 → (∀ t h2, OwI h2 (Iv h1.size h2.size) t (List.replicate xss.length 0) → Fr No h1 h2 → K t.v h2) → eop Tryd.prog (Instr.makeSlice tIs (VI (g.n : Int)) (VI (g.n : Int))) h1 K := fun _ HK => eop_make rIs (fun k => _ ≤ k) (fun _ h => h) .i64 .i64 g.n g.n (Nat.le_refl _) (by rw [G.len]; omega) fun t h2 n2 c2 o2 f2 m2 _ => HK t h2 (Ow.toIv (by
    have e : (List.replicate g.n [VI 0]).flatten = (List.replicate xss.length (0 : Int)).map VI := by rw [G.len]; simp [List.flatten_replicate_singleton]
    rw [e] at o2; exact o2)) f2
  refine ⟨fun bN xw xp bO xo h' => xp = p ∧ ∃ i1 j1 i2 j2, OwI h' (Iv i1 j1) xw rs ∧ OwI h' (Iv i2 j2) xo (List.replicate xss.length 0) ∧ (j1 ≤ i2 ∨ j2 ≤ i1) ∧ (bN < i1 ∨ j1 ≤ bN) ∧ (bN < i2 ∨ j2 ≤ bN) ∧ (bO < i1 ∨ j1 ≤ bO) ∧ (bO < i2 ∨ j2 ≤ bO) ∧ h3.size ≤ i1 ∧ h3.size ≤ i2 ∧ h3.size ≤ bN ∧ h3.size ≤ bO ∧ j1 ≤ h'.size ∧ j2 ≤ h'.size ∧ bN ≠ bO ∧ Fr No h3 h', ?_, ?_⟩
  · refine ⟨?_, ?_, ?_, ?_⟩
    · refine cp fj fun u_1 h_4 o_1 f_1 => ⟨u_1, _, rfl, hL.of_no f_1, ?_⟩
      replace hL := hL.of_no f_1
      have z_f_1 := f_1.size
      replace fj := fj.no_trans f_1
      refine ⟨?_, ?_, ?_⟩
      · refine mk fj fun u_2 h_5 o_2 f_2 => ⟨u_2, rfl, hL.of_no f_2, ?_⟩
        replace hL := hL.of_no f_2
        have z_f_2 := f_2.size
        replace o_1 := o_1.no f_2
        replace fj := fj.no_trans f_2
        refine ⟨?_, ?_⟩
        · intro b_5 h_6 hb_b_5 f_3 hL
          have lt_b_5 : b_5 < h_6.size := (hL).head.lt
          replace f_3 := f_3.in_nil
          have z_f_3 := f_3.size
          replace o_1 := o_1.no f_3
          replace o_2 := o_2.no f_3
          replace fj := fj.no_trans f_3
          intro b_6 h_7 hb_b_6 f_4 hL
          have lt_b_6 : b_6 < h_7.size := (hL).head.lt
          replace f_4 := f_4.in_nil
          have z_f_4 := f_4.size
          replace o_1 := o_1.no f_4
          replace o_2 := o_2.no f_4
          replace fj := fj.no_trans f_4
          intro  h_8  f_5 hL
          replace f_5 := f_5.inIv (lo := h_5.size) (hi := h_6.size) ⟨⟨by omega, by omega⟩, trivial⟩
          have z_f_5 := f_5.size
          replace o_1 := o_1.iv f_5 (by omega)
          replace o_2 := o_2.iv f_5 (by omega)
          replace fj := fj.ivFresh f_5 (by omega)
          intro  h_9  f_6 hL
          replace f_6 := f_6.inIv (lo := h_6.size) (hi := h_7.size) ⟨⟨by omega, by omega⟩, trivial⟩
          have z_f_6 := f_6.size
          replace o_1 := o_1.iv f_6 (by omega)
          replace o_2 := o_2.iv f_6 (by omega)
          replace fj := fj.ivFresh f_6 (by omega)
          exact ⟨rfl, h3.size, h_4.size, h_4.size, h_5.size, o_1, o_2, by omega, by omega, by omega, by omega, by omega, by omega, by omega, by omega, by omega, by omega, by omega, by omega, fj⟩
        · intro b_7 h_10 hb_b_7 f_7 hL
          have lt_b_7 : b_7 < h_10.size := (hL).head.lt
          replace f_7 := f_7.in_nil
          have z_f_7 := f_7.size
          replace o_1 := o_1.no f_7
          replace o_2 := o_2.no f_7
          replace fj := fj.no_trans f_7
          intro b_8 h_11 hb_b_8 f_8 hL
          have lt_b_8 : b_8 < h_11.size := (hL).head.lt
          replace f_8 := f_8.in_nil
          have z_f_8 := f_8.size
          replace o_1 := o_1.no f_8
          replace o_2 := o_2.no f_8
          replace fj := fj.no_trans f_8
          intro  h_12  f_9 hL
          replace f_9 := f_9.inIv (lo := h_10.size) (hi := h_11.size) ⟨⟨by omega, by omega⟩, trivial⟩
          have z_f_9 := f_9.size
          replace o_1 := o_1.iv f_9 (by omega)
          replace o_2 := o_2.iv f_9 (by omega)
          replace fj := fj.ivFresh f_9 (by omega)
          intro  h_13  f_10 hL
          replace f_10 := f_10.inIv (lo := h_5.size) (hi := h_10.size) ⟨⟨by omega, by omega⟩, trivial⟩
          have z_f_10 := f_10.size
          replace o_1 := o_1.iv f_10 (by omega)
          replace o_2 := o_2.iv f_10 (by omega)
          replace fj := fj.ivFresh f_10 (by omega)
          exact ⟨rfl, h3.size, h_4.size, h_4.size, h_5.size, o_1, o_2, by omega, by omega, by omega, by omega, by omega, by omega, by omega, by omega, by omega, by omega, by omega, by omega, fj⟩
      · intro b_9 h_14 hb_b_9 f_11 hL
        have lt_b_9 : b_9 < h_14.size := (hL).head.lt
        replace f_11 := f_11.in_nil
        have z_f_11 := f_11.size
        replace o_1 := o_1.no f_11
        replace fj := fj.no_trans f_11
        refine ⟨?_, ?_⟩
        · refine mk fj fun u_12 h_15 o_12 f_12 => ⟨u_12, rfl, hL.of_no f_12, ?_⟩
          replace hL := hL.of_no f_12
          have z_f_12 := f_12.size
          replace o_1 := o_1.no f_12
          replace fj := fj.no_trans f_12
          intro b_10 h_16 hb_b_10 f_13 hL
          have lt_b_10 : b_10 < h_16.size := (hL).head.lt
          replace f_13 := f_13.in_nil
          have z_f_13 := f_13.size
          replace o_1 := o_1.no f_13
          replace o_12 := o_12.no f_13
          replace fj := fj.no_trans f_13
          intro  h_17  f_14 hL
          replace f_14 := f_14.inIv (lo := h_4.size) (hi := h_14.size) ⟨⟨by omega, by omega⟩, trivial⟩
          have z_f_14 := f_14.size
          replace o_1 := o_1.iv f_14 (by omega)
          replace o_12 := o_12.iv f_14 (by omega)
          replace fj := fj.ivFresh f_14 (by omega)
          intro  h_18  f_15 hL
          replace f_15 := f_15.inIv (lo := h_15.size) (hi := h_16.size) ⟨⟨by omega, by omega⟩, trivial⟩
          have z_f_15 := f_15.size
          replace o_1 := o_1.iv f_15 (by omega)
          replace o_12 := o_12.iv f_15 (by omega)
          replace fj := fj.ivFresh f_15 (by omega)
          exact ⟨rfl, h3.size, h_4.size, h_14.size, h_15.size, o_1, o_12, by omega, by omega, by omega, by omega, by omega, by omega, by omega, by omega, by omega, by omega, by omega, by omega, fj⟩
        · intro b_11 h_19 hb_b_11 f_16 hL
          have lt_b_11 : b_11 < h_19.size := (hL).head.lt
          replace f_16 := f_16.in_nil
          have z_f_16 := f_16.size
          replace o_1 := o_1.no f_16
          replace fj := fj.no_trans f_16
          refine ⟨?_, ?_⟩
          · refine mk fj fun u_17 h_20 o_17 f_17 => ⟨u_17, rfl, hL.of_no f_17, ?_⟩
            replace hL := hL.of_no f_17
            have z_f_17 := f_17.size
            replace o_1 := o_1.no f_17
            replace fj := fj.no_trans f_17
            intro  h_21  f_18 hL
            replace f_18 := f_18.inIv (lo := h_4.size) (hi := h_14.size) ⟨⟨by omega, by omega⟩, trivial⟩
            have z_f_18 := f_18.size
            replace o_1 := o_1.iv f_18 (by omega)
            replace o_17 := o_17.iv f_18 (by omega)
            replace fj := fj.ivFresh f_18 (by omega)
            intro  h_22  f_19 hL
            replace f_19 := f_19.inIv (lo := h_14.size) (hi := h_19.size) ⟨⟨by omega, by omega⟩, trivial⟩
            have z_f_19 := f_19.size
            replace o_1 := o_1.iv f_19 (by omega)
            replace o_17 := o_17.iv f_19 (by omega)
            replace fj := fj.ivFresh f_19 (by omega)
            exact ⟨rfl, h3.size, h_4.size, h_19.size, h_20.size, o_1, o_17, by omega, by omega, by omega, by omega, by omega, by omega, by omega, by omega, by omega, by omega, by omega, by omega, fj⟩
          · intro  h_23  f_20 hL
            replace f_20 := f_20.inIv (lo := h_4.size) (hi := h_14.size) ⟨⟨by omega, by omega⟩, trivial⟩
            have z_f_20 := f_20.size
            replace o_1 := o_1.iv f_20 (by omega)
            replace fj := fj.ivFresh f_20 (by omega)
            refine mk fj fun u_21 h_24 o_21 f_21 => ⟨u_21, rfl, hL.of_no f_21, ?_⟩
            replace hL := hL.of_no f_21
            have z_f_21 := f_21.size
            replace o_1 := o_1.no f_21
            replace fj := fj.no_trans f_21
            intro  h_25  f_22 hL
            replace f_22 := f_22.inIv (lo := h_14.size) (hi := h_19.size) ⟨⟨by omega, by omega⟩, trivial⟩
            have z_f_22 := f_22.size
            replace o_1 := o_1.iv f_22 (by omega)
            replace o_21 := o_21.iv f_22 (by omega)
            replace fj := fj.ivFresh f_22 (by omega)
            exact ⟨rfl, h3.size, h_4.size, h_23.size, h_24.size, o_1, o_21, by omega, by omega, by omega, by omega, by omega, by omega, by omega, by omega, by omega, by omega, by omega, by omega, fj⟩
      · intro b_12 h_26 hb_b_12 f_23 hL
        have lt_b_12 : b_12 < h_26.size := (hL).head.lt
        replace f_23 := f_23.in_nil
        have z_f_23 := f_23.size
        replace o_1 := o_1.no f_23
        replace fj := fj.no_trans f_23
        refine ⟨?_, ?_⟩
        · refine mk fj fun u_24 h_27 o_24 f_24 => ⟨u_24, rfl, hL.of_no f_24, ?_⟩
          replace hL := hL.of_no f_24
          have z_f_24 := f_24.size
          replace o_1 := o_1.no f_24
          replace fj := fj.no_trans f_24
          intro b_13 h_28 hb_b_13 f_25 hL
          have lt_b_13 : b_13 < h_28.size := (hL).head.lt
          replace f_25 := f_25.in_nil
          have z_f_25 := f_25.size
          replace o_1 := o_1.no f_25
          replace o_24 := o_24.no f_25
          replace fj := fj.no_trans f_25
          intro  h_29  f_26 hL
          replace f_26 := f_26.inIv (lo := h_27.size) (hi := h_28.size) ⟨⟨by omega, by omega⟩, trivial⟩
          have z_f_26 := f_26.size
          replace o_1 := o_1.iv f_26 (by omega)
          replace o_24 := o_24.iv f_26 (by omega)
          replace fj := fj.ivFresh f_26 (by omega)
          intro  h_30  f_27 hL
          replace f_27 := f_27.inIv (lo := h_4.size) (hi := h_26.size) ⟨⟨by omega, by omega⟩, trivial⟩
          have z_f_27 := f_27.size
          replace o_1 := o_1.iv f_27 (by omega)
          replace o_24 := o_24.iv f_27 (by omega)
          replace fj := fj.ivFresh f_27 (by omega)
          exact ⟨rfl, h3.size, h_4.size, h_26.size, h_27.size, o_1, o_24, by omega, by omega, by omega, by omega, by omega, by omega, by omega, by omega, by omega, by omega, by omega, by omega, fj⟩
        · intro b_14 h_31 hb_b_14 f_28 hL
          have lt_b_14 : b_14 < h_31.size := (hL).head.lt
          replace f_28 := f_28.in_nil
          have z_f_28 := f_28.size
          replace o_1 := o_1.no f_28
          replace fj := fj.no_trans f_28
          refine ⟨?_, ?_⟩
          · refine mk fj fun u_29 h_32 o_29 f_29 => ⟨u_29, rfl, hL.of_no f_29, ?_⟩
            replace hL := hL.of_no f_29
            have z_f_29 := f_29.size
            replace o_1 := o_1.no f_29
            replace fj := fj.no_trans f_29
            intro  h_33  f_30 hL
            replace f_30 := f_30.inIv (lo := h_26.size) (hi := h_31.size) ⟨⟨by omega, by omega⟩, trivial⟩
            have z_f_30 := f_30.size
            replace o_1 := o_1.iv f_30 (by omega)
            replace o_29 := o_29.iv f_30 (by omega)
            replace fj := fj.ivFresh f_30 (by omega)
            intro  h_34  f_31 hL
            replace f_31 := f_31.inIv (lo := h_4.size) (hi := h_26.size) ⟨⟨by omega, by omega⟩, trivial⟩
            have z_f_31 := f_31.size
            replace o_1 := o_1.iv f_31 (by omega)
            replace o_29 := o_29.iv f_31 (by omega)
            replace fj := fj.ivFresh f_31 (by omega)
            exact ⟨rfl, h3.size, h_4.size, h_31.size, h_32.size, o_1, o_29, by omega, by omega, by omega, by omega, by omega, by omega, by omega, by omega, by omega, by omega, by omega, by omega, fj⟩
          · intro  h_35  f_32 hL
            replace f_32 := f_32.inIv (lo := h_26.size) (hi := h_31.size) ⟨⟨by omega, by omega⟩, trivial⟩
            have z_f_32 := f_32.size
            replace o_1 := o_1.iv f_32 (by omega)
            replace fj := fj.ivFresh f_32 (by omega)
            refine mk fj fun u_33 h_36 o_33 f_33 => ⟨u_33, rfl, hL.of_no f_33, ?_⟩
            replace hL := hL.of_no f_33
            have z_f_33 := f_33.size
            replace o_1 := o_1.no f_33
            replace fj := fj.no_trans f_33
            intro  h_37  f_34 hL
            replace f_34 := f_34.inIv (lo := h_4.size) (hi := h_26.size) ⟨⟨by omega, by omega⟩, trivial⟩
            have z_f_34 := f_34.size
            replace o_1 := o_1.iv f_34 (by omega)
            replace o_33 := o_33.iv f_34 (by omega)
            replace fj := fj.ivFresh f_34 (by omega)
            exact ⟨rfl, h3.size, h_4.size, h_35.size, h_36.size, o_1, o_33, by omega, by omega, by omega, by omega, by omega, by omega, by omega, by omega, by omega, by omega, by omega, by omega, fj⟩
    · refine mk fj fun u_35 h_38 o_35 f_35 => ⟨u_35, rfl, hL.of_no f_35, ?_⟩
      replace hL := hL.of_no f_35
      have z_f_35 := f_35.size
      replace fj := fj.no_trans f_35
      refine ⟨?_, ?_, ?_⟩
      · refine cp fj fun u_36 h_39 o_36 f_36 => ⟨u_36, _, rfl, hL.of_no f_36, ?_⟩
        replace hL := hL.of_no f_36
        have z_f_36 := f_36.size
        replace o_35 := o_35.no f_36
        replace fj := fj.no_trans f_36
        refine ⟨?_, ?_⟩
        · intro b_15 h_40 hb_b_15 f_37 hL
          have lt_b_15 : b_15 < h_40.size := (hL).head.lt
          replace f_37 := f_37.in_nil
          have z_f_37 := f_37.size
          replace o_35 := o_35.no f_37
          replace o_36 := o_36.no f_37
          replace fj := fj.no_trans f_37
          intro b_16 h_41 hb_b_16 f_38 hL
          have lt_b_16 : b_16 < h_41.size := (hL).head.lt
          replace f_38 := f_38.in_nil
          have z_f_38 := f_38.size
          replace o_35 := o_35.no f_38
          replace o_36 := o_36.no f_38
          replace fj := fj.no_trans f_38
          intro  h_42  f_39 hL
          replace f_39 := f_39.inIv (lo := h_39.size) (hi := h_40.size) ⟨⟨by omega, by omega⟩, trivial⟩
          have z_f_39 := f_39.size
          replace o_35 := o_35.iv f_39 (by omega)
          replace o_36 := o_36.iv f_39 (by omega)
          replace fj := fj.ivFresh f_39 (by omega)
          intro  h_43  f_40 hL
          replace f_40 := f_40.inIv (lo := h_40.size) (hi := h_41.size) ⟨⟨by omega, by omega⟩, trivial⟩
          have z_f_40 := f_40.size
          replace o_35 := o_35.iv f_40 (by omega)
          replace o_36 := o_36.iv f_40 (by omega)
          replace fj := fj.ivFresh f_40 (by omega)
          exact ⟨rfl, h_38.size, h_39.size, h3.size, h_38.size, o_36, o_35, by omega, by omega, by omega, by omega, by omega, by omega, by omega, by omega, by omega, by omega, by omega, by omega, fj⟩
        · intro b_17 h_44 hb_b_17 f_41 hL
          have lt_b_17 : b_17 < h_44.size := (hL).head.lt
          replace f_41 := f_41.in_nil
          have z_f_41 := f_41.size
          replace o_35 := o_35.no f_41
          replace o_36 := o_36.no f_41
          replace fj := fj.no_trans f_41
          intro b_18 h_45 hb_b_18 f_42 hL
          have lt_b_18 : b_18 < h_45.size := (hL).head.lt
          replace f_42 := f_42.in_nil
          have z_f_42 := f_42.size
          replace o_35 := o_35.no f_42
          replace o_36 := o_36.no f_42
          replace fj := fj.no_trans f_42
          intro  h_46  f_43 hL
          replace f_43 := f_43.inIv (lo := h_44.size) (hi := h_45.size) ⟨⟨by omega, by omega⟩, trivial⟩
          have z_f_43 := f_43.size
          replace o_35 := o_35.iv f_43 (by omega)
          replace o_36 := o_36.iv f_43 (by omega)
          replace fj := fj.ivFresh f_43 (by omega)
          intro  h_47  f_44 hL
          replace f_44 := f_44.inIv (lo := h_39.size) (hi := h_44.size) ⟨⟨by omega, by omega⟩, trivial⟩
          have z_f_44 := f_44.size
          replace o_35 := o_35.iv f_44 (by omega)
          replace o_36 := o_36.iv f_44 (by omega)
          replace fj := fj.ivFresh f_44 (by omega)
          exact ⟨rfl, h_38.size, h_39.size, h3.size, h_38.size, o_36, o_35, by omega, by omega, by omega, by omega, by omega, by omega, by omega, by omega, by omega, by omega, by omega, by omega, fj⟩
      · intro b_19 h_48 hb_b_19 f_45 hL
        have lt_b_19 : b_19 < h_48.size := (hL).head.lt
        replace f_45 := f_45.in_nil
        have z_f_45 := f_45.size
        replace o_35 := o_35.no f_45
        replace fj := fj.no_trans f_45
        refine ⟨?_, ?_⟩
        · refine cp fj fun u_46 h_49 o_46 f_46 => ⟨u_46, _, rfl, hL.of_no f_46, ?_⟩
          replace hL := hL.of_no f_46
          have z_f_46 := f_46.size
          replace o_35 := o_35.no f_46
          replace fj := fj.no_trans f_46
          intro b_20 h_50 hb_b_20 f_47 hL
          have lt_b_20 : b_20 < h_50.size := (hL).head.lt
          replace f_47 := f_47.in_nil
          have z_f_47 := f_47.size
          replace o_35 := o_35.no f_47
          replace o_46 := o_46.no f_47
          replace fj := fj.no_trans f_47
          intro  h_51  f_48 hL
          replace f_48 := f_48.inIv (lo := h_38.size) (hi := h_48.size) ⟨⟨by omega, by omega⟩, trivial⟩
          have z_f_48 := f_48.size
          replace o_35 := o_35.iv f_48 (by omega)
          replace o_46 := o_46.iv f_48 (by omega)
          replace fj := fj.ivFresh f_48 (by omega)
          intro  h_52  f_49 hL
          replace f_49 := f_49.inIv (lo := h_49.size) (hi := h_50.size) ⟨⟨by omega, by omega⟩, trivial⟩
          have z_f_49 := f_49.size
          replace o_35 := o_35.iv f_49 (by omega)
          replace o_46 := o_46.iv f_49 (by omega)
          replace fj := fj.ivFresh f_49 (by omega)
          exact ⟨rfl, h_48.size, h_49.size, h3.size, h_38.size, o_46, o_35, by omega, by omega, by omega, by omega, by omega, by omega, by omega, by omega, by omega, by omega, by omega, by omega, fj⟩
        · intro b_21 h_53 hb_b_21 f_50 hL
          have lt_b_21 : b_21 < h_53.size := (hL).head.lt
          replace f_50 := f_50.in_nil
          have z_f_50 := f_50.size
          replace o_35 := o_35.no f_50
          replace fj := fj.no_trans f_50
          refine cp fj fun u_51 h_54 o_51 f_51 => ⟨u_51, _, rfl, hL.of_no f_51, ?_⟩
          replace hL := hL.of_no f_51
          have z_f_51 := f_51.size
          replace o_35 := o_35.no f_51
          replace fj := fj.no_trans f_51
          intro  h_55  f_52 hL
          replace f_52 := f_52.inIv (lo := h_38.size) (hi := h_48.size) ⟨⟨by omega, by omega⟩, trivial⟩
          have z_f_52 := f_52.size
          replace o_35 := o_35.iv f_52 (by omega)
          replace o_51 := o_51.iv f_52 (by omega)
          replace fj := fj.ivFresh f_52 (by omega)
          intro  h_56  f_53 hL
          replace f_53 := f_53.inIv (lo := h_48.size) (hi := h_53.size) ⟨⟨by omega, by omega⟩, trivial⟩
          have z_f_53 := f_53.size
          replace o_35 := o_35.iv f_53 (by omega)
          replace o_51 := o_51.iv f_53 (by omega)
          replace fj := fj.ivFresh f_53 (by omega)
          exact ⟨rfl, h_53.size, h_54.size, h3.size, h_38.size, o_51, o_35, by omega, by omega, by omega, by omega, by omega, by omega, by omega, by omega, by omega, by omega, by omega, by omega, fj⟩
      · intro b_22 h_57 hb_b_22 f_54 hL
        have lt_b_22 : b_22 < h_57.size := (hL).head.lt
        replace f_54 := f_54.in_nil
        have z_f_54 := f_54.size
        replace o_35 := o_35.no f_54
        replace fj := fj.no_trans f_54
        refine ⟨?_, ?_⟩
        · refine cp fj fun u_55 h_58 o_55 f_55 => ⟨u_55, _, rfl, hL.of_no f_55, ?_⟩
          replace hL := hL.of_no f_55
          have z_f_55 := f_55.size
          replace o_35 := o_35.no f_55
          replace fj := fj.no_trans f_55
          intro b_23 h_59 hb_b_23 f_56 hL
          have lt_b_23 : b_23 < h_59.size := (hL).head.lt
          replace f_56 := f_56.in_nil
          have z_f_56 := f_56.size
          replace o_35 := o_35.no f_56
          replace o_55 := o_55.no f_56
          replace fj := fj.no_trans f_56
          intro  h_60  f_57 hL
          replace f_57 := f_57.inIv (lo := h_58.size) (hi := h_59.size) ⟨⟨by omega, by omega⟩, trivial⟩
          have z_f_57 := f_57.size
          replace o_35 := o_35.iv f_57 (by omega)
          replace o_55 := o_55.iv f_57 (by omega)
          replace fj := fj.ivFresh f_57 (by omega)
          intro  h_61  f_58 hL
          replace f_58 := f_58.inIv (lo := h_38.size) (hi := h_57.size) ⟨⟨by omega, by omega⟩, trivial⟩
          have z_f_58 := f_58.size
          replace o_35 := o_35.iv f_58 (by omega)
          replace o_55 := o_55.iv f_58 (by omega)
          replace fj := fj.ivFresh f_58 (by omega)
          exact ⟨rfl, h_57.size, h_58.size, h3.size, h_38.size, o_55, o_35, by omega, by omega, by omega, by omega, by omega, by omega, by omega, by omega, by omega, by omega, by omega, by omega, fj⟩
        · intro b_24 h_62 hb_b_24 f_59 hL
          have lt_b_24 : b_24 < h_62.size := (hL).head.lt
          replace f_59 := f_59.in_nil
          have z_f_59 := f_59.size
          replace o_35 := o_35.no f_59
          replace fj := fj.no_trans f_59
          refine cp fj fun u_60 h_63 o_60 f_60 => ⟨u_60, _, rfl, hL.of_no f_60, ?_⟩
          replace hL := hL.of_no f_60
          have z_f_60 := f_60.size
          replace o_35 := o_35.no f_60
          replace fj := fj.no_trans f_60
          intro  h_64  f_61 hL
          replace f_61 := f_61.inIv (lo := h_57.size) (hi := h_62.size) ⟨⟨by omega, by omega⟩, trivial⟩
          have z_f_61 := f_61.size
          replace o_35 := o_35.iv f_61 (by omega)
          replace o_60 := o_60.iv f_61 (by omega)
          replace fj := fj.ivFresh f_61 (by omega)
          intro  h_65  f_62 hL
          replace f_62 := f_62.inIv (lo := h_38.size) (hi := h_57.size) ⟨⟨by omega, by omega⟩, trivial⟩
          have z_f_62 := f_62.size
          replace o_35 := o_35.iv f_62 (by omega)
          replace o_60 := o_60.iv f_62 (by omega)
          replace fj := fj.ivFresh f_62 (by omega)
          exact ⟨rfl, h_62.size, h_63.size, h3.size, h_38.size, o_60, o_35, by omega, by omega, by omega, by omega, by omega, by omega, by omega, by omega, by omega, by omega, by omega, by omega, fj⟩
    · intro b_25 h_66 hb_b_25 f_63 hL
      have lt_b_25 : b_25 < h_66.size := (hL).head.lt
      replace f_63 := f_63.in_nil
      have z_f_63 := f_63.size
      replace fj := fj.no_trans f_63
      refine ⟨?_, ?_, ?_⟩
      · refine cp fj fun u_64 h_67 o_64 f_64 => ⟨u_64, _, rfl, hL.of_no f_64, ?_⟩
        replace hL := hL.of_no f_64
        have z_f_64 := f_64.size
        replace fj := fj.no_trans f_64
        refine ⟨?_, ?_⟩
        · refine mk fj fun u_65 h_68 o_65 f_65 => ⟨u_65, rfl, hL.of_no f_65, ?_⟩
          replace hL := hL.of_no f_65
          have z_f_65 := f_65.size
          replace o_64 := o_64.no f_65
          replace fj := fj.no_trans f_65
          intro b_26 h_69 hb_b_26 f_66 hL
          have lt_b_26 : b_26 < h_69.size := (hL).head.lt
          replace f_66 := f_66.in_nil
          have z_f_66 := f_66.size
          replace o_64 := o_64.no f_66
          replace o_65 := o_65.no f_66
          replace fj := fj.no_trans f_66
          intro  h_70  f_67 hL
          replace f_67 := f_67.inIv (lo := h3.size) (hi := h_66.size) ⟨⟨by omega, by omega⟩, trivial⟩
          have z_f_67 := f_67.size
          replace o_64 := o_64.iv f_67 (by omega)
          replace o_65 := o_65.iv f_67 (by omega)
          replace fj := fj.ivFresh f_67 (by omega)
          intro  h_71  f_68 hL
          replace f_68 := f_68.inIv (lo := h_68.size) (hi := h_69.size) ⟨⟨by omega, by omega⟩, trivial⟩
          have z_f_68 := f_68.size
          replace o_64 := o_64.iv f_68 (by omega)
          replace o_65 := o_65.iv f_68 (by omega)
          replace fj := fj.ivFresh f_68 (by omega)
          exact ⟨rfl, h_66.size, h_67.size, h_67.size, h_68.size, o_64, o_65, by omega, by omega, by omega, by omega, by omega, by omega, by omega, by omega, by omega, by omega, by omega, by omega, fj⟩
        · intro b_27 h_72 hb_b_27 f_69 hL
          have lt_b_27 : b_27 < h_72.size := (hL).head.lt
          replace f_69 := f_69.in_nil
          have z_f_69 := f_69.size
          replace o_64 := o_64.no f_69
          replace fj := fj.no_trans f_69
          refine ⟨?_, ?_⟩
          · refine mk fj fun u_70 h_73 o_70 f_70 => ⟨u_70, rfl, hL.of_no f_70, ?_⟩
            replace hL := hL.of_no f_70
            have z_f_70 := f_70.size
            replace o_64 := o_64.no f_70
            replace fj := fj.no_trans f_70
            intro  h_74  f_71 hL
            replace f_71 := f_71.inIv (lo := h3.size) (hi := h_66.size) ⟨⟨by omega, by omega⟩, trivial⟩
            have z_f_71 := f_71.size
            replace o_64 := o_64.iv f_71 (by omega)
            replace o_70 := o_70.iv f_71 (by omega)
            replace fj := fj.ivFresh f_71 (by omega)
            intro  h_75  f_72 hL
            replace f_72 := f_72.inIv (lo := h_67.size) (hi := h_72.size) ⟨⟨by omega, by omega⟩, trivial⟩
            have z_f_72 := f_72.size
            replace o_64 := o_64.iv f_72 (by omega)
            replace o_70 := o_70.iv f_72 (by omega)
            replace fj := fj.ivFresh f_72 (by omega)
            exact ⟨rfl, h_66.size, h_67.size, h_72.size, h_73.size, o_64, o_70, by omega, by omega, by omega, by omega, by omega, by omega, by omega, by omega, by omega, by omega, by omega, by omega, fj⟩
          · intro  h_76  f_73 hL
            replace f_73 := f_73.inIv (lo := h3.size) (hi := h_66.size) ⟨⟨by omega, by omega⟩, trivial⟩
            have z_f_73 := f_73.size
            replace o_64 := o_64.iv f_73 (by omega)
            replace fj := fj.ivFresh f_73 (by omega)
            refine mk fj fun u_74 h_77 o_74 f_74 => ⟨u_74, rfl, hL.of_no f_74, ?_⟩
            replace hL := hL.of_no f_74
            have z_f_74 := f_74.size
            replace o_64 := o_64.no f_74
            replace fj := fj.no_trans f_74
            intro  h_78  f_75 hL
            replace f_75 := f_75.inIv (lo := h_67.size) (hi := h_72.size) ⟨⟨by omega, by omega⟩, trivial⟩
            have z_f_75 := f_75.size
            replace o_64 := o_64.iv f_75 (by omega)
            replace o_74 := o_74.iv f_75 (by omega)
            replace fj := fj.ivFresh f_75 (by omega)
            exact ⟨rfl, h_66.size, h_67.size, h_76.size, h_77.size, o_64, o_74, by omega, by omega, by omega, by omega, by omega, by omega, by omega, by omega, by omega, by omega, by omega, by omega, fj⟩
      · refine mk fj fun u_76 h_79 o_76 f_76 => ⟨u_76, rfl, hL.of_no f_76, ?_⟩
        replace hL := hL.of_no f_76
        have z_f_76 := f_76.size
        replace fj := fj.no_trans f_76
        refine ⟨?_, ?_⟩
        · refine cp fj fun u_77 h_80 o_77 f_77 => ⟨u_77, _, rfl, hL.of_no f_77, ?_⟩
          replace hL := hL.of_no f_77
          have z_f_77 := f_77.size
          replace o_76 := o_76.no f_77
          replace fj := fj.no_trans f_77
          intro b_28 h_81 hb_b_28 f_78 hL
          have lt_b_28 : b_28 < h_81.size := (hL).head.lt
          replace f_78 := f_78.in_nil
          have z_f_78 := f_78.size
          replace o_76 := o_76.no f_78
          replace o_77 := o_77.no f_78
          replace fj := fj.no_trans f_78
          intro  h_82  f_79 hL
          replace f_79 := f_79.inIv (lo := h3.size) (hi := h_66.size) ⟨⟨by omega, by omega⟩, trivial⟩
          have z_f_79 := f_79.size
          replace o_76 := o_76.iv f_79 (by omega)
          replace o_77 := o_77.iv f_79 (by omega)
          replace fj := fj.ivFresh f_79 (by omega)
          intro  h_83  f_80 hL
          replace f_80 := f_80.inIv (lo := h_80.size) (hi := h_81.size) ⟨⟨by omega, by omega⟩, trivial⟩
          have z_f_80 := f_80.size
          replace o_76 := o_76.iv f_80 (by omega)
          replace o_77 := o_77.iv f_80 (by omega)
          replace fj := fj.ivFresh f_80 (by omega)
          exact ⟨rfl, h_79.size, h_80.size, h_66.size, h_79.size, o_77, o_76, by omega, by omega, by omega, by omega, by omega, by omega, by omega, by omega, by omega, by omega, by omega, by omega, fj⟩
        · intro b_29 h_84 hb_b_29 f_81 hL
          have lt_b_29 : b_29 < h_84.size := (hL).head.lt
          replace f_81 := f_81.in_nil
          have z_f_81 := f_81.size
          replace o_76 := o_76.no f_81
          replace fj := fj.no_trans f_81
          refine cp fj fun u_82 h_85 o_82 f_82 => ⟨u_82, _, rfl, hL.of_no f_82, ?_⟩
          replace hL := hL.of_no f_82
          have z_f_82 := f_82.size
          replace o_76 := o_76.no f_82
          replace fj := fj.no_trans f_82
          intro  h_86  f_83 hL
          replace f_83 := f_83.inIv (lo := h3.size) (hi := h_66.size) ⟨⟨by omega, by omega⟩, trivial⟩
          have z_f_83 := f_83.size
          replace o_76 := o_76.iv f_83 (by omega)
          replace o_82 := o_82.iv f_83 (by omega)
          replace fj := fj.ivFresh f_83 (by omega)
          intro  h_87  f_84 hL
          replace f_84 := f_84.inIv (lo := h_79.size) (hi := h_84.size) ⟨⟨by omega, by omega⟩, trivial⟩
          have z_f_84 := f_84.size
          replace o_76 := o_76.iv f_84 (by omega)
          replace o_82 := o_82.iv f_84 (by omega)
          replace fj := fj.ivFresh f_84 (by omega)
          exact ⟨rfl, h_84.size, h_85.size, h_66.size, h_79.size, o_82, o_76, by omega, by omega, by omega, by omega, by omega, by omega, by omega, by omega, by omega, by omega, by omega, by omega, fj⟩
      · intro b_30 h_88 hb_b_30 f_85 hL
        have lt_b_30 : b_30 < h_88.size := (hL).head.lt
        replace f_85 := f_85.in_nil
        have z_f_85 := f_85.size
        replace fj := fj.no_trans f_85
        refine ⟨?_, ?_⟩
        · refine cp fj fun u_86 h_89 o_86 f_86 => ⟨u_86, _, rfl, hL.of_no f_86, ?_⟩
          replace hL := hL.of_no f_86
          have z_f_86 := f_86.size
          replace fj := fj.no_trans f_86
          refine ⟨?_, ?_⟩
          · refine mk fj fun u_87 h_90 o_87 f_87 => ⟨u_87, rfl, hL.of_no f_87, ?_⟩
            replace hL := hL.of_no f_87
            have z_f_87 := f_87.size
            replace o_86 := o_86.no f_87
            replace fj := fj.no_trans f_87
            intro  h_91  f_88 hL
            replace f_88 := f_88.inIv (lo := h3.size) (hi := h_66.size) ⟨⟨by omega, by omega⟩, trivial⟩
            have z_f_88 := f_88.size
            replace o_86 := o_86.iv f_88 (by omega)
            replace o_87 := o_87.iv f_88 (by omega)
            replace fj := fj.ivFresh f_88 (by omega)
            intro  h_92  f_89 hL
            replace f_89 := f_89.inIv (lo := h_66.size) (hi := h_88.size) ⟨⟨by omega, by omega⟩, trivial⟩
            have z_f_89 := f_89.size
            replace o_86 := o_86.iv f_89 (by omega)
            replace o_87 := o_87.iv f_89 (by omega)
            replace fj := fj.ivFresh f_89 (by omega)
            exact ⟨rfl, h_88.size, h_89.size, h_89.size, h_90.size, o_86, o_87, by omega, by omega, by omega, by omega, by omega, by omega, by omega, by omega, by omega, by omega, by omega, by omega, fj⟩
          · intro  h_93  f_90 hL
            replace f_90 := f_90.inIv (lo := h3.size) (hi := h_66.size) ⟨⟨by omega, by omega⟩, trivial⟩
            have z_f_90 := f_90.size
            replace o_86 := o_86.iv f_90 (by omega)
            replace fj := fj.ivFresh f_90 (by omega)
            refine mk fj fun u_91 h_94 o_91 f_91 => ⟨u_91, rfl, hL.of_no f_91, ?_⟩
            replace hL := hL.of_no f_91
            have z_f_91 := f_91.size
            replace o_86 := o_86.no f_91
            replace fj := fj.no_trans f_91
            intro  h_95  f_92 hL
            replace f_92 := f_92.inIv (lo := h_66.size) (hi := h_88.size) ⟨⟨by omega, by omega⟩, trivial⟩
            have z_f_92 := f_92.size
            replace o_86 := o_86.iv f_92 (by omega)
            replace o_91 := o_91.iv f_92 (by omega)
            replace fj := fj.ivFresh f_92 (by omega)
            exact ⟨rfl, h_88.size, h_89.size, h_93.size, h_94.size, o_86, o_91, by omega, by omega, by omega, by omega, by omega, by omega, by omega, by omega, by omega, by omega, by omega, by omega, fj⟩
        · refine mk fj fun u_93 h_96 o_93 f_93 => ⟨u_93, rfl, hL.of_no f_93, ?_⟩
          replace hL := hL.of_no f_93
          have z_f_93 := f_93.size
          replace fj := fj.no_trans f_93
          refine cp fj fun u_94 h_97 o_94 f_94 => ⟨u_94, _, rfl, hL.of_no f_94, ?_⟩
          replace hL := hL.of_no f_94
          have z_f_94 := f_94.size
          replace o_93 := o_93.no f_94
          replace fj := fj.no_trans f_94
          intro  h_98  f_95 hL
          replace f_95 := f_95.inIv (lo := h3.size) (hi := h_66.size) ⟨⟨by omega, by omega⟩, trivial⟩
          have z_f_95 := f_95.size
          replace o_93 := o_93.iv f_95 (by omega)
          replace o_94 := o_94.iv f_95 (by omega)
          replace fj := fj.ivFresh f_95 (by omega)
          intro  h_99  f_96 hL
          replace f_96 := f_96.inIv (lo := h_66.size) (hi := h_88.size) ⟨⟨by omega, by omega⟩, trivial⟩
          have z_f_96 := f_96.size
          replace o_93 := o_93.iv f_96 (by omega)
          replace o_94 := o_94.iv f_96 (by omega)
          replace fj := fj.ivFresh f_96 (by omega)
          exact ⟨rfl, h_96.size, h_97.size, h_88.size, h_96.size, o_94, o_93, by omega, by omega, by omega, by omega, by omega, by omega, by omega, by omega, by omega, by omega, by omega, by omega, fj⟩
    · intro b_31 h_100 hb_b_31 f_97 hL
      have lt_b_31 : b_31 < h_100.size := (hL).head.lt
      replace f_97 := f_97.in_nil
      have z_f_97 := f_97.size
      replace fj := fj.no_trans f_97
      refine ⟨?_, ?_, ?_⟩
      · refine cp fj fun u_98 h_101 o_98 f_98 => ⟨u_98, _, rfl, hL.of_no f_98, ?_⟩
        replace hL := hL.of_no f_98
        have z_f_98 := f_98.size
        replace fj := fj.no_trans f_98
        refine ⟨?_, ?_⟩
        · refine mk fj fun u_99 h_102 o_99 f_99 => ⟨u_99, rfl, hL.of_no f_99, ?_⟩
          replace hL := hL.of_no f_99
          have z_f_99 := f_99.size
          replace o_98 := o_98.no f_99
          replace fj := fj.no_trans f_99
          intro b_32 h_103 hb_b_32 f_100 hL
          have lt_b_32 : b_32 < h_103.size := (hL).head.lt
          replace f_100 := f_100.in_nil
          have z_f_100 := f_100.size
          replace o_98 := o_98.no f_100
          replace o_99 := o_99.no f_100
          replace fj := fj.no_trans f_100
          intro  h_104  f_101 hL
          replace f_101 := f_101.inIv (lo := h_102.size) (hi := h_103.size) ⟨⟨by omega, by omega⟩, trivial⟩
          have z_f_101 := f_101.size
          replace o_98 := o_98.iv f_101 (by omega)
          replace o_99 := o_99.iv f_101 (by omega)
          replace fj := fj.ivFresh f_101 (by omega)
          intro  h_105  f_102 hL
          replace f_102 := f_102.inIv (lo := h3.size) (hi := h_100.size) ⟨⟨by omega, by omega⟩, trivial⟩
          have z_f_102 := f_102.size
          replace o_98 := o_98.iv f_102 (by omega)
          replace o_99 := o_99.iv f_102 (by omega)
          replace fj := fj.ivFresh f_102 (by omega)
          exact ⟨rfl, h_100.size, h_101.size, h_101.size, h_102.size, o_98, o_99, by omega, by omega, by omega, by omega, by omega, by omega, by omega, by omega, by omega, by omega, by omega, by omega, fj⟩
        · intro b_33 h_106 hb_b_33 f_103 hL
          have lt_b_33 : b_33 < h_106.size := (hL).head.lt
          replace f_103 := f_103.in_nil
          have z_f_103 := f_103.size
          replace o_98 := o_98.no f_103
          replace fj := fj.no_trans f_103
          refine ⟨?_, ?_⟩
          · refine mk fj fun u_104 h_107 o_104 f_104 => ⟨u_104, rfl, hL.of_no f_104, ?_⟩
            replace hL := hL.of_no f_104
            have z_f_104 := f_104.size
            replace o_98 := o_98.no f_104
            replace fj := fj.no_trans f_104
            intro  h_108  f_105 hL
            replace f_105 := f_105.inIv (lo := h_101.size) (hi := h_106.size) ⟨⟨by omega, by omega⟩, trivial⟩
            have z_f_105 := f_105.size
            replace o_98 := o_98.iv f_105 (by omega)
            replace o_104 := o_104.iv f_105 (by omega)
            replace fj := fj.ivFresh f_105 (by omega)
            intro  h_109  f_106 hL
            replace f_106 := f_106.inIv (lo := h3.size) (hi := h_100.size) ⟨⟨by omega, by omega⟩, trivial⟩
            have z_f_106 := f_106.size
            replace o_98 := o_98.iv f_106 (by omega)
            replace o_104 := o_104.iv f_106 (by omega)
            replace fj := fj.ivFresh f_106 (by omega)
            exact ⟨rfl, h_100.size, h_101.size, h_106.size, h_107.size, o_98, o_104, by omega, by omega, by omega, by omega, by omega, by omega, by omega, by omega, by omega, by omega, by omega, by omega, fj⟩
          · intro  h_110  f_107 hL
            replace f_107 := f_107.inIv (lo := h_101.size) (hi := h_106.size) ⟨⟨by omega, by omega⟩, trivial⟩
            have z_f_107 := f_107.size
            replace o_98 := o_98.iv f_107 (by omega)
            replace fj := fj.ivFresh f_107 (by omega)
            refine mk fj fun u_108 h_111 o_108 f_108 => ⟨u_108, rfl, hL.of_no f_108, ?_⟩
            replace hL := hL.of_no f_108
            have z_f_108 := f_108.size
            replace o_98 := o_98.no f_108
            replace fj := fj.no_trans f_108
            intro  h_112  f_109 hL
            replace f_109 := f_109.inIv (lo := h3.size) (hi := h_100.size) ⟨⟨by omega, by omega⟩, trivial⟩
            have z_f_109 := f_109.size
            replace o_98 := o_98.iv f_109 (by omega)
            replace o_108 := o_108.iv f_109 (by omega)
            replace fj := fj.ivFresh f_109 (by omega)
            exact ⟨rfl, h_100.size, h_101.size, h_110.size, h_111.size, o_98, o_108, by omega, by omega, by omega, by omega, by omega, by omega, by omega, by omega, by omega, by omega, by omega, by omega, fj⟩
      · refine mk fj fun u_110 h_113 o_110 f_110 => ⟨u_110, rfl, hL.of_no f_110, ?_⟩
        replace hL := hL.of_no f_110
        have z_f_110 := f_110.size
        replace fj := fj.no_trans f_110
        refine ⟨?_, ?_⟩
        · refine cp fj fun u_111 h_114 o_111 f_111 => ⟨u_111, _, rfl, hL.of_no f_111, ?_⟩
          replace hL := hL.of_no f_111
          have z_f_111 := f_111.size
          replace o_110 := o_110.no f_111
          replace fj := fj.no_trans f_111
          intro b_34 h_115 hb_b_34 f_112 hL
          have lt_b_34 : b_34 < h_115.size := (hL).head.lt
          replace f_112 := f_112.in_nil
          have z_f_112 := f_112.size
          replace o_110 := o_110.no f_112
          replace o_111 := o_111.no f_112
          replace fj := fj.no_trans f_112
          intro  h_116  f_113 hL
          replace f_113 := f_113.inIv (lo := h_114.size) (hi := h_115.size) ⟨⟨by omega, by omega⟩, trivial⟩
          have z_f_113 := f_113.size
          replace o_110 := o_110.iv f_113 (by omega)
          replace o_111 := o_111.iv f_113 (by omega)
          replace fj := fj.ivFresh f_113 (by omega)
          intro  h_117  f_114 hL
          replace f_114 := f_114.inIv (lo := h3.size) (hi := h_100.size) ⟨⟨by omega, by omega⟩, trivial⟩
          have z_f_114 := f_114.size
          replace o_110 := o_110.iv f_114 (by omega)
          replace o_111 := o_111.iv f_114 (by omega)
          replace fj := fj.ivFresh f_114 (by omega)
          exact ⟨rfl, h_113.size, h_114.size, h_100.size, h_113.size, o_111, o_110, by omega, by omega, by omega, by omega, by omega, by omega, by omega, by omega, by omega, by omega, by omega, by omega, fj⟩
        · intro b_35 h_118 hb_b_35 f_115 hL
          have lt_b_35 : b_35 < h_118.size := (hL).head.lt
          replace f_115 := f_115.in_nil
          have z_f_115 := f_115.size
          replace o_110 := o_110.no f_115
          replace fj := fj.no_trans f_115
          refine cp fj fun u_116 h_119 o_116 f_116 => ⟨u_116, _, rfl, hL.of_no f_116, ?_⟩
          replace hL := hL.of_no f_116
          have z_f_116 := f_116.size
          replace o_110 := o_110.no f_116
          replace fj := fj.no_trans f_116
          intro  h_120  f_117 hL
          replace f_117 := f_117.inIv (lo := h_113.size) (hi := h_118.size) ⟨⟨by omega, by omega⟩, trivial⟩
          have z_f_117 := f_117.size
          replace o_110 := o_110.iv f_117 (by omega)
          replace o_116 := o_116.iv f_117 (by omega)
          replace fj := fj.ivFresh f_117 (by omega)
          intro  h_121  f_118 hL
          replace f_118 := f_118.inIv (lo := h3.size) (hi := h_100.size) ⟨⟨by omega, by omega⟩, trivial⟩
          have z_f_118 := f_118.size
          replace o_110 := o_110.iv f_118 (by omega)
          replace o_116 := o_116.iv f_118 (by omega)
          replace fj := fj.ivFresh f_118 (by omega)
          exact ⟨rfl, h_118.size, h_119.size, h_100.size, h_113.size, o_116, o_110, by omega, by omega, by omega, by omega, by omega, by omega, by omega, by omega, by omega, by omega, by omega, by omega, fj⟩
      · intro b_36 h_122 hb_b_36 f_119 hL
        have lt_b_36 : b_36 < h_122.size := (hL).head.lt
        replace f_119 := f_119.in_nil
        have z_f_119 := f_119.size
        replace fj := fj.no_trans f_119
        refine ⟨?_, ?_⟩
        · refine cp fj fun u_120 h_123 o_120 f_120 => ⟨u_120, _, rfl, hL.of_no f_120, ?_⟩
          replace hL := hL.of_no f_120
          have z_f_120 := f_120.size
          replace fj := fj.no_trans f_120
          refine ⟨?_, ?_⟩
          · refine mk fj fun u_121 h_124 o_121 f_121 => ⟨u_121, rfl, hL.of_no f_121, ?_⟩
            replace hL := hL.of_no f_121
            have z_f_121 := f_121.size
            replace o_120 := o_120.no f_121
            replace fj := fj.no_trans f_121
            intro  h_125  f_122 hL
            replace f_122 := f_122.inIv (lo := h_100.size) (hi := h_122.size) ⟨⟨by omega, by omega⟩, trivial⟩
            have z_f_122 := f_122.size
            replace o_120 := o_120.iv f_122 (by omega)
            replace o_121 := o_121.iv f_122 (by omega)
            replace fj := fj.ivFresh f_122 (by omega)
            intro  h_126  f_123 hL
            replace f_123 := f_123.inIv (lo := h3.size) (hi := h_100.size) ⟨⟨by omega, by omega⟩, trivial⟩
            have z_f_123 := f_123.size
            replace o_120 := o_120.iv f_123 (by omega)
            replace o_121 := o_121.iv f_123 (by omega)
            replace fj := fj.ivFresh f_123 (by omega)
            exact ⟨rfl, h_122.size, h_123.size, h_123.size, h_124.size, o_120, o_121, by omega, by omega, by omega, by omega, by omega, by omega, by omega, by omega, by omega, by omega, by omega, by omega, fj⟩
          · intro  h_127  f_124 hL
            replace f_124 := f_124.inIv (lo := h_100.size) (hi := h_122.size) ⟨⟨by omega, by omega⟩, trivial⟩
            have z_f_124 := f_124.size
            replace o_120 := o_120.iv f_124 (by omega)
            replace fj := fj.ivFresh f_124 (by omega)
            refine mk fj fun u_125 h_128 o_125 f_125 => ⟨u_125, rfl, hL.of_no f_125, ?_⟩
            replace hL := hL.of_no f_125
            have z_f_125 := f_125.size
            replace o_120 := o_120.no f_125
            replace fj := fj.no_trans f_125
            intro  h_129  f_126 hL
            replace f_126 := f_126.inIv (lo := h3.size) (hi := h_100.size) ⟨⟨by omega, by omega⟩, trivial⟩
            have z_f_126 := f_126.size
            replace o_120 := o_120.iv f_126 (by omega)
            replace o_125 := o_125.iv f_126 (by omega)
            replace fj := fj.ivFresh f_126 (by omega)
            exact ⟨rfl, h_122.size, h_123.size, h_127.size, h_128.size, o_120, o_125, by omega, by omega, by omega, by omega, by omega, by omega, by omega, by omega, by omega, by omega, by omega, by omega, fj⟩
        · refine mk fj fun u_127 h_130 o_127 f_127 => ⟨u_127, rfl, hL.of_no f_127, ?_⟩
          replace hL := hL.of_no f_127
          have z_f_127 := f_127.size
          replace fj := fj.no_trans f_127
          refine cp fj fun u_128 h_131 o_128 f_128 => ⟨u_128, _, rfl, hL.of_no f_128, ?_⟩
          replace hL := hL.of_no f_128
          have z_f_128 := f_128.size
          replace o_127 := o_127.no f_128
          replace fj := fj.no_trans f_128
          intro  h_132  f_129 hL
          replace f_129 := f_129.inIv (lo := h_100.size) (hi := h_122.size) ⟨⟨by omega, by omega⟩, trivial⟩
          have z_f_129 := f_129.size
          replace o_127 := o_127.iv f_129 (by omega)
          replace o_128 := o_128.iv f_129 (by omega)
          replace fj := fj.ivFresh f_129 (by omega)
          intro  h_133  f_130 hL
          replace f_130 := f_130.inIv (lo := h3.size) (hi := h_100.size) ⟨⟨by omega, by omega⟩, trivial⟩
          have z_f_130 := f_130.size
          replace o_127 := o_127.iv f_130 (by omega)
          replace o_128 := o_128.iv f_130 (by omega)
          replace fj := fj.ivFresh f_130 (by omega)
          exact ⟨rfl, h_130.size, h_131.size, h_122.size, h_130.size, o_128, o_127, by omega, by omega, by omega, by omega, by omega, by omega, by omega, by omega, by omega, by omega, by omega, by omega, fj⟩
  rintro bN x1 x2 bO x3 h134 ⟨rfl, i1, j1, i2, j2, o1, o2, d12, dN1, dN2, dO1, dO2, e1, e2', e3, e4, e5, e6, hne, f134⟩ hL134
  have f0 := f03.no_trans f134
  have z134 := f134.size
  have lO : bO < h134.size := hL134.head.lt
  have lN : bN < h134.size := hL134.tail.head.lt
  have G134 : RdR (fun k => k < h3.size) h134 g xss := (G.no f03).low.no f134
  have xN : ¬ x1.own bN := fun hk => by have h1 := (o1.foot hk).1.1; have h2 := (o1.foot hk).1.2; omega
  have xO : ¬ x3.own bO := fun hk => by have h1 := (o2.foot hk).1.1; have h2 := (o2.foot hk).1.2; omega
  have x1O : ¬ x1.own bO := fun hk => by have h1 := (o1.foot hk).1.1; have h2 := (o1.foot hk).1.2; omega
  have x3N : ¬ x3.own bN := fun hk => by have h1 := (o2.foot hk).1.1; have h2 := (o2.foot hk).1.2; omega
  have x13 : ∀ k, x1.own k → ¬ x3.own k := fun k h1 h3 => by have a1 := (o1.foot h1).1.1; have a2 := (o1.foot h1).1.2; have a3 := (o2.foot h3).1.1; have a4 := (o2.foot h3).1.2; omega
  have x1g : ∀ k, x1.own k → h3.size ≤ k ∧ k < h134.size := fun k hk => ⟨by have := (o1.foot hk).1.1; omega, (o1.foot hk).2⟩
  have x3g : ∀ k, x3.own k → h3.size ≤ k ∧ k < h134.size := fun k hk => ⟨by have := (o2.foot hk).1.1; omega, (o2.foot hk).2⟩
  -- what the walk's region and the other one are off
  have offV : ∀ k, (k = bN ∨ x1.own k) ∨ (k = bO ∨ x3.own k) → h3.size ≤ k := fun k hk => by
    rcases hk with (rfl | hk) | (rfl | hk)
    · omega
    · exact (x1g k hk).1
    · omega
    · exact (x3g k hk).1
  refine k_run (s0 := (rs, x2)) (F := fun k => k = bN ∨ x1.own k) (S := fun k => k < h3.size) visU
    (fun N t h' => ∃ o : Sl, IsVar h' bO [o.v] ∧ OwI h' (fun k => h3.size ≤ k) o t ∧ ∀ k, o.own k → x3.own k ∨ N ≤ k) (fun k => k = bO ∨ x3.own k)
    G134 hL134.tail.head (o1.mono fun k hk _ => .inr hk) (fun k hk => ⟨fun h => by have := offV k (.inl h); omega, fun h => by have := offV k (.inr h); omega⟩) (.inl rfl) xN W n (by omega) (by omega) _ (List.replicate xss.length 0)
    (fun k hk => by rcases hk with rfl | hk; exact lN; exact (x1g k hk).2)
    (fun k hk => ⟨fun h => by
      rcases hk with rfl | hk <;> rcases h with rfl | h
      · exact hne rfl
      · exact x1O h
      · exact x3N hk
      · exact x13 k h hk, by rcases hk with rfl | hk; exact lO; exact (x3g k hk).2⟩)
    (fun N hN => ⟨x3, hL134.head, o2.mono fun k _ hk => by have := hk.1; omega, fun k hk => .inl hk⟩)
    (fun N t h1 h2 U ⟨o, v1, v2, v3⟩ f hU => ⟨o, v1.fr f fun h => (hU _ h).1 (.inl rfl), v2.fr f fun k hk hk2 => by
      rcases v3 k hk with h | h
      · exact (hU k hk2).1 (.inr h)
      · have := (hU k hk2).2; omega, v3⟩)
    (fun N t s s' h1 K hN hN2 ⟨o, v1, v2, v3⟩ V O W hs hm HK => ?_) _ (fun hr N t h9 q hN ⟨o, v1, v2, v3⟩ v9 f9 => ?_) fun t' s' hr N h9 hN ⟨o, v1, v2, v3⟩ o9 W9 v9 f9 => ?_
  · obtain ⟨m, hm, hr⟩ := hm
    have hl := vis_ok m 0 _ _ _ _ (fun x hx => by simp only [List.mem_replicate] at hx; omega) hr
    have ob : ¬ o.own bO := fun hk => by
      rcases v3 _ hk with h | h
      · exact xO h
      · omega
    have ob' : ¬ o.own bN := fun hk => by
      rcases v3 _ hk with h | h
      · exact x3N h
      · omega
    have W' := W.step hs
    have ht : t.length = xss.length := by rw [hl.1]; simp
    refine k_vis1 v1 V hne v2 ob ob' W'.lo (by rw [ht]; exact W'.hi) (fun x hx => by have := hl.2 x hx; omega) s.2 K fun h2 v w1 w2 w4 => HK h2 v ⟨o, w1, w2, v3⟩ (w4.mono fun k _ hk => (v3 k hk).imp .inr id)
  · have hL9 : Vars h9 [(bO, [o.v]), (bN, [x1.v, VI q]), (b2, [w.v, VI x2]), (b1, [g.v])] := .cons v1 (fun p hp => by
      have := hL134.ne
      simp only [List.mem_cons, List.not_mem_nil, or_false] at hp
      rcases hp with rfl | rfl | rfl <;> simp only <;> omega) (.cons v9 (fun p hp => by
      simp only [List.mem_cons, List.not_mem_nil, or_false] at hp
      rcases hp with rfl | rfl <;> simp only <;> omega) (hL134.tail.tail.fr f9 fun p hp hk => by
      have := offV _ hk
      simp only [List.mem_cons, List.not_mem_nil, or_false] at hp
      rcases hp with rfl | rfl <;> simp only at this <;> omega))
    refine ⟨o, x1, q, false, rfl, hL9, fun _ => ?_, fun e => by simp at e⟩
    rw [hr] at e2
    exact no e2 h9 (f0.fresh f9 fun k hk => by have := offV k hk; omega)
  · have hL9 : Vars h9 [(bO, [o.v]), (bN, [x1.v, VI s'.2]), (b2, [w.v, VI x2]), (b1, [g.v])] := .cons v1 (fun p hp => by
      simp only [List.mem_cons, List.not_mem_nil, or_false] at hp
      rcases hp with rfl | rfl | rfl <;> simp only <;> omega) (.cons v9 (fun p hp => by
      simp only [List.mem_cons, List.not_mem_nil, or_false] at hp
      rcases hp with rfl | rfl <;> simp only <;> omega) (hL134.tail.tail.fr f9 fun p hp hk => by
      have := offV _ hk
      simp only [List.mem_cons, List.not_mem_nil, or_false] at hp
      rcases hp with rfl | rfl <;> simp only at this <;> omega))
    refine ⟨o, x1, s'.2, true, rfl, hL9, fun e => by simp at e, fun _ => ?_⟩
    rw [hr] at e2
    have := HK o h9 (by rw [e2]; exact v2.mono fun k hk hF => ⟨by omega, (v2.foot hk).2⟩) (f0.fresh f9 fun k hk => by have := offV k hk; omega)
    rw [e2] at this
    exact this
theorem pass_len {g : List (List Int)} : ∀ (m : Nat) (t : List Int) (s : St) (t' : List Int) (s' : St), runT g passU m t s = some (t', s') → t'.length = t.length + m
  | 0, t, s, t', s', h => by
    simp only [runT, Option.some.injEq, Prod.mk.injEq] at h
    rw [h.1]
    rfl
  | m + 1, t, s, t', s', h => by
    rw [runT] at h
    split at h
    · cases h
    · have := pass_len m _ _ _ _ h
      simp [passU] at this
      omega
theorem k_pass1 {F : Nat → Prop} {b b' : Nat} {h : Heap} {o w : Sl} {ps : List Int} {q : Int} (V : IsVar h b [o.v]) (V' : IsVar h b' [w.v, VI q]) (hbb : b' ≠ b) (O : OwI h F o ps) (hFF : ∀ k, h.size ≤ k → F k) (hb : ¬ o.own b) (hb' : ¬ o.own b') (hn : ps.length ≤ 1000000) (x : Int) (K : Value → Heap → Prop)
    (HK : ∀ h' o' v, IsVar h' b [o'.v] → OwI h' F o' (ps ++ [q]) → (∀ k, o'.own k → o.own k ∨ h.size ≤ k) → Fr (fun k => k = b ∨ o.own k) h h' → K v h') : callV Tryd.prog (.func (.func 78) #[] #[VP b 0, VP b' 0]) [VI x] h K := by
  refine v78 x b o b' w q h K (.cons V (by simpa using hbb) (.cons V' (by simp) .nil)) ?_
  refine eop_lit rIs (fun k => h.size ≤ k) (fun _ h => h) 1 (by omega) [VI q] rfl rfl fun v h1 n1 c1 o1 f1 m1 _ => ⟨v, rfl, .cons (V.fr f1 fun h => h) (by simpa using hbb) (.cons (V'.fr f1 fun h => h) (by simp) .nil), ?_⟩
  have z1 := f1.size
  have o1 : RdI v.own h1 v [q] := o1.rd
  have O1 := Ow.no O f1
  refine eop_append rIs O1 (fun k hk => hFF k (by omega)) o1 (plainVI _) (by have h1 := RdI.len O1.rdF; have h2 := o1.len; simp at h2; omega) fun y h2 n2 o2 f2 d2 => ⟨y, rfl, .cons ((V.fr f1 fun h => h).fr f2 hb) (by simpa using hbb) (.cons ((V'.fr f1 fun h => h).fr f2 hb') (by simp) .nil), fun h3 f3 hL3 => ?_⟩
  rw [← List.map_append] at o2
  have hbl := V.lt
  have hin : ∀ k, In [b] k → k = b := fun k hk => by simpa [In] using hk
  have hyb : ¬ y.own b := fun hk => by
    rcases d2 b hk with h1 | h1
    · exact hb h1
    · omega
  refine HK h3 y _ hL3.head (Ow.fr o2 f3 fun k hk hk2 => hyb (by have := hin k hk2; subst this; exact hk)) (fun k hk => (d2 k hk).imp id fun h => by omega) ?_
  exact (f1.of_no.trans (f2.mono fun k _ hk => .inr hk)).trans (f3.mono fun k _ hk => .inl (hin k hk))
theorem k_PlacesPassed {S S' : Nat → Prop} {h : Heap} {g w : Sl} {xss : List (List Int)} {rs : List Int} (G : RdR S h g xss) (H : RdI S' h w rs) (p n : Int) (K : Value → Heap → Prop) (HK : ∀ t h', OwI h' (Iv h.size h'.size) t (passP xss rs p n).1 → Fr No h h' → K (.tuple #[t.v, VB (passP xss rs p n).2]) h') : callM Tryd.prog 28 #[.agg #[g.v], .agg #[w.v, VI p], VI n] h K := by
  refine v28 g w p n h K fun b1 b2 h2 hb1 hb2 f2 hL2 => ?_
  have f2 := f2.in_nil
  have no : passP xss rs p n = ([], false) → ∀ h', Fr No h h' → K (.tuple #[nilSl.v, VB false]) h' := fun e h' f => by
    have := HK nilSl h' (by rw [e]; exact Ow.nil _ _ _ _) f
    rw [e] at this
    exact this
  refine k_isRun (G.no f2) (H.no f2) p n 200 _ fun h3 f3 => ⟨_, rfl, hL2.of_no f3, fun e => ?_, fun e => ?_⟩
  · exact no (by unfold passP; rw [if_neg (by rw [not_t e]; simp)]) _ (f2.no_trans f3)
  have e := not_f e
  have e2 : passP xss rs p n = match runT xss passU n.toNat [p] (rs, p) with
    | none => ([], false)
    | some (t, _) => (t, true) := by unfold passP; exact if_pos e
  rw [Bool.and_eq_true, inR_iff] at e
  have W := wok_of e.1
  have hgl := graph_len W.graph
  have f03 := f2.no_trans f3
  have z03 := f03.size
  have hL := hL2.of_no f3
  have l2 : b2 < h3.size := hL.head.lt
  have l1 : b1 < h3.size := hL.tail.head.lt
  have fj : Fr No h3 h3 := Fr.refl _ _
  have cp : ∀ {h1 : Heap} {K : Value → Heap → Prop}, Fr No h3 h1 → (∀ t h2, OwI h2 (Iv h1.size h2.size) t rs → Fr No h1 h2 → K (.agg #[t.v, VI p]) h2) → callM Tryd.prog 69 #[.agg #[w.v, VI p]] h1 K := fun f HK => k_copiedW ((H.no f03).no f) p (by have := W.len; simp only at this; omega) _ HK
  have lit : ∀ {h1 : Heap} {K : Value → Heap → Prop}, Fr No h3 h1 → (∀ t h2, OwI h2 (Iv h1.size h2.size) t [p] → Fr No h1 h2 → K t.v h2) → eop Tryd.prog (Instr.buildSlice tIs 1 #[(0, VI p)]) h1 K := fun _ HK => eop_lit rIs (fun k => _ ≤ k) (fun _ h => h) 1 (by omega) [VI p] rfl rfl fun t h2 n2 c2 o2 f2 m2 _ => HK t h2 (Ow.toIv o2) f2
  refine ⟨fun bN xw xp bO xo h' => xp = p ∧ ∃ i1 j1 i2 j2, OwI h' (Iv i1 j1) xw rs ∧ OwI h' (Iv i2 j2) xo [p] ∧ (j1 ≤ i2 ∨ j2 ≤ i1) ∧ (bN < i1 ∨ j1 ≤ bN) ∧ (bN < i2 ∨ j2 ≤ bN) ∧ (bO < i1 ∨ j1 ≤ bO) ∧ (bO < i2 ∨ j2 ≤ bO) ∧ h3.size ≤ i1 ∧ h3.size ≤ i2 ∧ h3.size ≤ bN ∧ h3.size ≤ bO ∧ j1 ≤ h'.size ∧ j2 ≤ h'.size ∧ bN ≠ bO ∧ Fr No h3 h', ?_, ?_⟩
  · refine ⟨?_, ?_, ?_, ?_⟩
    · refine cp fj fun u_1 h_4 o_1 f_1 => ⟨u_1, _, rfl, hL.of_no f_1, ?_⟩
      replace hL := hL.of_no f_1
      have z_f_1 := f_1.size
      replace fj := fj.no_trans f_1
      refine ⟨?_, ?_, ?_⟩
      · refine lit fj fun u_2 h_5 o_2 f_2 => ⟨u_2, rfl, hL.of_no f_2, ?_⟩
        replace hL := hL.of_no f_2
        have z_f_2 := f_2.size
        replace o_1 := o_1.no f_2
        replace fj := fj.no_trans f_2
        refine ⟨?_, ?_⟩
        · intro b_5 b_6 h_9 hb_b_5 hb_b_6 f_3 hL
          have lt_b_5 : b_5 < h_9.size := (hL.tail).head.lt
          have lt_b_6 : b_6 < h_9.size := (hL).head.lt
          have ne_b_5 : b_5 ≠ b_6 := hL.ne (b_5, _) List.mem_cons_self
          replace f_3 := f_3.in_nil
          have z_f_3 := f_3.size
          replace o_1 := o_1.no f_3
          replace o_2 := o_2.no f_3
          replace fj := fj.no_trans f_3
          exact ⟨rfl, h3.size, h_4.size, h_4.size, h_5.size, o_1, o_2, by omega, by omega, by omega, by omega, by omega, by omega, by omega, by omega, by omega, by omega, by omega, by omega, fj⟩
        · intro b_7 b_8 h_13 hb_b_7 hb_b_8 f_4 hL
          have lt_b_7 : b_7 < h_13.size := (hL.tail).head.lt
          have lt_b_8 : b_8 < h_13.size := (hL).head.lt
          have ne_b_7 : b_7 ≠ b_8 := hL.ne (b_7, _) List.mem_cons_self
          replace f_4 := f_4.in_nil
          have z_f_4 := f_4.size
          replace o_1 := o_1.no f_4
          replace o_2 := o_2.no f_4
          replace fj := fj.no_trans f_4
          exact ⟨rfl, h3.size, h_4.size, h_4.size, h_5.size, o_1, o_2, by omega, by omega, by omega, by omega, by omega, by omega, by omega, by omega, by omega, by omega, by omega, by omega, fj⟩
      · intro b_9 h_14 hb_b_9 f_5 hL
        have lt_b_9 : b_9 < h_14.size := (hL).head.lt
        replace f_5 := f_5.in_nil
        have z_f_5 := f_5.size
        replace o_1 := o_1.no f_5
        replace fj := fj.no_trans f_5
        refine ⟨?_, ?_⟩
        · refine lit fj fun u_6 h_15 o_6 f_6 => ⟨u_6, rfl, hL.of_no f_6, ?_⟩
          replace hL := hL.of_no f_6
          have z_f_6 := f_6.size
          replace o_1 := o_1.no f_6
          replace fj := fj.no_trans f_6
          intro b_10 h_18 hb_b_10 f_7 hL
          have lt_b_10 : b_10 < h_18.size := (hL).head.lt
          replace f_7 := f_7.inIv (lo := h_4.size) (hi := h_14.size) ⟨⟨by omega, by omega⟩, trivial⟩
          have z_f_7 := f_7.size
          replace o_1 := o_1.iv f_7 (by omega)
          replace o_6 := o_6.iv f_7 (by omega)
          replace fj := fj.ivFresh f_7 (by omega)
          exact ⟨rfl, h3.size, h_4.size, h_14.size, h_15.size, o_1, o_6, by omega, by omega, by omega, by omega, by omega, by omega, by omega, by omega, by omega, by omega, by omega, by omega, fj⟩
        · intro b_11 h_19 hb_b_11 f_8 hL
          have lt_b_11 : b_11 < h_19.size := (hL).head.lt
          replace f_8 := f_8.in_nil
          have z_f_8 := f_8.size
          replace o_1 := o_1.no f_8
          replace fj := fj.no_trans f_8
          refine ⟨?_, ?_⟩
          · refine lit fj fun u_9 h_20 o_9 f_9 => ⟨u_9, rfl, hL.of_no f_9, ?_⟩
            replace hL := hL.of_no f_9
            have z_f_9 := f_9.size
            replace o_1 := o_1.no f_9
            replace fj := fj.no_trans f_9
            intro  h_22  f_10 hL
            have z_f_10 := f_10.size
            replace o_1 := o_1.fr f_10 fun k hk hk2 => by have h1 := (o_1.foot hk).1; have h2 := h1.1; have h3 := h1.2; simp only [In, List.mem_cons, List.not_mem_nil, or_false] at hk2; omega
            replace o_9 := o_9.fr f_10 fun k hk hk2 => by have h1 := (o_9.foot hk).1; have h2 := h1.1; have h3 := h1.2; simp only [In, List.mem_cons, List.not_mem_nil, or_false] at hk2; omega
            replace fj := fj.fresh f_10 fun k hk => by simp only [In, List.mem_cons, List.not_mem_nil, or_false] at hk; omega
            exact ⟨rfl, h3.size, h_4.size, h_19.size, h_20.size, o_1, o_9, by omega, by omega, by omega, by omega, by omega, by omega, by omega, by omega, by omega, by omega, by omega, by omega, fj⟩
          · intro  h_23  f_11 hL
            replace f_11 := f_11.inIv (lo := h_4.size) (hi := h_14.size) ⟨⟨by omega, by omega⟩, trivial⟩
            have z_f_11 := f_11.size
            replace o_1 := o_1.iv f_11 (by omega)
            replace fj := fj.ivFresh f_11 (by omega)
            refine lit fj fun u_12 h_24 o_12 f_12 => ⟨u_12, rfl, hL.of_no f_12, ?_⟩
            replace hL := hL.of_no f_12
            have z_f_12 := f_12.size
            replace o_1 := o_1.no f_12
            replace fj := fj.no_trans f_12
            intro  h_25  f_13 hL
            replace f_13 := f_13.inIv (lo := h_14.size) (hi := h_19.size) ⟨⟨by omega, by omega⟩, trivial⟩
            have z_f_13 := f_13.size
            replace o_1 := o_1.iv f_13 (by omega)
            replace o_12 := o_12.iv f_13 (by omega)
            replace fj := fj.ivFresh f_13 (by omega)
            exact ⟨rfl, h3.size, h_4.size, h_23.size, h_24.size, o_1, o_12, by omega, by omega, by omega, by omega, by omega, by omega, by omega, by omega, by omega, by omega, by omega, by omega, fj⟩
      · intro b_12 h_26 hb_b_12 f_14 hL
        have lt_b_12 : b_12 < h_26.size := (hL).head.lt
        replace f_14 := f_14.in_nil
        have z_f_14 := f_14.size
        replace o_1 := o_1.no f_14
        replace fj := fj.no_trans f_14
        refine ⟨?_, ?_⟩
        · refine lit fj fun u_15 h_27 o_15 f_15 => ⟨u_15, rfl, hL.of_no f_15, ?_⟩
          replace hL := hL.of_no f_15
          have z_f_15 := f_15.size
          replace o_1 := o_1.no f_15
          replace fj := fj.no_trans f_15
          intro b_13 h_30 hb_b_13 f_16 hL
          have lt_b_13 : b_13 < h_30.size := (hL).head.lt
          replace f_16 := f_16.inIv (lo := h_4.size) (hi := h_26.size) ⟨⟨by omega, by omega⟩, trivial⟩
          have z_f_16 := f_16.size
          replace o_1 := o_1.iv f_16 (by omega)
          replace o_15 := o_15.iv f_16 (by omega)
          replace fj := fj.ivFresh f_16 (by omega)
          exact ⟨rfl, h3.size, h_4.size, h_26.size, h_27.size, o_1, o_15, by omega, by omega, by omega, by omega, by omega, by omega, by omega, by omega, by omega, by omega, by omega, by omega, fj⟩
        · intro b_14 h_31 hb_b_14 f_17 hL
          have lt_b_14 : b_14 < h_31.size := (hL).head.lt
          replace f_17 := f_17.in_nil
          have z_f_17 := f_17.size
          replace o_1 := o_1.no f_17
          replace fj := fj.no_trans f_17
          refine ⟨?_, ?_⟩
          · refine lit fj fun u_18 h_32 o_18 f_18 => ⟨u_18, rfl, hL.of_no f_18, ?_⟩
            replace hL := hL.of_no f_18
            have z_f_18 := f_18.size
            replace o_1 := o_1.no f_18
            replace fj := fj.no_trans f_18
            intro  h_34  f_19 hL
            have z_f_19 := f_19.size
            replace o_1 := o_1.fr f_19 fun k hk hk2 => by have h1 := (o_1.foot hk).1; have h2 := h1.1; have h3 := h1.2; simp only [In, List.mem_cons, List.not_mem_nil, or_false] at hk2; omega
            replace o_18 := o_18.fr f_19 fun k hk hk2 => by have h1 := (o_18.foot hk).1; have h2 := h1.1; have h3 := h1.2; simp only [In, List.mem_cons, List.not_mem_nil, or_false] at hk2; omega
            replace fj := fj.fresh f_19 fun k hk => by simp only [In, List.mem_cons, List.not_mem_nil, or_false] at hk; omega
            exact ⟨rfl, h3.size, h_4.size, h_31.size, h_32.size, o_1, o_18, by omega, by omega, by omega, by omega, by omega, by omega, by omega, by omega, by omega, by omega, by omega, by omega, fj⟩
          · intro  h_35  f_20 hL
            replace f_20 := f_20.inIv (lo := h_26.size) (hi := h_31.size) ⟨⟨by omega, by omega⟩, trivial⟩
            have z_f_20 := f_20.size
            replace o_1 := o_1.iv f_20 (by omega)
            replace fj := fj.ivFresh f_20 (by omega)
            refine lit fj fun u_21 h_36 o_21 f_21 => ⟨u_21, rfl, hL.of_no f_21, ?_⟩
            replace hL := hL.of_no f_21
            have z_f_21 := f_21.size
            replace o_1 := o_1.no f_21
            replace fj := fj.no_trans f_21
            intro  h_37  f_22 hL
            replace f_22 := f_22.inIv (lo := h_4.size) (hi := h_26.size) ⟨⟨by omega, by omega⟩, trivial⟩
            have z_f_22 := f_22.size
            replace o_1 := o_1.iv f_22 (by omega)
            replace o_21 := o_21.iv f_22 (by omega)
            replace fj := fj.ivFresh f_22 (by omega)
            exact ⟨rfl, h3.size, h_4.size, h_35.size, h_36.size, o_1, o_21, by omega, by omega, by omega, by omega, by omega, by omega, by omega, by omega, by omega, by omega, by omega, by omega, fj⟩
    · refine lit fj fun u_23 h_38 o_23 f_23 => ⟨u_23, rfl, hL.of_no f_23, ?_⟩
      replace hL := hL.of_no f_23
      have z_f_23 := f_23.size
      replace fj := fj.no_trans f_23
      refine ⟨?_, ?_, ?_⟩
      · refine cp fj fun u_24 h_39 o_24 f_24 => ⟨u_24, _, rfl, hL.of_no f_24, ?_⟩
        replace hL := hL.of_no f_24
        have z_f_24 := f_24.size
        replace o_23 := o_23.no f_24
        replace fj := fj.no_trans f_24
        refine ⟨?_, ?_⟩
        · intro b_15 b_16 h_43 hb_b_15 hb_b_16 f_25 hL
          have lt_b_15 : b_15 < h_43.size := (hL.tail).head.lt
          have lt_b_16 : b_16 < h_43.size := (hL).head.lt
          have ne_b_15 : b_15 ≠ b_16 := hL.ne (b_15, _) List.mem_cons_self
          replace f_25 := f_25.in_nil
          have z_f_25 := f_25.size
          replace o_23 := o_23.no f_25
          replace o_24 := o_24.no f_25
          replace fj := fj.no_trans f_25
          exact ⟨rfl, h_38.size, h_39.size, h3.size, h_38.size, o_24, o_23, by omega, by omega, by omega, by omega, by omega, by omega, by omega, by omega, by omega, by omega, by omega, by omega, fj⟩
        · intro b_17 b_18 h_47 hb_b_17 hb_b_18 f_26 hL
          have lt_b_17 : b_17 < h_47.size := (hL.tail).head.lt
          have lt_b_18 : b_18 < h_47.size := (hL).head.lt
          have ne_b_17 : b_17 ≠ b_18 := hL.ne (b_17, _) List.mem_cons_self
          replace f_26 := f_26.in_nil
          have z_f_26 := f_26.size
          replace o_23 := o_23.no f_26
          replace o_24 := o_24.no f_26
          replace fj := fj.no_trans f_26
          exact ⟨rfl, h_38.size, h_39.size, h3.size, h_38.size, o_24, o_23, by omega, by omega, by omega, by omega, by omega, by omega, by omega, by omega, by omega, by omega, by omega, by omega, fj⟩
      · intro b_19 h_48 hb_b_19 f_27 hL
        have lt_b_19 : b_19 < h_48.size := (hL).head.lt
        replace f_27 := f_27.in_nil
        have z_f_27 := f_27.size
        replace o_23 := o_23.no f_27
        replace fj := fj.no_trans f_27
        refine ⟨?_, ?_⟩
        · refine cp fj fun u_28 h_49 o_28 f_28 => ⟨u_28, _, rfl, hL.of_no f_28, ?_⟩
          replace hL := hL.of_no f_28
          have z_f_28 := f_28.size
          replace o_23 := o_23.no f_28
          replace fj := fj.no_trans f_28
          intro b_20 h_52 hb_b_20 f_29 hL
          have lt_b_20 : b_20 < h_52.size := (hL).head.lt
          replace f_29 := f_29.inIv (lo := h_38.size) (hi := h_48.size) ⟨⟨by omega, by omega⟩, trivial⟩
          have z_f_29 := f_29.size
          replace o_23 := o_23.iv f_29 (by omega)
          replace o_28 := o_28.iv f_29 (by omega)
          replace fj := fj.ivFresh f_29 (by omega)
          exact ⟨rfl, h_48.size, h_49.size, h3.size, h_38.size, o_28, o_23, by omega, by omega, by omega, by omega, by omega, by omega, by omega, by omega, by omega, by omega, by omega, by omega, fj⟩
        · intro b_21 h_53 hb_b_21 f_30 hL
          have lt_b_21 : b_21 < h_53.size := (hL).head.lt
          replace f_30 := f_30.in_nil
          have z_f_30 := f_30.size
          replace o_23 := o_23.no f_30
          replace fj := fj.no_trans f_30
          refine cp fj fun u_31 h_54 o_31 f_31 => ⟨u_31, _, rfl, hL.of_no f_31, ?_⟩
          replace hL := hL.of_no f_31
          have z_f_31 := f_31.size
          replace o_23 := o_23.no f_31
          replace fj := fj.no_trans f_31
          intro  h_56  f_32 hL
          have z_f_32 := f_32.size
          replace o_23 := o_23.fr f_32 fun k hk hk2 => by have h1 := (o_23.foot hk).1; have h2 := h1.1; have h3 := h1.2; simp only [In, List.mem_cons, List.not_mem_nil, or_false] at hk2; omega
          replace o_31 := o_31.fr f_32 fun k hk hk2 => by have h1 := (o_31.foot hk).1; have h2 := h1.1; have h3 := h1.2; simp only [In, List.mem_cons, List.not_mem_nil, or_false] at hk2; omega
          replace fj := fj.fresh f_32 fun k hk => by simp only [In, List.mem_cons, List.not_mem_nil, or_false] at hk; omega
          exact ⟨rfl, h_53.size, h_54.size, h3.size, h_38.size, o_31, o_23, by omega, by omega, by omega, by omega, by omega, by omega, by omega, by omega, by omega, by omega, by omega, by omega, fj⟩
      · intro b_22 h_57 hb_b_22 f_33 hL
        have lt_b_22 : b_22 < h_57.size := (hL).head.lt
        replace f_33 := f_33.in_nil
        have z_f_33 := f_33.size
        replace o_23 := o_23.no f_33
        replace fj := fj.no_trans f_33
        refine ⟨?_, ?_⟩
        · refine cp fj fun u_34 h_58 o_34 f_34 => ⟨u_34, _, rfl, hL.of_no f_34, ?_⟩
          replace hL := hL.of_no f_34
          have z_f_34 := f_34.size
          replace o_23 := o_23.no f_34
          replace fj := fj.no_trans f_34
          intro b_23 h_61 hb_b_23 f_35 hL
          have lt_b_23 : b_23 < h_61.size := (hL).head.lt
          replace f_35 := f_35.inIv (lo := h_38.size) (hi := h_57.size) ⟨⟨by omega, by omega⟩, trivial⟩
          have z_f_35 := f_35.size
          replace o_23 := o_23.iv f_35 (by omega)
          replace o_34 := o_34.iv f_35 (by omega)
          replace fj := fj.ivFresh f_35 (by omega)
          exact ⟨rfl, h_57.size, h_58.size, h3.size, h_38.size, o_34, o_23, by omega, by omega, by omega, by omega, by omega, by omega, by omega, by omega, by omega, by omega, by omega, by omega, fj⟩
        · intro b_24 h_62 hb_b_24 f_36 hL
          have lt_b_24 : b_24 < h_62.size := (hL).head.lt
          replace f_36 := f_36.in_nil
          have z_f_36 := f_36.size
          replace o_23 := o_23.no f_36
          replace fj := fj.no_trans f_36
          refine cp fj fun u_37 h_63 o_37 f_37 => ⟨u_37, _, rfl, hL.of_no f_37, ?_⟩
          replace hL := hL.of_no f_37
          have z_f_37 := f_37.size
          replace o_23 := o_23.no f_37
          replace fj := fj.no_trans f_37
          intro  h_65  f_38 hL
          have z_f_38 := f_38.size
          replace o_23 := o_23.fr f_38 fun k hk hk2 => by have h1 := (o_23.foot hk).1; have h2 := h1.1; have h3 := h1.2; simp only [In, List.mem_cons, List.not_mem_nil, or_false] at hk2; omega
          replace o_37 := o_37.fr f_38 fun k hk hk2 => by have h1 := (o_37.foot hk).1; have h2 := h1.1; have h3 := h1.2; simp only [In, List.mem_cons, List.not_mem_nil, or_false] at hk2; omega
          replace fj := fj.fresh f_38 fun k hk => by simp only [In, List.mem_cons, List.not_mem_nil, or_false] at hk; omega
          exact ⟨rfl, h_62.size, h_63.size, h3.size, h_38.size, o_37, o_23, by omega, by omega, by omega, by omega, by omega, by omega, by omega, by omega, by omega, by omega, by omega, by omega, fj⟩
    · intro b_25 h_66 hb_b_25 f_39 hL
      have lt_b_25 : b_25 < h_66.size := (hL).head.lt
      replace f_39 := f_39.in_nil
      have z_f_39 := f_39.size
      replace fj := fj.no_trans f_39
      refine ⟨?_, ?_, ?_⟩
      · refine cp fj fun u_40 h_67 o_40 f_40 => ⟨u_40, _, rfl, hL.of_no f_40, ?_⟩
        replace hL := hL.of_no f_40
        have z_f_40 := f_40.size
        replace fj := fj.no_trans f_40
        refine ⟨?_, ?_⟩
        · refine lit fj fun u_41 h_68 o_41 f_41 => ⟨u_41, rfl, hL.of_no f_41, ?_⟩
          replace hL := hL.of_no f_41
          have z_f_41 := f_41.size
          replace o_40 := o_40.no f_41
          replace fj := fj.no_trans f_41
          intro b_26 h_71 hb_b_26 f_42 hL
          have lt_b_26 : b_26 < h_71.size := (hL).head.lt
          replace f_42 := f_42.inIv (lo := h3.size) (hi := h_66.size) ⟨⟨by omega, by omega⟩, trivial⟩
          have z_f_42 := f_42.size
          replace o_40 := o_40.iv f_42 (by omega)
          replace o_41 := o_41.iv f_42 (by omega)
          replace fj := fj.ivFresh f_42 (by omega)
          exact ⟨rfl, h_66.size, h_67.size, h_67.size, h_68.size, o_40, o_41, by omega, by omega, by omega, by omega, by omega, by omega, by omega, by omega, by omega, by omega, by omega, by omega, fj⟩
        · intro b_27 h_72 hb_b_27 f_43 hL
          have lt_b_27 : b_27 < h_72.size := (hL).head.lt
          replace f_43 := f_43.in_nil
          have z_f_43 := f_43.size
          replace o_40 := o_40.no f_43
          replace fj := fj.no_trans f_43
          refine ⟨?_, ?_⟩
          · refine lit fj fun u_44 h_73 o_44 f_44 => ⟨u_44, rfl, hL.of_no f_44, ?_⟩
            replace hL := hL.of_no f_44
            have z_f_44 := f_44.size
            replace o_40 := o_40.no f_44
            replace fj := fj.no_trans f_44
            intro  h_75  f_45 hL
            have z_f_45 := f_45.size
            replace o_40 := o_40.fr f_45 fun k hk hk2 => by have h1 := (o_40.foot hk).1; have h2 := h1.1; have h3 := h1.2; simp only [In, List.mem_cons, List.not_mem_nil, or_false] at hk2; omega
            replace o_44 := o_44.fr f_45 fun k hk hk2 => by have h1 := (o_44.foot hk).1; have h2 := h1.1; have h3 := h1.2; simp only [In, List.mem_cons, List.not_mem_nil, or_false] at hk2; omega
            replace fj := fj.fresh f_45 fun k hk => by simp only [In, List.mem_cons, List.not_mem_nil, or_false] at hk; omega
            exact ⟨rfl, h_66.size, h_67.size, h_72.size, h_73.size, o_40, o_44, by omega, by omega, by omega, by omega, by omega, by omega, by omega, by omega, by omega, by omega, by omega, by omega, fj⟩
          · intro  h_76  f_46 hL
            replace f_46 := f_46.inIv (lo := h3.size) (hi := h_66.size) ⟨⟨by omega, by omega⟩, trivial⟩
            have z_f_46 := f_46.size
            replace o_40 := o_40.iv f_46 (by omega)
            replace fj := fj.ivFresh f_46 (by omega)
            refine lit fj fun u_47 h_77 o_47 f_47 => ⟨u_47, rfl, hL.of_no f_47, ?_⟩
            replace hL := hL.of_no f_47
            have z_f_47 := f_47.size
            replace o_40 := o_40.no f_47
            replace fj := fj.no_trans f_47
            intro  h_78  f_48 hL
            replace f_48 := f_48.inIv (lo := h_67.size) (hi := h_72.size) ⟨⟨by omega, by omega⟩, trivial⟩
            have z_f_48 := f_48.size
            replace o_40 := o_40.iv f_48 (by omega)
            replace o_47 := o_47.iv f_48 (by omega)
            replace fj := fj.ivFresh f_48 (by omega)
            exact ⟨rfl, h_66.size, h_67.size, h_76.size, h_77.size, o_40, o_47, by omega, by omega, by omega, by omega, by omega, by omega, by omega, by omega, by omega, by omega, by omega, by omega, fj⟩
      · refine lit fj fun u_49 h_79 o_49 f_49 => ⟨u_49, rfl, hL.of_no f_49, ?_⟩
        replace hL := hL.of_no f_49
        have z_f_49 := f_49.size
        replace fj := fj.no_trans f_49
        refine ⟨?_, ?_⟩
        · refine cp fj fun u_50 h_80 o_50 f_50 => ⟨u_50, _, rfl, hL.of_no f_50, ?_⟩
          replace hL := hL.of_no f_50
          have z_f_50 := f_50.size
          replace o_49 := o_49.no f_50
          replace fj := fj.no_trans f_50
          intro b_28 h_83 hb_b_28 f_51 hL
          have lt_b_28 : b_28 < h_83.size := (hL).head.lt
          replace f_51 := f_51.inIv (lo := h3.size) (hi := h_66.size) ⟨⟨by omega, by omega⟩, trivial⟩
          have z_f_51 := f_51.size
          replace o_49 := o_49.iv f_51 (by omega)
          replace o_50 := o_50.iv f_51 (by omega)
          replace fj := fj.ivFresh f_51 (by omega)
          exact ⟨rfl, h_79.size, h_80.size, h_66.size, h_79.size, o_50, o_49, by omega, by omega, by omega, by omega, by omega, by omega, by omega, by omega, by omega, by omega, by omega, by omega, fj⟩
        · intro b_29 h_84 hb_b_29 f_52 hL
          have lt_b_29 : b_29 < h_84.size := (hL).head.lt
          replace f_52 := f_52.in_nil
          have z_f_52 := f_52.size
          replace o_49 := o_49.no f_52
          replace fj := fj.no_trans f_52
          refine cp fj fun u_53 h_85 o_53 f_53 => ⟨u_53, _, rfl, hL.of_no f_53, ?_⟩
          replace hL := hL.of_no f_53
          have z_f_53 := f_53.size
          replace o_49 := o_49.no f_53
          replace fj := fj.no_trans f_53
          intro  h_87  f_54 hL
          have z_f_54 := f_54.size
          replace o_49 := o_49.fr f_54 fun k hk hk2 => by have h1 := (o_49.foot hk).1; have h2 := h1.1; have h3 := h1.2; simp only [In, List.mem_cons, List.not_mem_nil, or_false] at hk2; omega
          replace o_53 := o_53.fr f_54 fun k hk hk2 => by have h1 := (o_53.foot hk).1; have h2 := h1.1; have h3 := h1.2; simp only [In, List.mem_cons, List.not_mem_nil, or_false] at hk2; omega
          replace fj := fj.fresh f_54 fun k hk => by simp only [In, List.mem_cons, List.not_mem_nil, or_false] at hk; omega
          exact ⟨rfl, h_84.size, h_85.size, h_66.size, h_79.size, o_53, o_49, by omega, by omega, by omega, by omega, by omega, by omega, by omega, by omega, by omega, by omega, by omega, by omega, fj⟩
      · intro b_30 h_88 hb_b_30 f_55 hL
        have lt_b_30 : b_30 < h_88.size := (hL).head.lt
        replace f_55 := f_55.in_nil
        have z_f_55 := f_55.size
        replace fj := fj.no_trans f_55
        refine ⟨?_, ?_⟩
        · refine cp fj fun u_56 h_89 o_56 f_56 => ⟨u_56, _, rfl, hL.of_no f_56, ?_⟩
          replace hL := hL.of_no f_56
          have z_f_56 := f_56.size
          replace fj := fj.no_trans f_56
          refine ⟨?_, ?_⟩
          · refine lit fj fun u_57 h_90 o_57 f_57 => ⟨u_57, rfl, hL.of_no f_57, ?_⟩
            replace hL := hL.of_no f_57
            have z_f_57 := f_57.size
            replace o_56 := o_56.no f_57
            replace fj := fj.no_trans f_57
            intro  h_92  f_58 hL
            have z_f_58 := f_58.size
            replace o_56 := o_56.fr f_58 fun k hk hk2 => by have h1 := (o_56.foot hk).1; have h2 := h1.1; have h3 := h1.2; simp only [In, List.mem_cons, List.not_mem_nil, or_false] at hk2; omega
            replace o_57 := o_57.fr f_58 fun k hk hk2 => by have h1 := (o_57.foot hk).1; have h2 := h1.1; have h3 := h1.2; simp only [In, List.mem_cons, List.not_mem_nil, or_false] at hk2; omega
            replace fj := fj.fresh f_58 fun k hk => by simp only [In, List.mem_cons, List.not_mem_nil, or_false] at hk; omega
            exact ⟨rfl, h_88.size, h_89.size, h_89.size, h_90.size, o_56, o_57, by omega, by omega, by omega, by omega, by omega, by omega, by omega, by omega, by omega, by omega, by omega, by omega, fj⟩
          · intro  h_93  f_59 hL
            replace f_59 := f_59.inIv (lo := h3.size) (hi := h_66.size) ⟨⟨by omega, by omega⟩, trivial⟩
            have z_f_59 := f_59.size
            replace o_56 := o_56.iv f_59 (by omega)
            replace fj := fj.ivFresh f_59 (by omega)
            refine lit fj fun u_60 h_94 o_60 f_60 => ⟨u_60, rfl, hL.of_no f_60, ?_⟩
            replace hL := hL.of_no f_60
            have z_f_60 := f_60.size
            replace o_56 := o_56.no f_60
            replace fj := fj.no_trans f_60
            intro  h_95  f_61 hL
            replace f_61 := f_61.inIv (lo := h_66.size) (hi := h_88.size) ⟨⟨by omega, by omega⟩, trivial⟩
            have z_f_61 := f_61.size
            replace o_56 := o_56.iv f_61 (by omega)
            replace o_60 := o_60.iv f_61 (by omega)
            replace fj := fj.ivFresh f_61 (by omega)
            exact ⟨rfl, h_88.size, h_89.size, h_93.size, h_94.size, o_56, o_60, by omega, by omega, by omega, by omega, by omega, by omega, by omega, by omega, by omega, by omega, by omega, by omega, fj⟩
        · refine lit fj fun u_62 h_96 o_62 f_62 => ⟨u_62, rfl, hL.of_no f_62, ?_⟩
          replace hL := hL.of_no f_62
          have z_f_62 := f_62.size
          replace fj := fj.no_trans f_62
          refine cp fj fun u_63 h_97 o_63 f_63 => ⟨u_63, _, rfl, hL.of_no f_63, ?_⟩
          replace hL := hL.of_no f_63
          have z_f_63 := f_63.size
          replace o_62 := o_62.no f_63
          replace fj := fj.no_trans f_63
          intro  h_99  f_64 hL
          have z_f_64 := f_64.size
          replace o_62 := o_62.fr f_64 fun k hk hk2 => by have h1 := (o_62.foot hk).1; have h2 := h1.1; have h3 := h1.2; simp only [In, List.mem_cons, List.not_mem_nil, or_false] at hk2; omega
          replace o_63 := o_63.fr f_64 fun k hk hk2 => by have h1 := (o_63.foot hk).1; have h2 := h1.1; have h3 := h1.2; simp only [In, List.mem_cons, List.not_mem_nil, or_false] at hk2; omega
          replace fj := fj.fresh f_64 fun k hk => by simp only [In, List.mem_cons, List.not_mem_nil, or_false] at hk; omega
          exact ⟨rfl, h_96.size, h_97.size, h_88.size, h_96.size, o_63, o_62, by omega, by omega, by omega, by omega, by omega, by omega, by omega, by omega, by omega, by omega, by omega, by omega, fj⟩
    · intro b_31 h_100 hb_b_31 f_65 hL
      have lt_b_31 : b_31 < h_100.size := (hL).head.lt
      replace f_65 := f_65.in_nil
      have z_f_65 := f_65.size
      replace fj := fj.no_trans f_65
      refine ⟨?_, ?_, ?_⟩
      · refine cp fj fun u_66 h_101 o_66 f_66 => ⟨u_66, _, rfl, hL.of_no f_66, ?_⟩
        replace hL := hL.of_no f_66
        have z_f_66 := f_66.size
        replace fj := fj.no_trans f_66
        refine ⟨?_, ?_⟩
        · refine lit fj fun u_67 h_102 o_67 f_67 => ⟨u_67, rfl, hL.of_no f_67, ?_⟩
          replace hL := hL.of_no f_67
          have z_f_67 := f_67.size
          replace o_66 := o_66.no f_67
          replace fj := fj.no_trans f_67
          intro b_32 h_105 hb_b_32 f_68 hL
          have lt_b_32 : b_32 < h_105.size := (hL).head.lt
          replace f_68 := f_68.inIv (lo := h3.size) (hi := h_100.size) ⟨⟨by omega, by omega⟩, trivial⟩
          have z_f_68 := f_68.size
          replace o_66 := o_66.iv f_68 (by omega)
          replace o_67 := o_67.iv f_68 (by omega)
          replace fj := fj.ivFresh f_68 (by omega)
          exact ⟨rfl, h_100.size, h_101.size, h_101.size, h_102.size, o_66, o_67, by omega, by omega, by omega, by omega, by omega, by omega, by omega, by omega, by omega, by omega, by omega, by omega, fj⟩
        · intro b_33 h_106 hb_b_33 f_69 hL
          have lt_b_33 : b_33 < h_106.size := (hL).head.lt
          replace f_69 := f_69.in_nil
          have z_f_69 := f_69.size
          replace o_66 := o_66.no f_69
          replace fj := fj.no_trans f_69
          refine ⟨?_, ?_⟩
          · refine lit fj fun u_70 h_107 o_70 f_70 => ⟨u_70, rfl, hL.of_no f_70, ?_⟩
            replace hL := hL.of_no f_70
            have z_f_70 := f_70.size
            replace o_66 := o_66.no f_70
            replace fj := fj.no_trans f_70
            intro  h_109  f_71 hL
            have z_f_71 := f_71.size
            replace o_66 := o_66.fr f_71 fun k hk hk2 => by have h1 := (o_66.foot hk).1; have h2 := h1.1; have h3 := h1.2; simp only [In, List.mem_cons, List.not_mem_nil, or_false] at hk2; omega
            replace o_70 := o_70.fr f_71 fun k hk hk2 => by have h1 := (o_70.foot hk).1; have h2 := h1.1; have h3 := h1.2; simp only [In, List.mem_cons, List.not_mem_nil, or_false] at hk2; omega
            replace fj := fj.fresh f_71 fun k hk => by simp only [In, List.mem_cons, List.not_mem_nil, or_false] at hk; omega
            exact ⟨rfl, h_100.size, h_101.size, h_106.size, h_107.size, o_66, o_70, by omega, by omega, by omega, by omega, by omega, by omega, by omega, by omega, by omega, by omega, by omega, by omega, fj⟩
          · intro  h_110  f_72 hL
            replace f_72 := f_72.inIv (lo := h_101.size) (hi := h_106.size) ⟨⟨by omega, by omega⟩, trivial⟩
            have z_f_72 := f_72.size
            replace o_66 := o_66.iv f_72 (by omega)
            replace fj := fj.ivFresh f_72 (by omega)
            refine lit fj fun u_73 h_111 o_73 f_73 => ⟨u_73, rfl, hL.of_no f_73, ?_⟩
            replace hL := hL.of_no f_73
            have z_f_73 := f_73.size
            replace o_66 := o_66.no f_73
            replace fj := fj.no_trans f_73
            intro  h_112  f_74 hL
            replace f_74 := f_74.inIv (lo := h3.size) (hi := h_100.size) ⟨⟨by omega, by omega⟩, trivial⟩
            have z_f_74 := f_74.size
            replace o_66 := o_66.iv f_74 (by omega)
            replace o_73 := o_73.iv f_74 (by omega)
            replace fj := fj.ivFresh f_74 (by omega)
            exact ⟨rfl, h_100.size, h_101.size, h_110.size, h_111.size, o_66, o_73, by omega, by omega, by omega, by omega, by omega, by omega, by omega, by omega, by omega, by omega, by omega, by omega, fj⟩
      · refine lit fj fun u_75 h_113 o_75 f_75 => ⟨u_75, rfl, hL.of_no f_75, ?_⟩
        replace hL := hL.of_no f_75
        have z_f_75 := f_75.size
        replace fj := fj.no_trans f_75
        refine ⟨?_, ?_⟩
        · refine cp fj fun u_76 h_114 o_76 f_76 => ⟨u_76, _, rfl, hL.of_no f_76, ?_⟩
          replace hL := hL.of_no f_76
          have z_f_76 := f_76.size
          replace o_75 := o_75.no f_76
          replace fj := fj.no_trans f_76
          intro b_34 h_117 hb_b_34 f_77 hL
          have lt_b_34 : b_34 < h_117.size := (hL).head.lt
          replace f_77 := f_77.inIv (lo := h3.size) (hi := h_100.size) ⟨⟨by omega, by omega⟩, trivial⟩
          have z_f_77 := f_77.size
          replace o_75 := o_75.iv f_77 (by omega)
          replace o_76 := o_76.iv f_77 (by omega)
          replace fj := fj.ivFresh f_77 (by omega)
          exact ⟨rfl, h_113.size, h_114.size, h_100.size, h_113.size, o_76, o_75, by omega, by omega, by omega, by omega, by omega, by omega, by omega, by omega, by omega, by omega, by omega, by omega, fj⟩
        · intro b_35 h_118 hb_b_35 f_78 hL
          have lt_b_35 : b_35 < h_118.size := (hL).head.lt
          replace f_78 := f_78.in_nil
          have z_f_78 := f_78.size
          replace o_75 := o_75.no f_78
          replace fj := fj.no_trans f_78
          refine cp fj fun u_79 h_119 o_79 f_79 => ⟨u_79, _, rfl, hL.of_no f_79, ?_⟩
          replace hL := hL.of_no f_79
          have z_f_79 := f_79.size
          replace o_75 := o_75.no f_79
          replace fj := fj.no_trans f_79
          intro  h_121  f_80 hL
          have z_f_80 := f_80.size
          replace o_75 := o_75.fr f_80 fun k hk hk2 => by have h1 := (o_75.foot hk).1; have h2 := h1.1; have h3 := h1.2; simp only [In, List.mem_cons, List.not_mem_nil, or_false] at hk2; omega
          replace o_79 := o_79.fr f_80 fun k hk hk2 => by have h1 := (o_79.foot hk).1; have h2 := h1.1; have h3 := h1.2; simp only [In, List.mem_cons, List.not_mem_nil, or_false] at hk2; omega
          replace fj := fj.fresh f_80 fun k hk => by simp only [In, List.mem_cons, List.not_mem_nil, or_false] at hk; omega
          exact ⟨rfl, h_118.size, h_119.size, h_100.size, h_113.size, o_79, o_75, by omega, by omega, by omega, by omega, by omega, by omega, by omega, by omega, by omega, by omega, by omega, by omega, fj⟩
      · intro b_36 h_122 hb_b_36 f_81 hL
        have lt_b_36 : b_36 < h_122.size := (hL).head.lt
        replace f_81 := f_81.in_nil
        have z_f_81 := f_81.size
        replace fj := fj.no_trans f_81
        refine ⟨?_, ?_⟩
        · refine cp fj fun u_82 h_123 o_82 f_82 => ⟨u_82, _, rfl, hL.of_no f_82, ?_⟩
          replace hL := hL.of_no f_82
          have z_f_82 := f_82.size
          replace fj := fj.no_trans f_82
          refine ⟨?_, ?_⟩
          · refine lit fj fun u_83 h_124 o_83 f_83 => ⟨u_83, rfl, hL.of_no f_83, ?_⟩
            replace hL := hL.of_no f_83
            have z_f_83 := f_83.size
            replace o_82 := o_82.no f_83
            replace fj := fj.no_trans f_83
            intro  h_126  f_84 hL
            have z_f_84 := f_84.size
            replace o_82 := o_82.fr f_84 fun k hk hk2 => by have h1 := (o_82.foot hk).1; have h2 := h1.1; have h3 := h1.2; simp only [In, List.mem_cons, List.not_mem_nil, or_false] at hk2; omega
            replace o_83 := o_83.fr f_84 fun k hk hk2 => by have h1 := (o_83.foot hk).1; have h2 := h1.1; have h3 := h1.2; simp only [In, List.mem_cons, List.not_mem_nil, or_false] at hk2; omega
            replace fj := fj.fresh f_84 fun k hk => by simp only [In, List.mem_cons, List.not_mem_nil, or_false] at hk; omega
            exact ⟨rfl, h_122.size, h_123.size, h_123.size, h_124.size, o_82, o_83, by omega, by omega, by omega, by omega, by omega, by omega, by omega, by omega, by omega, by omega, by omega, by omega, fj⟩
          · intro  h_127  f_85 hL
            replace f_85 := f_85.inIv (lo := h_100.size) (hi := h_122.size) ⟨⟨by omega, by omega⟩, trivial⟩
            have z_f_85 := f_85.size
            replace o_82 := o_82.iv f_85 (by omega)
            replace fj := fj.ivFresh f_85 (by omega)
            refine lit fj fun u_86 h_128 o_86 f_86 => ⟨u_86, rfl, hL.of_no f_86, ?_⟩
            replace hL := hL.of_no f_86
            have z_f_86 := f_86.size
            replace o_82 := o_82.no f_86
            replace fj := fj.no_trans f_86
            intro  h_129  f_87 hL
            replace f_87 := f_87.inIv (lo := h3.size) (hi := h_100.size) ⟨⟨by omega, by omega⟩, trivial⟩
            have z_f_87 := f_87.size
            replace o_82 := o_82.iv f_87 (by omega)
            replace o_86 := o_86.iv f_87 (by omega)
            replace fj := fj.ivFresh f_87 (by omega)
            exact ⟨rfl, h_122.size, h_123.size, h_127.size, h_128.size, o_82, o_86, by omega, by omega, by omega, by omega, by omega, by omega, by omega, by omega, by omega, by omega, by omega, by omega, fj⟩
        · refine lit fj fun u_88 h_130 o_88 f_88 => ⟨u_88, rfl, hL.of_no f_88, ?_⟩
          replace hL := hL.of_no f_88
          have z_f_88 := f_88.size
          replace fj := fj.no_trans f_88
          refine cp fj fun u_89 h_131 o_89 f_89 => ⟨u_89, _, rfl, hL.of_no f_89, ?_⟩
          replace hL := hL.of_no f_89
          have z_f_89 := f_89.size
          replace o_88 := o_88.no f_89
          replace fj := fj.no_trans f_89
          intro  h_133  f_90 hL
          have z_f_90 := f_90.size
          replace o_88 := o_88.fr f_90 fun k hk hk2 => by have h1 := (o_88.foot hk).1; have h2 := h1.1; have h3 := h1.2; simp only [In, List.mem_cons, List.not_mem_nil, or_false] at hk2; omega
          replace o_89 := o_89.fr f_90 fun k hk hk2 => by have h1 := (o_89.foot hk).1; have h2 := h1.1; have h3 := h1.2; simp only [In, List.mem_cons, List.not_mem_nil, or_false] at hk2; omega
          replace fj := fj.fresh f_90 fun k hk => by simp only [In, List.mem_cons, List.not_mem_nil, or_false] at hk; omega
          exact ⟨rfl, h_130.size, h_131.size, h_122.size, h_130.size, o_89, o_88, by omega, by omega, by omega, by omega, by omega, by omega, by omega, by omega, by omega, by omega, by omega, by omega, fj⟩
  rintro bN x1 x2 bO x3 h134 ⟨rfl, i1, j1, i2, j2, o1, o2, d12, dN1, dN2, dO1, dO2, e1, e2', e3, e4, e5, e6, hne, f134⟩ hL134
  have f0 := f03.no_trans f134
  have z134 := f134.size
  have lO : bO < h134.size := hL134.head.lt
  have lN : bN < h134.size := hL134.tail.head.lt
  have G134 : RdR (fun k => k < h3.size) h134 g xss := (G.no f03).low.no f134
  have xN : ¬ x1.own bN := fun hk => by have h1 := (o1.foot hk).1.1; have h2 := (o1.foot hk).1.2; omega
  have xO : ¬ x3.own bO := fun hk => by have h1 := (o2.foot hk).1.1; have h2 := (o2.foot hk).1.2; omega
  have x1O : ¬ x1.own bO := fun hk => by have h1 := (o1.foot hk).1.1; have h2 := (o1.foot hk).1.2; omega
  have x3N : ¬ x3.own bN := fun hk => by have h1 := (o2.foot hk).1.1; have h2 := (o2.foot hk).1.2; omega
  have x13 : ∀ k, x1.own k → ¬ x3.own k := fun k h1 h3 => by have a1 := (o1.foot h1).1.1; have a2 := (o1.foot h1).1.2; have a3 := (o2.foot h3).1.1; have a4 := (o2.foot h3).1.2; omega
  have x1g : ∀ k, x1.own k → h3.size ≤ k ∧ k < h134.size := fun k hk => ⟨by have := (o1.foot hk).1.1; omega, (o1.foot hk).2⟩
  have x3g : ∀ k, x3.own k → h3.size ≤ k ∧ k < h134.size := fun k hk => ⟨by have := (o2.foot hk).1.1; omega, (o2.foot hk).2⟩
  -- what the walk's region and the other one are off
  have offV : ∀ k, (k = bN ∨ x1.own k) ∨ (k = bO ∨ x3.own k) → h3.size ≤ k := fun k hk => by
    rcases hk with (rfl | hk) | (rfl | hk)
    · omega
    · exact (x1g k hk).1
    · omega
    · exact (x3g k hk).1
  refine k_run (s0 := (rs, x2)) (F := fun k => k = bN ∨ x1.own k) (S := fun k => k < h3.size) passU
    (fun N t h' => ∃ o : Sl, IsVar h' bO [o.v] ∧ OwI h' (fun k => h3.size ≤ k) o t ∧ ∀ k, o.own k → x3.own k ∨ N ≤ k) (fun k => k = bO ∨ x3.own k)
    G134 hL134.tail.head (o1.mono fun k hk _ => .inr hk) (fun k hk => ⟨fun h => by have := offV k (.inl h); omega, fun h => by have := offV k (.inr h); omega⟩) (.inl rfl) xN W n (by omega) (by omega) _ [x2]
    (fun k hk => by rcases hk with rfl | hk; exact lN; exact (x1g k hk).2)
    (fun k hk => ⟨fun h => by
      rcases hk with rfl | hk <;> rcases h with rfl | h
      · exact hne rfl
      · exact x1O h
      · exact x3N hk
      · exact x13 k h hk, by rcases hk with rfl | hk; exact lO; exact (x3g k hk).2⟩)
    (fun N hN => ⟨x3, hL134.head, o2.mono fun k _ hk => by have := hk.1; omega, fun k hk => .inl hk⟩)
    (fun N t h1 h2 U ⟨o, v1, v2, v3⟩ f hU => ⟨o, v1.fr f fun h => (hU _ h).1 (.inl rfl), v2.fr f fun k hk hk2 => by
      rcases v3 k hk with h | h
      · exact (hU k hk2).1 (.inr h)
      · have := (hU k hk2).2; omega, v3⟩)
    (fun N t s s' h1 K hN hN2 ⟨o, v1, v2, v3⟩ V O W hs hm HK => ?_) _ (fun hr N t h9 q hN ⟨o, v1, v2, v3⟩ v9 f9 => ?_) fun t' s' hr N h9 hN ⟨o, v1, v2, v3⟩ o9 W9 v9 f9 => ?_
  · obtain ⟨m, hm, hr⟩ := hm
    have hl := pass_len m _ _ _ _ hr
    have ob : ¬ o.own bO := fun hk => by
      rcases v3 _ hk with h | h
      · exact xO h
      · omega
    have ob' : ¬ o.own bN := fun hk => by
      rcases v3 _ hk with h | h
      · exact x3N h
      · omega
    refine k_pass1 v1 V hne v2 (fun k hk => by omega) ob ob' (by simp at hl; omega) s.2 K fun h2 o' v w1 w2 w3 w4 => HK h2 v ⟨o', w1, w2, fun k hk => ?_⟩ (w4.mono fun k _ hk => ?_)
    · rcases w3 k hk with h | h
      · exact v3 k h
      · exact .inr (by omega)
    · rcases hk with rfl | hk
      · exact .inl (.inl rfl)
      · exact (v3 k hk).imp .inr id
  · have hL9 : Vars h9 [(bO, [o.v]), (bN, [x1.v, VI q]), (b2, [w.v, VI x2]), (b1, [g.v])] := .cons v1 (fun p hp => by
      have := hL134.ne
      simp only [List.mem_cons, List.not_mem_nil, or_false] at hp
      rcases hp with rfl | rfl | rfl <;> simp only <;> omega) (.cons v9 (fun p hp => by
      simp only [List.mem_cons, List.not_mem_nil, or_false] at hp
      rcases hp with rfl | rfl <;> simp only <;> omega) (hL134.tail.tail.fr f9 fun p hp hk => by
      have := offV _ hk
      simp only [List.mem_cons, List.not_mem_nil, or_false] at hp
      rcases hp with rfl | rfl <;> simp only at this <;> omega))
    refine ⟨o, x1, q, false, rfl, hL9, fun _ => ?_, fun e => by simp at e⟩
    rw [hr] at e2
    exact no e2 h9 (f0.fresh f9 fun k hk => by have := offV k hk; omega)
  · have hL9 : Vars h9 [(bO, [o.v]), (bN, [x1.v, VI s'.2]), (b2, [w.v, VI x2]), (b1, [g.v])] := .cons v1 (fun p hp => by
      simp only [List.mem_cons, List.not_mem_nil, or_false] at hp
      rcases hp with rfl | rfl | rfl <;> simp only <;> omega) (.cons v9 (fun p hp => by
      simp only [List.mem_cons, List.not_mem_nil, or_false] at hp
      rcases hp with rfl | rfl <;> simp only <;> omega) (hL134.tail.tail.fr f9 fun p hp hk => by
      have := offV _ hk
      simp only [List.mem_cons, List.not_mem_nil, or_false] at hp
      rcases hp with rfl | rfl <;> simp only at this <;> omega))
    refine ⟨o, x1, s'.2, true, rfl, hL9, fun e => by simp at e, fun _ => ?_⟩
    rw [hr] at e2
    have := HK o h9 (by rw [e2]; exact v2.mono fun k hk hF => ⟨by omega, (v2.foot hk).2⟩) (f0.fresh f9 fun k hk => by have := offV k hk; omega)
    rw [e2] at this
    exact this
set_option maxHeartbeats 4000000 in
theorem wt_tail1 {X : Heap} {S S' SU SV SE : Nat → Prop} {g w us vs e : Sl} {xss : List (List Int)} {rs : List Int} {pp : Int} {n : Nat} {r : Rn} (G : RdR S X g xss) (H : RdI S' X w rs) (U : RdR SU X us r.us) (V : RdI SV X vs r.vs) (E : RdI SE X e r.s.1) (W : WOK xss (rs, pp)) (hn : n ≤ 2000) (hr : goP xss n (go0 xss (rs, pp)) = some r) (J : Heap → Prop) {K : Value → Heap → Prop} (HJ : ∀ h', Fr No X h' → J h') {b4 b3 b2 b1 : Nat} {t8 : Sl} {q8 : Int} (hL : Vars X [(b4, [t8.v, VI q8]), (b3, [e.v, VI r.s.2]), (b2, [w.v, VI pp]), (b1, [g.v])]) : w5_1 Tryd.prog g X b4 t8 q8 b3 e r.s.2 b2 w pp b1 us (n : Int) vs J K := by
  unfold w5_1
  obtain ⟨c, L0, R0⟩ := GL.of W hr
  have hgl := graph_len W.graph
  have hgt := graph_tot W.graph
  have gn := G.len
  have wl : rs.length = xss.length := W.len
  have el := R0.w.len
  have ul := R0.us
  have vl := R0.vs
  have l4 : b4 < X.size := hL.head.lt
  have l3 : b3 < X.size := hL.tail.head.lt
  have l2 : b2 < X.size := hL.tail.tail.head.lt
  have l1 : b1 < X.size := hL.tail.tail.tail.head.lt
  rw [gn]
  refine eop_make rIs (fun k => X.size ≤ k) (fun _ h => h) .i64 .i64 xss.length xss.length (Nat.le_refl _) (by omega) fun z h23 n23 c23 o23 f23 m23 _ => ⟨z, rfl, hL.of_no f23, ?_⟩
  have ez : (List.replicate xss.length [VI 0]).flatten = (List.replicate xss.length (0 : Int)).map VI := by simp [List.flatten_replicate_singleton]
  rw [ez] at o23
  have o23' : OwI h23 (fun k => X.size ≤ k) z (List.replicate xss.length 0) := o23
  have z23 := f23.size
  have off : ∀ A B C D (q : Nat × List Value), q ∈ [(b4, A), (b3, B), (b2, C), (b1, D)] → ¬ X.size ≤ q.1 := fun A B C D q hq => by
    simp only [List.mem_cons, List.not_mem_nil, or_false] at hq
    rcases hq with rfl | rfl | rfl | rfl <;> simp only <;> omega
  have GX := G.low
  have HX := H.low
  have UX := U.low
  have VX := V.low
  have EX := E.low
  have no_ : ∀ {Y : Heap}, Fr (fun k => X.size ≤ k) X Y → Fr No X Y := fun f => f.mono fun k hk hk2 => absurd hk2 (by omega)
  have dis : ∀ k, k < X.size → ¬ X.size ≤ k := fun k hk hk2 => by omega
  have sumc : ∀ m, m ≤ xss.length → sumN c m ≤ n := fun m hm => by rw [← L0.sum]; exact sumN_mono hm
  refine ⟨fun m tot i h' => 0 ≤ i ∧ i + m = (xss.length : Int) ∧ tot = ((sumN c i.toNat : Nat) : Int) ∧ (∃ L, OwI h' (fun k => X.size ≤ k) z L ∧ L.length = xss.length ∧ (∀ q, q < xss.length → L.getD q 0 = ((sumN (fun p => sumN (fun k => if (xss.getD p []).getD k 0 = (q : Int) then cyN (rs.getD p 0).toNat (degN xss p) (c p) k else 0) (degN xss p)) i.toNat : Nat) : Int)) ∧ ∀ q, q < xss.length → L.getD q 0 ≤ tot) ∧ Fr (fun k => X.size ≤ k) X h', ⟨xss.length, by omega, by omega, rfl, ⟨_, o23', by simp, fun q hq => by rw [zeroI]; rfl, fun q hq => by rw [zeroI]; exact Int.le_refl _⟩, f23.of_no⟩, ?_⟩
  rintro m tot i h24 ⟨i0, i1, rfl, ⟨L, o24, lL, L24, B24⟩, f24⟩ hL24
  have U24 := UX.fr f24 dis
  have un := U24.len
  refine ⟨fun e1 => ?_, fun e1 => ?_⟩
  · have hi := U24.lt e1
    have hi2 : i.toNat < xss.length := by omega
    obtain ⟨si, c1, r1⟩ := U24.get i0 hi
    have rl : r.us[i.toNat].length = degN xss i.toNat := by rw [R0.row i.toNat (by omega) hi2]; unfold degN; rw [getD_get hi2]
    have sn : si.n = degN xss i.toNat := by rw [r1.len, rl]
    have ci : c i.toNat ≤ n := by
      have h1 := sumc (i.toNat + 1) (by omega)
      rw [sumN] at h1; omega
    have row : ∀ k (hk : k < degN xss i.toNat), r.us[i.toNat][k]'(by omega) = (cyN (rs.getD i.toNat 0).toNat (degN xss i.toNat) (c i.toNat) k : Int) := fun k hk => by
      have := L0.use i.toNat hi2 k hk
      rw [getD_get (by omega), getD_getI (by omega)] at this
      exact this
    have tot1 : sumN c (i.toNat + 1) ≤ n := sumc _ (by omega)
    rw [sumN] at tot1
    obtain ⟨cd, hcd⟩ : ∃ cd, c i.toNat / degN xss i.toNat = cd := ⟨_, rfl⟩
    have cdn : cd ≤ c i.toNat := by rw [← hcd]; exact Nat.div_le_self _ _
    have dg : degN xss i.toNat ≤ 5 := by
      have := (graph_mem W.graph (List.getElem_mem hi2)).1
      unfold degN; rw [getD_get hi2]; exact this
    refine ⟨U24.inb i0 hi, si, c1, fun m2 tt le mo k h' => 0 ≤ k ∧ k + m2 = (degN xss i.toNat : Int) ∧ tt = ((sumN c i.toNat + sumN (cyN (rs.getD i.toNat 0).toNat (degN xss i.toNat) (c i.toNat)) k.toNat : Nat) : Int) ∧ (cd : Int) ≤ le ∧ le ≤ n ∧ 0 ≤ mo ∧ mo ≤ ((cd + 1 : Nat) : Int) ∧ (∃ L, OwI h' (fun k => X.size ≤ k) z L ∧ L.length = xss.length ∧ (∀ q, q < xss.length → L.getD q 0 = ((sumN (fun p => sumN (fun k => if (xss.getD p []).getD k 0 = (q : Int) then cyN (rs.getD p 0).toNat (degN xss p) (c p) k else 0) (degN xss p)) i.toNat + sumN (fun k => if (xss.getD i.toNat []).getD k 0 = (q : Int) then cyN (rs.getD i.toNat 0).toNat (degN xss i.toNat) (c i.toNat) k else 0) k.toNat : Nat) : Int)) ∧ ∀ q, q < xss.length → L.getD q 0 ≤ tt) ∧ Fr (fun k => X.size ≤ k) X h', ⟨degN xss i.toNat, by omega, by omega, by simp [sumN], by omega, by omega, by omega, by omega, ⟨L, o24, lL, fun q hq => by rw [L24 q hq]; simp [sumN], B24⟩, f24⟩, ?_⟩
    rintro m2 tt le mo k h25 ⟨k0, k1, rfl, le0, le1, mo0, mo1, ⟨L2, o25, lL2, L25, B25⟩, f25⟩ hL25
    have U25 := UX.fr f25 dis
    have G25 := GX.fr f25 dis
    have H25 := HX.fr f25 dis
    have E25 := EX.fr f25 dis
    obtain ⟨si', c1', r25⟩ := U25.get i0 hi
    have : si' = si := by
      obtain ⟨sj, cj, rj⟩ := UX.get i0 hi
      have a1 := hcell_fr (T := fun k => X.size ≤ k) cj f24 (by
        obtain ⟨ss, ee, VV, _⟩ := UX.out
        obtain ⟨a, ha, hs, _⟩ := VV.cell i.toNat (by simp; omega)
        rw [at_one ha, add_block]
        omega)
      have a2 := hcell_fr (T := fun k => X.size ≤ k) cj f25 (by
        obtain ⟨ss, ee, VV, _⟩ := UX.out
        obtain ⟨a, ha, hs, _⟩ := VV.cell i.toNat (by simp; omega)
        rw [at_one ha, add_block]
        omega)
      exact slv_inj ((c1'.symm.trans a2).trans (a1.symm.trans c1))
    subst this
    refine ⟨fun e2 => ?_, fun e2 => ?_⟩
    · have hk := r25.lt e2
      have hk2 : k.toNat < degN xss i.toNat := by omega
      have bal := cyN_bal (r := (rs.getD i.toNat 0).toNat) (c := c i.toNat) hk2
      rw [hcd] at bal
      have cle := cyN_le (r := (rs.getD i.toNat 0).toNat) (d := degN xss i.toNat) k.toNat (c i.toNat)
      have rk := row k.toNat hk2
      refine ⟨r25.inb k0 hk, _, r25.get k0 hk, ?_⟩
      rw [rk]
      refine ⟨fun x h' => h' = h25 ∧ (cd : Int) ≤ x ∧ x ≤ n, ⟨fun e3 => ⟨rfl, by omega, by omega⟩, fun e3 => ⟨rfl, le0, le1⟩⟩, ?_⟩
      rintro x1 h26 ⟨rfl, x10, x11⟩ hL26
      refine ⟨fun x h' => h' = h26 ∧ 0 ≤ x ∧ x ≤ ((cd + 1 : Nat) : Int), ⟨fun e3 => ⟨rfl, by omega, by omega⟩, fun e3 => ⟨rfl, mo0, mo1⟩⟩, ?_⟩
      rintro x2 h27 ⟨rfl, x20, x21⟩ hL27
      obtain ⟨gi, cg, rg⟩ := G25.get i0 (show i < (xss.length : Int) by omega)
      have gd : xss[i.toNat].length = degN xss i.toNat := by unfold degN; rw [getD_get hi2]
      have hq := (graph_mem W.graph (List.getElem_mem hi2)).2 _ (List.getElem_mem (show k.toNat < xss[i.toNat].length by omega))
      refine ⟨G25.inb i0 (by omega), gi, cg, rg.inb k0 (by omega), _, rg.get k0 (by omega), ?_⟩
      generalize hQ : (xss[i.toNat][k.toNat]'(by omega)) = Q at hq ⊢
      have rz : RdI (fun k => X.size ≤ k) h27 z L2 := o25.rdF
      refine ⟨rz.inb hq.1 (by omega), _, rz.get hq.1 (by omega), ?_⟩
      have sk : sumN (cyN (rs.getD i.toNat 0).toNat (degN xss i.toNat) (c i.toNat)) (k.toNat + 1) ≤ c i.toNat := by
        have h1 := sumN_mono (f := cyN (rs.getD i.toNat 0).toNat (degN xss i.toNat) (c i.toNat)) (m := k.toNat + 1) (n := degN xss i.toNat) (by omega)
        rw [cyN_sum (by omega)] at h1
        exact h1
      rw [sumN] at sk
      have bq := B25 Q.toNat (by omega)
      have vq := L25 Q.toNat (by omega)
      rw [getD_getI (by omega)] at bq vq
      rw [w64_eq (L2[Q.toNat] + _) (by omega) (by omega), w64_eq (_ + ((cyN _ _ _ _ : Nat) : Int)) (by omega) (by omega), w64_eq (k + 1) (by omega) (by omega)]
      refine int_set o25 hq.1 (by omega) hL27 (off _ _ _ _) _ fun h28 o28 f28 V28 => ?_
      have ek : (k + 1).toNat = k.toNat + 1 := by omega
      refine ⟨m2 - 1, by omega, by omega, by omega, by rw [ek, sumN]; omega, x10, x11, x20, x21, ⟨_, o28, by simp [lL2], fun q hq' => ?_, fun q hq' => ?_⟩, f25.trans f28⟩
      · rw [setI_get (by omega), ek, sumN]
        have hgk : (xss.getD i.toNat []).getD k.toNat 0 = Q := by rw [getD_get hi2, getD_getI (by omega), hQ]
        rw [hgk]
        by_cases hqq : Q.toNat = q
        · rw [if_pos hqq, if_pos (by omega), vq, hqq]
          omega
        · rw [if_neg hqq, if_neg (by omega), L25 q hq']
          omega
      · rw [setI_get (by omega)]
        by_cases hqq : Q.toNat = q
        · rw [if_pos hqq]; omega
        · rw [if_neg hqq]
          have := B25 q hq'
          omega
    · have hk := r25.ge e2
      have ek : k.toNat = degN xss i.toNat := by omega
      rw [ek] at L25 B25 ⊢
      have rzero : degN xss i.toNat = 0 → c i.toNat = 0 := L0.zero i.toNat hi2
      have ctot : sumN (cyN (rs.getD i.toNat 0).toNat (degN xss i.toNat) (c i.toNat)) (degN xss i.toNat) = c i.toNat := by
        by_cases hd : degN xss i.toNat = 0
        · rw [hd, rzero hd]; rfl
        · exact cyN_sum (by omega) _
      have nxt : ∀ h', Fr No h25 h' → ∃ m' : Nat, m' < m ∧ (0 ≤ w64 (i + 1) ∧ w64 (i + 1) + m' = (xss.length : Int) ∧ (((sumN c i.toNat + sumN (cyN (rs.getD i.toNat 0).toNat (degN xss i.toNat) (c i.toNat)) (degN xss i.toNat) : Nat) : Int)) = ((sumN c (w64 (i + 1)).toNat : Nat) : Int) ∧ (∃ L, OwI h' (fun k => X.size ≤ k) z L ∧ L.length = xss.length ∧ (∀ q, q < xss.length → L.getD q 0 = ((sumN (fun p => sumN (fun k => if (xss.getD p []).getD k 0 = (q : Int) then cyN (rs.getD p 0).toNat (degN xss p) (c p) k else 0) (degN xss p)) (w64 (i + 1)).toNat : Nat) : Int)) ∧ ∀ q, q < xss.length → L.getD q 0 ≤ (((sumN c i.toNat + sumN (cyN (rs.getD i.toNat 0).toNat (degN xss i.toNat) (c i.toNat)) (degN xss i.toNat) : Nat) : Int))) ∧ Fr (fun k => X.size ≤ k) X h') := fun h' f' => by
        rw [w64_eq (i + 1) (by omega) (by omega), show (i + 1).toNat = i.toNat + 1 by omega]
        exact ⟨m - 1, by omega, by omega, by omega, by rw [ctot, sumN], ⟨L2, Ow.no o25 f', lL2, fun q hq => by rw [L25 q hq, sumN], B25⟩, f25.trans f'.of_no⟩
      refine ⟨fun e3 => ⟨fun e4 => ?_, fun e4 => ?_⟩, fun e3 => nxt h25 (Fr.refl _ _)⟩
      · rw [w64_eq (mo - le) (by omega) (by omega)] at e4
        simp only [decide_eq_true_eq] at e4
        omega
      · simp only [decide_eq_true_eq] at e3
        have hd : degN xss i.toNat ≠ 0 := by omega
        have hrot := L0.rot i.toNat hi2 hd
        have hsum : r.us[i.toNat].sum = (c i.toNat : Int) := by
          have := sum_sumN (l := r.us[i.toNat]) (f := cyN (rs.getD i.toNat 0).toNat (degN xss i.toNat) (c i.toNat)) (degN xss i.toNat) (by omega) (fun k hk => by rw [getD_getI (by omega)]; exact row k hk)
          rw [List.take_of_length_le (by omega), ctot] at this
          exact this
        refine ⟨H25.inb i0 (by omega), _, H25.get i0 (by omega), E25.inb i0 (by omega), _, E25.get i0 (by omega), ?_⟩
        refine k_wSum2 r25 (fun x hx => ?_) (by rw [rl]; have := (graph_mem W.graph (List.getElem_mem hi2)).1; unfold degN; rw [getD_get hi2]; omega) _ ⟨_, rfl, hL25, E25.get i0 (by omega), H25.get i0 (by omega), by omega, fun e5 => ?_, fun e5 => nxt h25 (Fr.refl _ _)⟩
        · have := R0.ub _ (List.getElem_mem (show i.toNat < r.us.length by omega)) x hx
          omega
        · exfalso
          rw [getD_getI (xs := r.s.1) (by omega)] at hrot
          have hro := W.rot i.toNat (show i.toNat < rs.length by omega) hi2
          simp only at hro
          have hrl : (rs[i.toNat]'(by omega)) ≤ 100 := by
            have := (graph_mem W.graph (List.getElem_mem hi2)).1
            omega
          rw [hsum, w64_eq _ (by omega) (by omega), sn, hrot] at e5
          have : ((rs[i.toNat]'(by omega)) + (c i.toNat : Int)).tmod (degN xss i.toNat : Int) = (((((rs, pp) : St).1.getD i.toNat 0).toNat + c i.toNat) % degN xss i.toNat : Nat) := by
            have h1 : (rs[i.toNat]'(by omega)) + (c i.toNat : Int) = ((((rs, pp) : St).1.getD i.toNat 0).toNat + c i.toNat : Nat) := by
              show _ = (((rs.getD i.toNat 0).toNat + c i.toNat : Nat) : Int)
              rw [getD_getI (by omega)]
              omega
            rw [h1]
            exact (Int.ofNat_tmod _ _).symm
          rw [this] at e5
          simp at e5
  · have hi := U24.ge e1
    have ei : i.toNat = xss.length := by omega
    rw [ei] at L24
    have hsumn : sumN c i.toNat = n := by rw [ei]; exact L0.sum
    refine ⟨fun e2 => by rw [hsumn] at e2; simp at e2, fun _ => ?_⟩
    have V24 := VX.fr f24 dis
    refine k_wSum2 V24 (fun x hx => by have := R0.vb x hx; omega) (by omega) _ ⟨_, rfl, hL24, fun e3 => by rw [vs_sum0 W hr] at e3; simp at e3, fun _ => ?_⟩
    have hLV : L = r.vs := by
      apply List.ext_getElem (by omega)
      intro q h1 h2
      have a1 := L24 q (by omega)
      have a2 := L0.vis q (by omega)
      rw [getD_getI h1] at a1
      rw [getD_getI h2] at a2
      rw [a1, a2]; rfl
    refine k_wSame (show RdI (fun k => X.size ≤ k) h24 z L from o24.rdF) V24 _ ⟨_, rfl, hL24, fun e4 => by rw [decide_eq_true hLV] at e4; simp at e4, fun _ => ?_⟩
    refine k_IsWalk (GX.fr f24 dis) (EX.fr f24 dis) r.s.2 _ fun h32 f32 => ⟨_, rfl, hL24.of_no f32, fun e5 => ?_, fun _ => HJ h32 (no_ (f24.trans f32.of_no))⟩
    rw [walk_to2 R0.w] at e5
    simp at e5
set_option maxHeartbeats 4000000 in
theorem k_lawWalksTurn {h : Heap} {S0 S1 : Nat → Prop} {s0 s1 : Sl} {x0 x1 : List Value} (G0 : RdV S0 h 1 s0 x0) (B0 : ∀ v, v ∈ x0 → ∃ m : Int, v = Value.int .u8 m ∧ 0 ≤ m ∧ m ≤ 255) (G1 : RdV S1 h 1 s1 x1) (B1 : ∀ v, v ∈ x1 → ∃ m : Int, v = Value.int .u8 m ∧ 0 ≤ m ∧ m ≤ 255) : Ret Tryd.prog 5 #[s0.v, s1.v] h (VB true) := by
  intro K HK
  refine x5 s0 s1 h K ?_
  unfold w5
  refine k_big s0 s1 h _ fun b0 => ⟨b0, rfl, .nil, fun _ => HK h (Fr.refl _ _), fun _ => ?_⟩
  refine k_DrawUsesOf G0 B0 _ fun t w gs rs p n h2 G2 H2 n0 n1 f2 => ⟨t, w, p, n, rfl, .nil, fun b1 b2 h6 _ _ f6 hL6 => ?_⟩
  have f6 := f6.in_nil
  have F6 := f2.no_trans f6
  have G6 := G2.no f6
  have H6 := H2.no f6
  refine k_UsesOf G6 H6 p n _ fun u h7 o7 f7 => ⟨u, _, rfl, hL6.of_no f7, ?_⟩
  have hL7 := hL6.of_no f7
  refine k_spec_UsesOf (G6.no f7) (H6.no f7) p n _ fun u' h8 o8 f8 => ⟨u', _, rfl, hL7.of_no f8, ?_⟩
  have f68 := f7.no_trans f8
  have hL8 := hL7.of_no f8
  refine k_VisitsOf (G6.no f68) (H6.no f68) p n _ fun v h9 o9 f9 => ⟨v, _, rfl, hL8.of_no f9, ?_⟩
  have f69 := f68.no_trans f9
  have hL9 := hL8.of_no f9
  refine k_spec_VisitsOf (G6.no f69) (H6.no f69) p n _ fun v' h10 o10 f10 => ⟨v', _, rfl, hL9.of_no f10, ?_⟩
  have f610 := f69.no_trans f10
  have hL10 := hL9.of_no f10
  refine k_RunOf (G6.no f610) (H6.no f610) p n _ fun e h11 o11 f11 => ⟨e, _, _, rfl, hL10.of_no f11, fun b3 h13 _ f13 hL13 => ?_⟩
  have f13 := f13.in_nil
  have f613 := f610.no_trans (f11.no_trans f13)
  refine k_spec_RunOf (G6.no f613) (H6.no f613) p n _ fun e' h14 o14 f14 => ⟨e', _, _, rfl, hL13.of_no f14, fun b4 h16 _ f16 hL16 => ?_⟩
  have f16 := f16.in_nil
  have f616 := f613.no_trans (f14.no_trans f16)
  refine k_PlacesPassed (G6.no f616) (H6.no f616) p n _ fun q h17 o17 f17 => ⟨q, _, rfl, hL16.of_no f17, ?_⟩
  have f617 := f616.no_trans f17
  have hL17 := hL16.of_no f17
  refine k_spec_PlacesPassed (G6.no f617) (H6.no f617) p n _ fun q' h18 o18 f18 => ⟨q', _, rfl, hL17.of_no f18, fun e => by simp at e, fun _ => ?_⟩
  have hL18 := hL17.of_no f18
  have f1718 := f17.no_trans f18
  have f1618 := f16.no_trans f1718
  have f1418 := f14.no_trans f1618
  have f1318 := f13.no_trans f1418
  have f1118 := f11.no_trans f1318
  have f1018 := f10.no_trans f1118
  have f918 := f9.no_trans f1018
  have f818 := f8.no_trans f918
  have f718 := f7.no_trans f818
  have U18 : RdR _ h18 u _ := (OwR.rd o7).no f818
  have U18' : RdR _ h18 u' _ := RdR.no o8 f918
  have V18 : RdI _ h18 v _ := RdI.no o9.rdF f1018
  have V18' : RdI _ h18 v' _ := RdI.no o10 f1118
  have E18 : RdI _ h18 e _ := RdI.no o11.rdF f1318
  have E18' : RdI _ h18 e' _ := RdI.no o14.rdF f1618
  have P18 : RdI _ h18 q _ := RdI.no o17.rdF f18
  have P18' : RdI _ h18 q' _ := o18
  have f018 : Fr No h h18 := F6.no_trans f718
  have G18 := G6.no f718
  have H18 := H6.no f718
  have G18' := G1.no f018
  refine k_wRows U18 U18' rfl _ ⟨_, rfl, hL18, fun e => by simp at e, fun _ => ⟨fun e => by simp at e, fun _ => ?_⟩⟩
  refine k_wSame V18 V18' _ ⟨_, rfl, hL18, fun e => by simp at e, fun _ => ⟨fun e => by simp at e, fun _ => ?_⟩⟩
  refine k_wWalk E18 E18' _ _ _ fun h21 f21 => ⟨_, rfl, hL18.of_no f21, fun e => by simp at e, fun _ => ⟨fun e => by simp at e, fun _ => ?_⟩⟩
  have hL21 := hL18.of_no f21
  obtain ⟨a1, a2, a3, a4⟩ := wt_facts gs rs p n
  refine k_wSame (P18.no f21) (P18'.no f21) _ ⟨_, rfl, hL21, fun e => by simp at e, fun _ => ⟨fun e => by rw [a1] at e; simp at e, fun _ => ⟨fun e => by rw [a2] at e; simp at e, fun _ => ?_⟩⟩⟩
  have G21 := G18.no f21
  have H21 := H18.no f21
  have U21 := U18.no f21
  have V21 := V18.no f21
  have E21 := E18.no f21
  have P21 := P18.no f21
  have f021 := f018.no_trans f21
  have one : (useP gs rs p n).2 = true → ∀ J : Heap → Prop, (∀ h', Fr No h21 h' → J h') → w5_1 Tryd.prog t h21 b4 e' (runOfP gs rs p n).1.2 b3 e (runOfP gs rs p n).1.2 b2 w p b1 u n v J K := fun hu J HJ => by
    obtain ⟨W, m0, m1, r, hr, e1, e2, e3, _⟩ := a4 hu
    obtain ⟨N, rfl⟩ := Int.eq_ofNat_of_zero_le m0
    rw [Int.toNat_natCast] at hr
    rw [e1] at U21
    rw [e2] at V21
    rw [e3] at E21 hL21 ⊢
    exact wt_tail1 G21 H21 U21 V21 E21 W (by omega) hr J HJ hL21
  refine ⟨fun e5 => ⟨fun e6 => (by rw [a3 e5] at e6; cases e6), fun _ => ?_⟩, fun e5 => ?_⟩
  · refine ⟨fun h' => Fr No h21 h', ⟨fun e6 => one e6 _ fun h' f => f, fun _ => Fr.refl _ _⟩, ?_⟩
    intro h33 f33 hL33
    refine ⟨fun h' => Fr No h21 h', fun b5 h35 hb5 f35 hL35 => ?_, wt_tail2 (G18'.no f21) B1 _ (fun h' f => f) _ _ _ _ _ _ _ _ _ _ _ fun h' f => HK h' (f021.no_trans f)⟩
    have f35 := f35.in_nil
    obtain ⟨W, m0, m1, r, hr, e1, e2, e3, e4⟩ := a4 (a3 e5)
    have e4 := e4 e5
    obtain ⟨N, rfl⟩ := Int.eq_ofNat_of_zero_le m0
    rw [Int.toNat_natCast] at hr
    obtain ⟨p1, p2, p3⟩ := pass_at0 hr
    rw [e4] at P21
    rw [e3] at E21
    have z33 := f33.size
    have GL : RdR (fun k => k < h33.size) h33 t gs := (G21.no f33).low
    have EL : RdI (fun k => k < h33.size) h33 e r.s.1 := (E21.no f33).low
    have PL : RdI (fun k => k < h33.size) h33 q r.ps := (P21.no f33).low
    have HL : RdI (fun k => k < h33.size) h33 w rs := (H21.no f33).low
    have dis : ∀ k, k < h33.size → ¬ h33.size ≤ k := fun k hk hk2 => by omega
    have back : ∀ {y : Heap}, Fr (fun k => h33.size ≤ k) h33 y → Fr No h21 y := fun f => f33.no_trans (f.mono fun k hk hk2 => absurd hk2 (by omega))
    refine ⟨fun m i x3 x4 h' => 0 ≤ i ∧ i + m = ((N + 1 : Nat) : Int) ∧ (∃ (s : St) (S : Nat → Prop), sq gs (rs, p) (min i.toNat N) = some s ∧ x4 = s.2 ∧ RdI S h' x3 s.1 ∧ ∀ k, S k → k ≠ b5) ∧ Fr (fun k => h33.size ≤ k) h33 h', ⟨N + 1, by omega, by omega, ⟨(rs, p), _, by rw [show min (0 : Int).toNat N = 0 by simp]; rfl, rfl, HL.no f35, fun k hk => by omega⟩, f35.of_no⟩, ?_⟩
    rintro m i x3 x4 h36 ⟨i0, i1, ⟨s, S, hs, rfl, X36, hS⟩, f36⟩ hL36
    have P36 := PL.fr f36 dis
    have pn := P36.len
    refine ⟨fun e6 => ?_, fun e6 => ?_⟩
    · have hi := P36.lt e6
      obtain ⟨s2, q1, q2⟩ := p2 i.toNat (by omega)
      rw [Nat.min_eq_left (by omega)] at hs
      have : s2 = s := Option.some.inj (q1.symm.trans hs)
      subst this
      rw [getD_getI (by omega)] at q2
      refine ⟨P36.inb i0 hi, _, P36.get i0 hi, fun e7 => by rw [q2] at e7; simp at e7, fun _ => ⟨fun e8 => ?_, fun e8 => ?_⟩⟩
      · simp only [decide_eq_true_eq] at e8
        rw [w64_eq _ (by omega) (by omega)] at e8 ⊢
        obtain ⟨s3, q3, _⟩ := p2 (i.toNat + 1) (by omega)
        have hst : stepP gs s2 = some s3 := by rw [sq, q1] at q3; exact q3
        have run1 := run_one (walk_to2 (sq_wok W q1)) hst
        have G36 := GL.fr f36 dis
        refine k_StepOf G36 X36 s2.2 _ fun y h37 o37 f37 => ⟨y, _, _, rfl, hL36.of_no f37, fun e9 => (by rw [run1] at e9; cases e9), fun _ b6 h40 _ f40 _ => ?_⟩
        rw [run1] at o37 ⊢
        have z36 := f36.size
        have z37 := f37.size
        have l5 : b5 < h36.size := hL36.head.lt
        have hne : ∀ k, Iv h36.size h37.size k → k ≠ b5 := fun k hk => by have := hk.1; omega
        refine ⟨m - 1, by omega, by omega, by omega, ⟨s3, _, ?_, rfl, (show RdI _ h37 y s3.1 from o37.rdF).fr f40 fun k hk hk2 => ?_, hne⟩, (f36.trans f37.of_no).trans (f40.mono fun k _ hk => ?_)⟩
        · rw [show min (i + 1).toNat N = i.toNat + 1 by omega]; exact q3
        · have := hne k hk
          simp only [In, List.mem_cons, List.not_mem_nil, or_false] at hk2
          exact this hk2
        · simp only [In, List.mem_cons, List.not_mem_nil, or_false] at hk
          subst hk; exact hb5
      · simp only [decide_eq_false_iff_not] at e8
        rw [w64_eq _ (by omega) (by omega)] at e8 ⊢
        exact ⟨m - 1, by omega, by omega, by omega, ⟨s2, S, by rw [show min (i + 1).toNat N = i.toNat by omega]; exact q1, rfl, X36, hS⟩, f36⟩
    · have hi := P36.ge e6
      rw [show min i.toNat N = N by omega] at hs
      have : s = r.s := Option.some.inj (hs.symm.trans p3)
      subst this
      refine ⟨fun e7 => ?_, fun _ => ?_⟩
      · rw [w64_eq _ (by omega) (by omega)] at e7
        simp only [Bool.not_eq_true', decide_eq_false_iff_not] at e7
        omega
      refine k_wWalk X36 (EL.fr f36 dis) _ _ _ fun h41 f41 => ⟨_, rfl, hL36.of_no f41, fun e7 => (by rw [e3] at e7; simp at e7), fun _ => (back f36).no_trans f41⟩
  · refine ⟨fun h' => Fr No h21 h', ⟨fun e6 => one e6 _ fun h' f => f, fun _ => Fr.refl _ _⟩, ?_⟩
    intro h85 f85 hL85
    exact ⟨fun h' => Fr No h21 h', f85, wt_tail2 (G18'.no f21) B1 _ (fun h' f => f) _ _ _ _ _ _ _ _ _ _ _ fun h' f => HK h' (f021.no_trans f)⟩
end Go.Proofs.YtkjkfjkapbpgiaaDoor
