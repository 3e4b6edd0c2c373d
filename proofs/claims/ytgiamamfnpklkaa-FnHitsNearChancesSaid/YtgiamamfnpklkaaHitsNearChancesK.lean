import Derived.Test.YtgiamamfnpklkaaHitsNearChancesK1
set_option linter.unusedVariables false
set_option linter.unusedSimpArgs false
namespace Go.Proofs.Ytgiamamfnpklkaa
open Go Go.Mx
def chip1 (g : List (List Int)) (a b p : Int) (rs : List Int) : St × Nat := walkG g a b (lefN g a b (rs, p)) (rs, p)
def chipsP (g : List (List Int)) (a b p : Int) (rs : List Int) : Nat -> List Int × List Int × Int
  | 0 => ([], rs, 0)
  | n + 1 => ((chipsP g a b p rs n).1 ++ [if (chip1 g a b p (chipsP g a b p rs n).2.1).1.2 = a then 1 else 0], (chip1 g a b p (chipsP g a b p rs n).2.1).1.1, (chipsP g a b p rs n).2.2 + ((chip1 g a b p (chipsP g a b p rs n).2.1).2 : Int))
def hAsk (g : List (List Int)) (rs : List Int) (p a b n : Int) : Bool := canB g a b && walkB g rs p && inR 0 100 n
def htsP (g : List (List Int)) (rs : List Int) (p a b n : Int) : (List Int × List Int × Int) × Bool := if hAsk g rs p a b n = true then (chipsP g a b p rs n.toNat, true) else (([], [], 0), false)
structure Ask (g : List (List Int)) (rs : List Int) (p a b n : Int) : Prop where
  can : Can g a b
  ok : WOK g (rs, p)
  n0 : 0 ≤ n
  n1 : n ≤ 100
theorem ask_o {g : List (List Int)} {rs : List Int} {p a b n : Int} (h : hAsk g rs p a b n = true) : Ask g rs p a b n := by
  unfold hAsk at h
  rw [Bool.and_eq_true, Bool.and_eq_true, inR_iff] at h
  exact ⟨can_o h.1.1, wok_of h.1.2, h.2.1, h.2.2⟩
theorem WOK.put {g : List (List Int)} {rs : List Int} {p q : Int} (W : WOK g (rs, p)) (q0 : 0 ≤ q) (q1 : q < (g.length : Int)) : WOK g (rs, q) := ⟨W.graph, W.len, q0, q1, W.rot⟩
theorem chips_ok {g : List (List Int)} {rs : List Int} {p a b : Int} (C : Can g a b) (W : WOK g (rs, p)) : ∀ n, WOK g ((chipsP g a b p rs n).2.1, p) /\ (chipsP g a b p rs n).1.length = n /\ (∀ x, x ∈ (chipsP g a b p rs n).1 -> x = 0 ∨ x = 1) /\ 0 ≤ (chipsP g a b p rs n).2.2 /\ (chipsP g a b p rs n).2.2 ≤ 10000000000000 * n
  | 0 => ⟨W, rfl, fun x hx => by simp [chipsP] at hx, Int.le_refl _, by simp [chipsP]⟩
  | n + 1 => by
    obtain ⟨h1, h2, h3, h4, h5⟩ := chips_ok C W n
    obtain ⟨g1, g2, g3, _⟩ := C.go (lefN g a b ((chipsP g a b p rs n).2.1, p)) h1 (Nat.le_refl _)
    have g4 := C.left_hi h1
    have e : chip1 g a b p (chipsP g a b p rs n).2.1 = walkG g a b (lefN g a b ((chipsP g a b p rs n).2.1, p)) ((chipsP g a b p rs n).2.1, p) := rfl
    rw [← e] at g1 g2 g3
    refine ⟨g2.put W.lo W.hi, ?_, fun x hx => ?_, ?_, ?_⟩
    · rw [chipsP, List.length_append, h2]; rfl
    · rw [chipsP] at hx
      rcases List.mem_append.1 hx with hx | hx
      · exact h3 x hx
      · rw [List.mem_singleton] at hx
        rw [hx]
        split
        · exact .inr rfl
        · exact .inl rfl
    · rw [chipsP]
      (try simp only)
      omega
    · rw [chipsP]
      (try simp only)
      omega
theorem Can.chip_next {g : List (List Int)} {a b : Int} (C : Can g a b) {s : St} (W : WOK g s) (pa : s.2 ≠ a) (pb : s.2 ≠ b) : ∃ s', stepP g s = some s' /\ WOK g s' /\ lefN g a b s' < lefN g a b s /\ walkG g a b (lefN g a b s) s = ((walkG g a b (lefN g a b s') s').1, (walkG g a b (lefN g a b s') s').2 + 1) := by
  obtain ⟨s', hs, W', hl⟩ := C.left W pa pb
  refine ⟨s', hs, W', hl, ?_⟩
  obtain ⟨d, hd⟩ : ∃ d, lefN g a b s = lefN g a b s' + d + 1 := ⟨lefN g a b s - lefN g a b s' - 1, by omega⟩
  have hm := walkG_more (lefN g a b s') d s' (C.go _ W' (Nat.le_refl _)).1
  rw [hd, walkG, if_neg (by rintro (e | e); exact pa e; exact pb e), hs]
  (try simp only)
  rw [hm]
theorem walkB_two {g : List (List Int)} {rs : List Int} {p : Int} (hg : graphB g = true) : walkB g rs p = (inR 0 ((g.length : Int) - 1) p && walkB g rs 0) := by
  have gl := graph_len hg
  unfold walkB
  rw [hg, inR_iff.2 (show (0 : Int) ≤ 0 /\ (0 : Int) ≤ (g.length : Int) - 1 from ⟨Int.le_refl _, by omega⟩)]
  cases inR 0 ((g.length : Int) - 1) p <;> simp
theorem hits_sum {l : List Int} : (∀ x, x ∈ l -> x = 0 ∨ x = 1) -> 0 ≤ l.sum /\ l.sum ≤ l.length := by
  induction l with
  | nil => intro _; simp
  | cons x l ih =>
    intro h
    have h1 := ih fun y hy => h y (List.mem_cons_of_mem _ hy)
    have h2 := h x List.mem_cons_self
    rw [List.sum_cons, List.length_cons]
    omega
theorem htsP_t {g : List (List Int)} {rs : List Int} {p a b n : Int} (h : hAsk g rs p a b n = true) : htsP g rs p a b n = (chipsP g a b p rs n.toNat, true) := by unfold htsP; rw [if_pos h]
theorem htsP_f {g : List (List Int)} {rs : List Int} {p a b n : Int} (h : hAsk g rs p a b n = false) : htsP g rs p a b n = (([], [], 0), false) := by unfold htsP; rw [if_neg (by rw [h]; decide)]
theorem htsP_all {g : List (List Int)} {rs : List Int} {p a b n : Int} : (∀ x, x ∈ (htsP g rs p a b n).1.1 -> x = 0 ∨ x = 1) /\ (htsP g rs p a b n).1.1.length ≤ 100 := by
  cases h : hAsk g rs p a b n with
  | false => rw [htsP_f h]; exact ⟨fun x hx => by simp at hx, Nat.zero_le _⟩
  | true =>
    have A := ask_o h
    rw [htsP_t h]
    have h1 := A.n0
    have h2 := A.n1
    obtain ⟨_, h3, h4, _⟩ := chips_ok A.can A.ok n.toNat
    exact ⟨h4, by (try simp only); omega⟩
set_option maxHeartbeats 4000000 in
theorem k_hits {S S' : Nat -> Prop} {h : Heap} {g r : Sl} {xss : List (List Int)} {rs : List Int} (G : RdR S h g xss) (H : RdI S' h r rs) (p a b n : Int) (K : Value -> Heap -> Prop) (HK : ∀ t u h', RdI (fun k => k < h'.size) h' t (htsP xss rs p a b n).1.1 -> RdI (fun k => k < h'.size) h' u (htsP xss rs p a b n).1.2.1 -> Fr No h h' -> K (.tuple #[t.v, u.v, VI (htsP xss rs p a b n).1.2.2, VB (htsP xss rs p a b n).2]) h') : callM Try.prog 79 #[.agg #[g.v], r.v, VI p, VI a, VI b, VI n] h K := by
  refine v79 g r p a b n h K fun b1 h1 hb1 f1 hL1 => ?_
  have f1 := f1.in_nil
  have no_ : hAsk xss rs p a b n = false -> ∀ h', Fr No h h' -> K (.tuple #[nilSl.v, nilSl.v, VI 0, VB false]) h' := fun hq h' f => by
    rw [htsP_f hq] at HK
    exact HK nilSl nilSl h' (RdV.nil _ _ _) (RdV.nil _ _ _) f
  refine k_canEnd (G.no f1) a b _ fun h2 f2 => ⟨_, rfl, hL1.of_no f2, fun e => no_ (by unfold hAsk; rw [not_t e]; rfl) _ (f1.no_trans f2), fun e => ?_⟩
  have e := not_f e
  have C := can_o e
  have hL2 := hL1.of_no f2
  have f12 := f1.no_trans f2
  refine eop_lit rIs (fun k => h2.size ≤ k) (fun _ h => h) 1 (by omega) [VI p] rfl rfl fun t h3 n3 c3 o3 f3 m3 _ => ⟨t, rfl, hL2.of_no f3, ?_⟩
  have o3 : RdI (fun k => h2.size ≤ k) h3 t [p] := o3.rdF
  have hL3 := hL2.of_no f3
  refine k_has (G.no (f12.no_trans f3)) o3 _ fun h4 f4 => ⟨_, rfl, hL3.of_no f4, fun e2 => ?_, fun e2 => ?_⟩
  all_goals simp only [List.all_cons, List.all_nil, Bool.and_true, C.graph, Bool.true_and] at e2
  all_goals have f14 := f12.no_trans (f3.no_trans f4)
  · exact no_ (by unfold hAsk; rw [walkB_two C.graph, not_t e2, Bool.false_and, Bool.and_false]; rfl) _ f14
  have e2 := not_f e2
  have hL4 := hL3.of_no f4
  refine k_areRotors (G.no f14) (H.no f14) _ fun h5 f5 => ⟨_, rfl, hL4.of_no f5, fun e3 => no_ (by unfold hAsk; rw [walkB_two C.graph, not_t e3, Bool.and_false, Bool.and_false]; rfl) _ (f14.no_trans f5), fun e3 => ?_⟩
  have e3 := not_f e3
  have f15 := f14.no_trans f5
  have hL5 := hL4.of_no f5
  have hwb : walkB xss rs p = true := by rw [walkB_two C.graph, e2, e3]; rfl
  refine k_impl_in n 0 100 h5 _ ⟨_, rfl, hL5, ?_⟩
  rw [show (decide (0 ≤ n) && decide (n ≤ 100)) = inR 0 100 n from rfl]
  refine ⟨fun e4 => no_ (by unfold hAsk; rw [not_t e4, Bool.and_false]) _ f15, fun e4 => ?_⟩
  have e4 := not_f e4
  have hq : hAsk xss rs p a b n = true := by unfold hAsk; rw [e, hwb, e4]; rfl
  have A := ask_o hq
  have W := A.ok
  have n0 := A.n0
  have n1 := A.n1
  have gl := graph_len C.graph
  have rl : rs.length = xss.length := W.len
  rw [htsP_t hq] at HK
  refine k_Clone (H.no f15) (by omega) _ fun w h7 o7 f7 => ⟨w, rfl, hL5.of_no f7, ?_⟩
  refine eop_lit rIs (fun k => h7.size ≤ k) (fun _ h => h) 0 (by omega) [] rfl rfl fun l0 h8 n8 c8 o8 f8 m8 _ => ⟨l0, rfl, (hL5.of_no f7).of_no f8, fun b2 h10 hb2 f10 hL10 => ?_⟩
  have f10 := f10.in_nil
  have z7 := f7.size
  have z8 := f8.size
  have z10 := f10.size
  have F10 := f15.no_trans (f7.no_trans (f8.no_trans f10))
  have l2 := hL10.head.lt
  have l1 := hL5.head.lt
  have G10 : RdR (fun k => k < h5.size) h10 g xss := ((G.no f15).low.no f7).no (f8.no_trans f10)
  refine ⟨fun m l st i xr xa h' => 0 ≤ i /\ i + m = n /\ xr = w /\ l.n = i.toNat /\ OwI h' (fun k => h7.size ≤ k /\ k ≠ b2) l (chipsP xss a b p rs i.toNat).1 /\ OwI h' (Iv h5.size h7.size) w (chipsP xss a b p rs i.toNat).2.1 /\ st = (chipsP xss a b p rs i.toNat).2.2 /\ Fr (fun k => h5.size ≤ k) h10 h', ⟨n.toNat, Int.le_refl _, by omega, rfl, n8, (o8.no f10).mono fun k hk hF => ⟨hF, fun hk2 => by have := (o8.foot hk).2; omega⟩, (o7.no f8).no f10, rfl, Fr.refl _ _⟩, ?_⟩
  rintro m l st i xr xa h11 ⟨i0, i1, rfl, ln, o11, w11, rfl, f11⟩ hL11
  refine ⟨fun e5 h12 f12' hL12 => ?_, fun e5 => ?_⟩
  · simp only [decide_eq_true_eq] at e5
    obtain ⟨W1, k2, k3, k4, k5⟩ := chips_ok C W i.toNat
    obtain ⟨q1, q2, q3, _⟩ := C.go (lefN xss a b ((chipsP xss a b p rs i.toNat).2.1, p)) W1 (Nat.le_refl _)
    have q4 := C.left_hi W1
    have ec : chip1 xss a b p (chipsP xss a b p rs i.toNat).2.1 = walkG xss a b (lefN xss a b ((chipsP xss a b p rs i.toNat).2.1, p)) ((chipsP xss a b p rs i.toNat).2.1, p) := rfl
    have enext : chipsP xss a b p rs (i + 1).toNat = ((chipsP xss a b p rs i.toNat).1 ++ [if (chip1 xss a b p (chipsP xss a b p rs i.toNat).2.1).1.2 = a then 1 else 0], (chip1 xss a b p (chipsP xss a b p rs i.toNat).2.1).1.1, (chipsP xss a b p rs i.toNat).2.2 + ((chip1 xss a b p (chipsP xss a b p rs i.toNat).2.1).2 : Int)) := by
      rw [show (i + 1).toNat = i.toNat + 1 by omega, chipsP]
    rw [← ec] at q1 q2 q3
    have k6 : (10000000000000 : Int) * (i.toNat : Nat) ≤ 10000000000000 * 100 := by omega
    generalize chipsP xss a b p rs i.toNat = R at *
    generalize chip1 xss a b p R.2.1 = c at *
    have b2L : ∀ {T : Nat -> Prop}, (∀ k, T k -> k = b2) -> ∀ k, h7.size ≤ k /\ k ≠ b2 -> ¬ T k := fun hT k hk hk2 => hk.2 (hT k hk2)
    have in2 : ∀ k, In [b2] k -> k = b2 := fun k hk => by simpa [In] using hk
    have o12 : OwI h12 (fun k => h7.size ≤ k /\ k ≠ b2) l R.1 := o11.fr f12' fun k hk hk2 => (o11.foot hk).1.2 (in2 k hk2)
    have w12 : OwI h12 (Iv h5.size h7.size) xr R.2.1 := w11.fr f12' fun k hk hk2 => by have := (w11.foot hk).1.2; have := in2 k hk2; omega
    have f1012 : Fr (fun k => h5.size ≤ k) h10 h12 := f11.trans (f12'.mono fun k _ hk => by have := in2 k hk; omega)
    refine ⟨fun m2 st yr ya h' => yr = xr /\ ∃ s : St, m2 = lefN xss a b s /\ WOK xss s /\ s.2 = ya /\ OwI h' (fun k => h7.size ≤ k /\ k ≠ b2) l R.1 /\ OwI h' (Iv h5.size h7.size) xr s.1 /\ (walkG xss a b (lefN xss a b s) s).1 = c.1 /\ R.2.2 ≤ st /\ st + ((walkG xss a b (lefN xss a b s) s).2 : Int) = R.2.2 + (c.2 : Int) /\ Fr (fun k => h5.size ≤ k) h10 h', ⟨lefN xss a b (R.2.1, p), rfl, (R.2.1, p), rfl, W1, rfl, o12, w12, by rw [← ec], Int.le_refl _, by rw [← ec], f1012⟩, ?_⟩
    rintro m2 st yr ya h13 ⟨rfl, s, rfl, W13, rfl, o13, w13, s1, s2, s3, f13⟩ hL13
    have l2' := hL13.head.lt
    have fin : ∀ (hs : s.2 = a ∨ s.2 = b) (x : Int), x = (if s.2 = a then 1 else 0) -> eop Try.prog (Instr.buildSlice tIs 1 #[(0, VI x)]) h13 fun rv h1 => ∃ t : Sl, rv = t.v /\ Vars h1 [(b2, [yr.v, VI s.2]), (b1, [g.v])] /\ eop Try.prog (appS tIs tIs tIs l.v t.v) h1 fun rv2 h2 => ∃ t2 : Sl, rv2 = t2.v /\ Vars h2 [(b2, [yr.v, VI s.2]), (b1, [g.v])] /\ (∃ m' : Nat, m' < m /\ (0 ≤ w64 (i + 1) /\ w64 (i + 1) + m' = n /\ yr = yr /\ t2.n = (w64 (i + 1)).toNat /\ OwI h2 (fun k => h7.size ≤ k /\ k ≠ b2) t2 (chipsP xss a b p rs (w64 (i + 1)).toNat).1 /\ OwI h2 (Iv h5.size h7.size) yr (chipsP xss a b p rs (w64 (i + 1)).toNat).2.1 /\ st = (chipsP xss a b p rs (w64 (i + 1)).toNat).2.2 /\ Fr (fun k => h5.size ≤ k) h10 h2)) := fun hs x hx => by
      rw [walkG_at hs] at s1 s3
      (try simp only at s1 s3)
      refine eop_putI (F := fun k => h7.size ≤ k /\ k ≠ b2) o13 (fun k hk => ⟨by have := f13.size; omega, by omega⟩) hL13 (fun q hq hk => ?_) (by omega) _ fun t2 h14 o14 f14 V14 => ?_
      · simp only [List.mem_cons, List.not_mem_nil, or_false] at hq
        rcases hq with rfl | rfl
        · exact hk.2 rfl
        · have := hk.1
          (try simp only at this)
          omega
      rw [w64_eq _ (by omega) (by omega), enext]
      have tn := RdI.len o14.rdF
      rw [List.length_append, k2] at tn
      refine ⟨m - 1, by omega, by omega, by omega, rfl, by rw [tn]; simp; omega, ?_, ?_, ?_, f13.trans (f14.mono fun k _ hk => by omega)⟩
      · (try simp only)
        rw [← s1, ← hx]
        exact o14
      · (try simp only)
        rw [← s1]
        exact w13.fr f14 fun k hk hk2 => by have := (w13.foot hk).1.2; omega
      · (try simp only)
        omega
    refine ⟨fun e6 => ⟨fun e7 => ?_, fun e7 => ⟨fun e8 => ?_, fun e8 => ?_⟩⟩, fun e6 => ⟨fun e8 => ?_, fun e8 => ?_⟩⟩
    · have e6 := not_t e6
      have e7 := not_t e7
      simp only [decide_eq_false_iff_not] at e6 e7
      obtain ⟨s', hs, W', hl, hn⟩ := C.chip_next W13 e6 e7
      rw [hn] at s1 s3
      (try simp only at s1 s3)
      have G13 : RdR (fun k => k < h5.size) h13 g xss := G10.fr f13 fun k hk hk2 => by omega
      refine k_stepF (F := fun k => Iv h5.size h7.size k ∨ k = b2) G13 hL13.head (w13.mono fun k _ hk => .inl hk) (fun k hk hk2 => by
        rcases hk2 with hk2 | hk2
        · have := hk2.1; omega
        · omega) (.inr rfl) (fun hk => by have := (w13.foot hk).1.2; omega) W13 _ (fun hn => by rw [hs] at hn; cases hn) fun s2' hs2 h14 o14 V14 f14 => ?_
      rw [hs] at hs2
      obtain rfl := Option.some.inj hs2
      have w14 : OwI h14 (Iv h5.size h7.size) yr s'.1 := o14.mono fun k hk _ => (w13.foot hk).1
      refine ⟨yr, s'.2, true, rfl, .cons V14 (by simp; omega) ((hL13.tail).fr f14 fun q hq hk => ?_), ?_⟩
      · simp only [List.mem_cons, List.not_mem_nil, or_false] at hq
        subst hq
        rcases hk with hk | hk
        · have := hk.1
          (try simp only at this)
          omega
        · (try simp only at hk)
          omega
      rw [w64_eq (st + 1) (by omega) (by omega)]
      refine ⟨_, hl, rfl, s', rfl, W', rfl, o13.fr f14 fun k hk hk2 => ?_, w14, s1, by omega, by omega, f13.trans (f14.mono fun k _ hk => ?_)⟩
      · have h1 := (o13.foot hk).1
        rcases hk2 with hk2 | hk2
        · have := hk2.2; omega
        · exact h1.2 hk2
      · rcases hk with hk | hk
        · exact hk.1
        · omega
    · have e7 := not_f e7
      simp only [decide_eq_true_eq] at e7 e8
      exact absurd (e8.symm.trans e7) C.ne
    · have e7 := not_f e7
      simp only [decide_eq_true_eq, decide_eq_false_iff_not] at e7 e8
      exact fin (.inr e7) 0 (by rw [if_neg e8])
    · simp only [decide_eq_true_eq] at e8
      exact fin (.inl e8) 1 (by rw [if_pos e8])
    · have e6 := not_f e6
      simp only [decide_eq_true_eq, decide_eq_false_iff_not] at e6 e8
      exact absurd e6 e8
  · simp only [decide_eq_false_iff_not] at e5
    have ei : i.toNat = n.toNat := by omega
    rw [ei] at o11 w11 ⊢
    exact HK l xr h11 (RdI.low o11.rdF) (RdI.low w11.rdF) (F10.fresh f11 fun k hk => by have := f15.size; omega)
theorem k_hiSum {S : Nat -> Prop} {h : Heap} {s : Sl} {l : List Int} (H : RdI S h s l) (hb : ∀ x, x ∈ l -> x = 0 ∨ x = 1) (hn : l.length ≤ 1000) (K : Value -> Heap -> Prop) (HK : K (VI l.sum) h) : callM Try.prog 82 #[s.v] h K := by
  refine v82 s h K ⟨fun n c i h' => 0 ≤ i /\ i + n = (l.length : Int) /\ c = (l.take i.toNat).sum /\ h' = h, ⟨l.length, by omega, by omega, by simp, rfl⟩, ?_⟩
  rintro n c i h1 ⟨i0, i1, rfl, rfl⟩ hL1
  refine ⟨fun e => ?_, fun e => ?_⟩
  · have hi := H.lt e
    have tk : l.take (i + 1).toNat = _ := take_snoc _ i0 hi
    have hx := hb _ (List.getElem_mem (show i.toNat < l.length by omega))
    have hc := H.get i0 hi
    have hs := hits_sum (l := l.take i.toNat) fun x hx => hb x (List.mem_of_mem_take hx)
    rw [List.length_take] at hs
    generalize l[i.toNat]'(by omega) = v at tk hx hc
    refine ⟨H.inb i0 hi, _, hc, n - 1, by omega, ?_⟩
    rw [H.succ i0 hi, w64_eq _ (by omega) (by omega)]
    (try simp only)
    rw [tk, List.sum_append]
    exact ⟨by omega, by omega, by simp, trivial⟩
  · have hi := H.ge e
    rw [List.take_of_length_le (by omega)]
    exact HK
theorem k_hiAsked {S S' : Nat -> Prop} {h : Heap} {g r : Sl} {xss : List (List Int)} {rs : List Int} (G : RdR S h g xss) (H : RdI S' h r rs) (p a b n : Int) : Ret Try.prog 81 #[.agg #[g.v], r.v, VI p, VI a, VI b, VI n] h (VB (hAsk xss rs p a b n)) := by
  intro K HK
  unfold hAsk at HK
  refine v81 g r p a b n h K fun b1 h1 hb1 f1 hL1 => ?_
  have f1 := f1.in_nil
  refine k_hiGood (G.no f1) a b _ fun h2 f2 => ⟨_, rfl, hL1.of_no f2, fun e => ?_, fun e => ?_⟩
  · have f12 := f1.no_trans f2
    have hL2 := hL1.of_no f2
    rw [e, Bool.true_and] at HK
    refine k_spec_waGood (G.no f12) (H.no f12) p _ fun h3 f3 => ⟨_, rfl, hL2.of_no f3, fun e2 => ?_, fun e2 => ?_⟩
    · rw [e2, Bool.true_and] at HK
      exact k_spec_l1In n 0 100 h3 _ ⟨_, rfl, hL2.of_no f3, HK h3 (f12.no_trans f3)⟩
    · rw [e2, Bool.false_and] at HK
      exact HK h3 (f12.no_trans f3)
  · rw [e, Bool.false_and, Bool.false_and] at HK
    exact HK h2 (f1.no_trans f2)
set_option maxHeartbeats 4000000 in
theorem k_hiRun {S S' : Nat -> Prop} {h : Heap} {g r : Sl} {xss : List (List Int)} {rs : List Int} (G : RdR S h g xss) (H : RdI S' h r rs) {p a b n : Int} (A : Ask xss rs p a b n) (K : Value -> Heap -> Prop) (HK : ∀ t u h', RdI (fun k => k < h'.size) h' t (chipsP xss a b p rs n.toNat).1 -> RdI (fun k => k < h'.size) h' u (chipsP xss a b p rs n.toNat).2.1 -> Fr No h h' -> K (.agg #[t.v, u.v, VI (chipsP xss a b p rs n.toNat).2.2]) h') : callM Try.prog 83 #[.agg #[g.v], r.v, VI p, VI a, VI b, VI n] h K := by
  have C := A.can
  have W := A.ok
  have n0 := A.n0
  have n1 := A.n1
  have gl := graph_len C.graph
  have rl : rs.length = xss.length := W.len
  refine v83 g r p a b n h K fun b1 b2 h2 hb1 hb2 f2 hL2 => ?_
  have f2 := f2.in_nil
  refine k_l1Own (H.no f2) (by omega) _ fun w h3 o3 f3 => ⟨w, rfl, hL2.of_no f3, fun b3 h5 hb3 f5 hL5 => ?_⟩
  have f5 := f5.in_nil
  have z2 := f2.size
  have z3 := f3.size
  have z5 := f5.size
  have f05 := f2.no_trans (f3.no_trans f5)
  have G5 : RdR (fun k => k < h2.size) h5 g xss := ((G.no f2).low.no f3).no f5
  have l1 := hL2.tail.head.lt
  have l2 := hL2.head.lt
  have l3 := hL5.head.lt
  refine ⟨fun m j l xr st h' => ∃ i : Nat, (i : Int) + m = n /\ j = m /\ xr = w /\ l.n = i /\ OwI h' (fun k => h3.size ≤ k /\ k ≠ b3) l (chipsP xss a b p rs i).1 /\ OwI h' (Iv h2.size h3.size) w (chipsP xss a b p rs i).2.1 /\ st = (chipsP xss a b p rs i).2.2 /\ Fr (fun k => h2.size ≤ k) h5 h', ⟨n.toNat, 0, by omega, by omega, rfl, rfl, Ow.nil _ _ _ _, o3.no f5, rfl, Fr.refl _ _⟩, ?_⟩
  rintro m j l xr st h6 ⟨i, i1, rfl, rfl, ln, o6, w6, rfl, f6⟩ hL6
  have in3 : ∀ k, In [b3] k -> k = b3 := fun k hk => by simpa [In] using hk
  refine ⟨fun e5 => ?_, fun e5 h18 f18 hL18 => ?_⟩
  · simp only [decide_eq_true_eq] at e5
    obtain ⟨W1, k2, k3, k4, k5⟩ := chips_ok C W i
    obtain ⟨q1, q2, q3, _⟩ := C.go (lefN xss a b ((chipsP xss a b p rs i).2.1, p)) W1 (Nat.le_refl _)
    have q4 := C.left_hi W1
    have ec : chip1 xss a b p (chipsP xss a b p rs i).2.1 = walkG xss a b (lefN xss a b ((chipsP xss a b p rs i).2.1, p)) ((chipsP xss a b p rs i).2.1, p) := rfl
    have enext : chipsP xss a b p rs (i + 1) = ((chipsP xss a b p rs i).1 ++ [if (chip1 xss a b p (chipsP xss a b p rs i).2.1).1.2 = a then 1 else 0], (chip1 xss a b p (chipsP xss a b p rs i).2.1).1.1, (chipsP xss a b p rs i).2.2 + ((chip1 xss a b p (chipsP xss a b p rs i).2.1).2 : Int)) := by
      rw [chipsP]
    rw [← ec] at q1 q2 q3
    have k6 : (10000000000000 : Int) * (i : Nat) ≤ 10000000000000 * 100 := by omega
    generalize chipsP xss a b p rs i = R at *
    generalize chip1 xss a b p R.2.1 = c at *
    refine ⟨fun m2 at' x4 yr st h' => x4 = l /\ yr = xr /\ ∃ s : St, m2 = lefN xss a b s /\ WOK xss s /\ s.2 = at' /\ OwI h' (fun k => h3.size ≤ k /\ k ≠ b3) l R.1 /\ OwI h' (Iv h2.size h3.size) xr s.1 /\ (walkG xss a b (lefN xss a b s) s).1 = c.1 /\ R.2.2 ≤ st /\ st + ((walkG xss a b (lefN xss a b s) s).2 : Int) = R.2.2 + (c.2 : Int) /\ Fr (fun k => h2.size ≤ k) h5 h', ⟨lefN xss a b (R.2.1, p), rfl, rfl, (R.2.1, p), rfl, W1, rfl, o6, w6, by rw [← ec], Int.le_refl _, by rw [← ec], f6⟩, ?_⟩
    rintro m2 at' x4 yr st h7 ⟨rfl, rfl, s, rfl, W7, rfl, o7, w7, s1, s2, s3, f7⟩ hL7
    have z7 := f7.size
    have fin : ∀ (hs : s.2 = a ∨ s.2 = b) (x : Int), x = (if s.2 = a then 1 else 0) -> eop Try.prog (Instr.buildSlice tIs 1 #[(0, VI x)]) h7 fun rv h1 => ∃ t : Sl, rv = t.v /\ Vars h1 [(b3, [x4.v, yr.v, VI st]), (b2, [nilSl.v, nilSl.v, VI 0]), (b1, [g.v])] /\ eop Try.prog (appS tIs tIs tIs x4.v t.v) h1 fun rv2 h2' => ∃ t2 : Sl, rv2 = t2.v /\ Vars h2' [(b3, [x4.v, yr.v, VI st]), (b2, [nilSl.v, nilSl.v, VI 0]), (b1, [g.v])] /\ ∀ h13, Fr (In [b3]) h2' h13 -> Vars h13 [(b3, [t2.v, yr.v, VI st]), (b2, [nilSl.v, nilSl.v, VI 0]), (b1, [g.v])] -> (∃ m' : Nat, m' < m /\ ∃ i : Nat, (i : Int) + m' = n /\ w64 ((m : Int) - 1) = m' /\ yr = yr /\ t2.n = i /\ OwI h13 (fun k => h3.size ≤ k /\ k ≠ b3) t2 (chipsP xss a b p rs i).1 /\ OwI h13 (Iv h2.size h3.size) yr (chipsP xss a b p rs i).2.1 /\ st = (chipsP xss a b p rs i).2.2 /\ Fr (fun k => h2.size ≤ k) h5 h13) := fun hs x hx => by
      rw [walkG_at hs] at s1 s3
      (try simp only at s1 s3)
      refine eop_putI (F := fun k => h3.size ≤ k /\ k ≠ b3) o7 (fun k hk => ⟨by omega, by omega⟩) hL7 (fun q hq hk => ?_) (by omega) _ fun t2 h14 o14 f14 V14 h13 f13 hL13 => ?_
      · simp only [List.mem_cons, List.not_mem_nil, or_false] at hq
        rcases hq with rfl | rfl | rfl
        · exact hk.2 rfl
        · have := hk.1
          (try simp only at this)
          omega
        · have := hk.1
          (try simp only at this)
          omega
      have tn := RdI.len o14.rdF
      rw [List.length_append, k2] at tn
      refine ⟨m - 1, by omega, i + 1, by omega, by rw [w64_eq _ (by omega) (by omega)]; omega, rfl, by rw [tn]; simp, ?_, ?_, ?_, (f7.trans (f14.mono fun k _ hk => by omega)).trans (f13.mono fun k _ hk => by have := in3 k hk; omega)⟩
      · rw [enext]
        (try simp only)
        rw [← s1, ← hx]
        exact o14.fr f13 fun k hk hk2 => (o14.foot hk).1.2 (in3 k hk2)
      · rw [enext]
        (try simp only)
        rw [← s1]
        exact (w7.fr f14 fun k hk hk2 => by have := (w7.foot hk).1.2; omega).fr f13 fun k hk hk2 => by have := (w7.foot hk).1.2; have := in3 k hk2; omega
      · rw [enext]
        (try simp only)
        omega
    refine ⟨fun e6 => ⟨fun e7 => ?_, fun e7 => ?_⟩, fun e6 => ?_⟩
    · have e6 := not_t e6
      have e7 := not_t e7
      simp only [decide_eq_false_iff_not] at e6 e7
      obtain ⟨s', hs, W', hl, hn⟩ := C.chip_next W7 e6 e7
      rw [hn] at s1 s3
      (try simp only at s1 s3)
      have lo := W7.lo
      have hi := W7.hi
      have hp : s.2.toNat < xss.length := by omega
      have hr : s.2.toNat < s.1.length := by rw [W7.len]; exact hp
      have G7 : RdR (fun k => k < h2.size) h7 g xss := G5.fr f7 fun k hk hk2 => by omega
      obtain ⟨sp, cp, rp⟩ := G7.get lo hi
      have ln2 := rp.len
      have hz := C.out s.2.toNat hp (by omega) (by omega)
      rw [getD_get hp] at hz
      have hrot := W7.rot s.2.toNat hr hp
      have gm := graph_mem C.graph (List.getElem_mem hp)
      rw [stepP_some W7 hp hr hz] at hs
      have hs := Option.some.inj hs
      have R7 : RdI _ h7 yr s.1 := Ow.rdF w7
      have hm := Nat.mod_lt ((s.1[s.2.toNat]).toNat + 1) (show 0 < (xss[s.2.toNat]).length by omega)
      have em : Int.tmod (w64 (s.1[s.2.toNat] + 1)) (sp.n : Int) = ((((s.1[s.2.toNat]).toNat + 1) % (xss[s.2.toNat]).length : Nat) : Int) := by
        rw [w64_eq _ (by omega) (by omega), ln2, show s.1[s.2.toNat] + 1 = (((s.1[s.2.toNat]).toNat + 1 : Nat) : Int) by omega, tmod_nn]
      refine ⟨G7.inb lo hi, sp, cp, R7.inb lo (by rw [W7.len]; exact hi), _, R7.get lo (by rw [W7.len]; exact hi), by omega, ?_⟩
      rw [em]
      refine int_set w7 lo (by rw [W7.len]; exact hi) hL7 (fun q hq hk => ?_) _ fun h8 o8 f8 V8 => ?_
      · simp only [List.mem_cons, List.not_mem_nil, or_false] at hq
        have h1 := hk.1
        have h2 := hk.2
        rcases hq with rfl | rfl | rfl <;> (try simp only at h1 h2) <;> omega
      have rp8 := rp.low.fr f8
      have c8 := (rp.fr f8 fun k hk hk2 => by have := hk2.1; omega).get (i := ((((s.1[s.2.toNat]).toNat + 1) % (xss[s.2.toNat]).length : Nat) : Int)) (by omega) (by omega)
      simp only [Int.toNat_natCast] at c8
      have ib8 := (rp.fr f8 fun k hk hk2 => by have := hk2.1; omega).inb (i := ((((s.1[s.2.toNat]).toNat + 1) % (xss[s.2.toNat]).length : Nat) : Int)) (by omega) (by omega)
      refine ⟨ib8, _, c8, fun h9 f9 hL9 => ?_⟩
      rw [w64_eq (st + 1) (by omega) (by omega)]
      rw [← hs] at hl W' s1 s3
      refine ⟨_, hl, rfl, rfl, _, rfl, W', rfl, ?_, ?_, s1, by omega, by omega, (f7.trans (f8.mono fun k _ hk => hk.1)).trans (f9.mono fun k _ hk => by have := in3 k hk; omega)⟩
      · exact (o7.fr f8 fun k hk hk2 => by have := (o7.foot hk).1.1; have := hk2.2; omega).fr f9 fun k hk hk2 => (o7.foot hk).1.2 (in3 k hk2)
      · exact o8.fr f9 fun k hk hk2 => by have := (o8.foot hk).1.2; have := in3 k hk2; omega
    · have e6 := not_t e6
      have e7 := not_f e7
      simp only [decide_eq_true_eq, decide_eq_false_iff_not] at e6 e7
      refine ⟨fun x h' => x = 0 /\ h' = h7, ⟨fun e8 => ?_, fun _ => ⟨rfl, rfl⟩⟩, ?_⟩
      · simp only [decide_eq_true_eq] at e8
        exact absurd e8 e6
      · rintro x h10 ⟨rfl, rfl⟩ hL10
        exact fin (.inr e7) 0 (by rw [if_neg e6])
    · have e6 := not_f e6
      simp only [decide_eq_true_eq] at e6
      refine ⟨fun x h' => x = 1 /\ h' = h7, ⟨fun _ => ⟨rfl, rfl⟩, fun e8 => ?_⟩, ?_⟩
      · simp only [decide_eq_false_iff_not] at e8
        exact absurd e6 e8
      · rintro x h10 ⟨rfl, rfl⟩ hL10
        exact fin (.inl e6) 1 (by rw [if_pos e6])
  · simp only [decide_eq_false_iff_not] at e5
    have ei : i = n.toNat := by omega
    rw [ei] at o6 w6 ⊢
    have z6 := f6.size
    have in2 : ∀ k, In [b2] k -> k = b2 := fun k hk => by simpa [In] using hk
    refine HK l xr h18 (RdI.mono (Ow.rdF (o6.fr f18 fun k hk hk2 => by have := (o6.foot hk).1.1; have := in2 k hk2; omega) |> RdI.low) fun k hk => hk) (RdI.low (Ow.rdF (w6.fr f18 fun k hk hk2 => by have := (w6.foot hk).1.1; have := in2 k hk2; omega))) ?_
    exact (f05.fresh f6 fun k hk => by have := f2.size; omega).fresh f18 fun k hk => by have := in2 k hk; omega
def bndN (g : List (List Int)) (a b : Int) : Int := hiD g a b + sumZ (fun p => if innB a b p = true then absX (chN g a b) (chN g a b p) (g.getD p []) else 0) g.length
def bndP (g : List (List Int)) (a b : Int) : Rat2 × Bool := if canB g a b = true then (ratP (bndN g a b) (hiD g a b), true) else ((0, 0), false)
theorem absX_le {f : Int -> Int} {u M : Int} (hM : 0 ≤ M) : ∀ {l : List Int}, (∀ x, x ∈ l -> -M ≤ u - f x /\ u - f x ≤ M) -> absX f u l ≤ l.length * M
  | [], _ => by unfold absX; rw [sumX_nil]; simp
  | x :: l, h => by
    have ih := absX_le hM (f := f) (u := u) (l := l) fun y hy => h y (List.mem_cons_of_mem _ hy)
    have := h x List.mem_cons_self
    unfold absX at *
    rw [sumX_cons, List.length_cons, show ((l.length + 1 : Nat) : Int) = (l.length : Int) + 1 by omega, Int.add_mul, Int.one_mul]
    omega
theorem Can.abs_rng {g : List (List Int)} {a b : Int} (C : Can g a b) {p : Nat} (hp : p < g.length) (k : Nat) : 0 ≤ absX (chN g a b) (chN g a b p) ((g.getD p []).take k) /\ absX (chN g a b) (chN g a b p) ((g.getD p []).take k) ≤ 78125 := by
  have hd := C.den
  have h0 := C.ch_rng hp
  have hl : (g.getD p []).length ≤ 5 := by rw [getD_get hp]; exact (graph_mem C.graph (List.getElem_mem hp)).1
  refine ⟨absX_nonneg _ _ _, ?_⟩
  have := absX_le (f := chN g a b) (u := chN g a b p) (M := 15625) (by omega) (l := (g.getD p []).take k) fun x hx => by
    have hx := List.mem_of_mem_take hx
    rw [getD_get hp] at hx
    have xr := (graph_mem C.graph (List.getElem_mem hp)).2 x hx
    have := C.ch_rng (p := x.toNat) (by omega)
    rw [show ((x.toNat : Nat) : Int) = x by omega] at this
    omega
  rw [List.length_take] at this
  have hm : ((min k (g.getD p []).length : Nat) : Int) * 15625 ≤ 5 * 15625 := Int.mul_le_mul_of_nonneg_right (by omega) (by omega)
  omega
def bndZ (g : List (List Int)) (a b : Int) (p : Nat) : Int := if innB a b p = true then absX (chN g a b) (chN g a b p) (g.getD p []) else 0
theorem Can.bnd_rng {g : List (List Int)} {a b : Int} (C : Can g a b) {k : Nat} (hk : k ≤ g.length) : 0 ≤ sumZ (bndZ g a b) k /\ sumZ (bndZ g a b) k ≤ 625000 := by
  have gl := graph_len C.graph
  have : ∀ k, k ≤ g.length -> 0 ≤ sumZ (bndZ g a b) k /\ sumZ (bndZ g a b) k ≤ k * 78125 := by
    intro k
    induction k with
    | zero => intro _; simp [sumZ]
    | succ k ih =>
      intro hk
      have ih := ih (by omega)
      have h1 := C.abs_rng (p := k) (by omega) (g.getD k []).length
      rw [List.take_length] at h1
      rw [sumZ, show ((k + 1 : Nat) : Int) = (k : Int) + 1 by omega, Int.add_mul, Int.one_mul]
      unfold bndZ at *
      split <;> omega
  have := this k hk
  have hm : (k : Int) * 78125 ≤ 8 * 78125 := Int.mul_le_mul_of_nonneg_right (by omega) (by omega)
  omega
theorem bndN_eq (g : List (List Int)) (a b : Int) : bndN g a b = hiD g a b + sumZ (bndZ g a b) g.length := rfl
theorem absX_snoc (f : Int -> Int) (u x : Int) (l : List Int) : absX f u (l ++ [x]) = absX f u l + ((u - f x).natAbs : Int) := by unfold absX; rw [sumX_snoc]
theorem sum_inn (f : Nat -> Int) (a b : Int) : ∀ n, ((inn n a b).map f).sum = sumZ (fun p => if innB a b p = true then f p else 0) n
  | 0 => rfl
  | n + 1 => by
    rw [inn_take (Nat.lt_succ_self n), sumZ, ← sum_inn f a b n]
    by_cases h : innB a b n = true
    · rw [if_pos h, if_pos h, List.map_append, List.sum_append]
      simp
    · rw [if_neg h, if_neg h]
      omega
theorem ratP_back {x d : Int} (h : 0 < d) : Int.tdiv d (ratP x d).2 = (Int.gcd x d : Int) /\ (ratP x d).1 * (Int.gcd x d : Int) = x := by
  have hm := ratP_mul (x := x) (d := d)
  have hp := ratP_pos (x := x) h
  refine ⟨?_, by rw [Int.mul_comm]; exact hm.1⟩
  refine tdiv_of (q := (Int.gcd x d : Int)) ?_ (by omega)
  rw [Int.mul_comm]
  exact hm.2.symm
theorem gcd_le {x d : Int} (h : 0 < d) : (Int.gcd x d : Int) ≤ d := by
  have := Int.gcd_dvd_right (a := x) (b := d)
  exact Int.le_of_dvd h this
set_option maxHeartbeats 2000000 in
theorem k_HitBound {S : Nat -> Prop} {h : Heap} {g : Sl} {xss : List (List Int)} (G : RdR S h g xss) (a b : Int) (K : Value -> Heap -> Prop) (HK : ∀ h', Fr No h h' -> K (.tuple #[.agg #[VI (bndP xss a b).1.1, VI (bndP xss a b).1.2], VB (bndP xss a b).2]) h') : callM Try.prog 33 #[.agg #[g.v], VI a, VI b] h K := by
  refine v33 g a b h K fun b1 b2 h2 hb1 hb2 f2 hL2 => ?_
  have f2 := f2.in_nil
  have box : ∀ {x y : Heap}, Fr No h x -> Fr (In [b2]) x y -> Fr No h y := fun f f' => f.fresh f' fun k hk => by
    simp only [In, List.mem_cons, List.not_mem_nil, or_false] at hk
    omega
  unfold bndP at HK
  refine k_canEnd (G.no f2) a b _ fun h3 f3 => ⟨_, rfl, hL2.of_no f3, fun e => fun h10 f10 _ => ?_, fun e => ?_⟩
  · rw [not_t e] at HK
    exact HK h10 (box (f2.no_trans f3) f10)
  have e := not_f e
  rw [e, if_pos rfl] at HK
  have C := can_o e
  have hd := C.den
  have gl := graph_len C.graph
  have f13 := f2.no_trans f3
  have hL3 := hL2.of_no f3
  refine k_chances (G.no f13) C _ fun t h5 o5 f5 => ⟨t, _, rfl, hL3.of_no f5, ?_⟩
  have r5 : RdI (fun k => k < h5.size) h5 t (outL xss a b o0 1 0) := RdI.low (Ow.rdF o5)
  have hL5 := hL3.of_no f5
  have ol := outL_len xss a b o0 1 0
  have sz : ((hiD xss a b).natAbs : Int) = hiD xss a b := by omega
  refine k_size _ (by omega) (by omega) h5 _ ⟨_, rfl, hL5, ?_⟩
  rw [sz]
  have f15 := f13.no_trans f5
  refine ⟨fun n c i h' => 0 ≤ i /\ i + n = (xss.length : Int) /\ c = hiD xss a b + sumZ (bndZ xss a b) i.toNat /\ h' = h5, ⟨xss.length, by omega, by omega, by simp [sumZ], rfl⟩, ?_⟩
  rintro n c i h7 ⟨i0, i1, rfl, rfl⟩ hL7
  have G7 := G.no f15
  refine ⟨fun e2 => ?_, fun e2 => ?_⟩
  · have hi := G7.lt e2
    obtain ⟨sp, cp, rp⟩ := G7.get i0 hi
    have br := C.bnd_rng (k := i.toNat) (by omega)
    have eg : xss.getD i.toNat [] = xss[i.toNat]'(by omega) := getD_get (by omega)
    have ab := fun k => C.abs_rng (p := i.toNat) (by omega) k
    have cr := C.ch_rng (p := i.toNat) (by omega)
    rw [eg, show (((i.toNat : Nat) : Int)) = i by omega] at ab
    rw [show (((i.toNat : Nat) : Int)) = i by omega] at cr
    have gm := graph_mem C.graph (List.getElem_mem (show i.toNat < xss.length by omega))
    refine ⟨G7.inb i0 hi, sp, cp, ?_⟩
    refine ⟨fun n2 c j h' => 0 ≤ j /\ j + n2 = ((xss[i.toNat]'(by omega)).length : Int) /\ c = hiD xss a b + sumZ (bndZ xss a b) i.toNat + (if innB a b i.toNat = true then absX (chN xss a b) (chN xss a b i) ((xss[i.toNat]'(by omega)).take j.toNat) else 0) /\ h' = h7, ⟨(xss[i.toNat]'(by omega)).length, by omega, by omega, by simp [absX, sumX], rfl⟩, ?_⟩
    rintro n2 c j h8 ⟨j0, j1, rfl, rfl⟩ hL8
    refine ⟨fun e3 => ?_, fun e3 => ?_⟩
    · have hj := rp.lt e3
      have hc := rp.get j0 hj
      have tk : (xss[i.toNat]'(by omega)).take (j + 1).toNat = _ := take_snoc _ j0 hj
      have hv := gm.2 _ (List.getElem_mem (show j.toNat < (xss[i.toNat]'(by omega)).length by omega))
      generalize (xss[i.toNat]'(by omega))[j.toNat]'(by omega) = q at hc tk hv
      have skip : innB a b i.toNat = false -> ∃ m : Nat, m < n2 /\ (0 ≤ w64 (j + 1) /\ w64 (j + 1) + m = ((xss[i.toNat]'(by omega)).length : Int) /\ hiD xss a b + sumZ (bndZ xss a b) i.toNat + (if innB a b i.toNat = true then absX (chN xss a b) (chN xss a b i) ((xss[i.toNat]'(by omega)).take j.toNat) else 0) = hiD xss a b + sumZ (bndZ xss a b) i.toNat + (if innB a b i.toNat = true then absX (chN xss a b) (chN xss a b i) ((xss[i.toNat]'(by omega)).take (w64 (j + 1)).toNat) else 0) /\ h8 = h8) := fun hq => by
        rw [rp.succ j0 hj, hq, if_neg (by decide), if_neg (by decide)]
        exact ⟨n2 - 1, by omega, by omega, by omega, rfl, rfl⟩
      refine ⟨rp.inb j0 hj, _, hc, fun e4 => ⟨fun e5 => ?_, fun e5 => skip ?_⟩, fun e4 => skip ?_⟩
      · have e4 := not_t e4
        have e5 := not_t e5
        simp only [decide_eq_false_iff_not] at e4 e5
        have hin : innB a b i.toNat = true := innB_t.2 ⟨by omega, by omega⟩
        have cq := C.ch_rng (p := q.toNat) (by omega)
        rw [show (((q.toNat : Nat) : Int)) = q by omega] at cq
        have c1 := r5.get i0 (by omega)
        rw [outL_get, show (((i.toNat : Nat) : Int)) = i by omega] at c1
        have c2 := r5.get (i := q) hv.1 (by omega)
        rw [outL_get, show (((q.toNat : Nat) : Int)) = q by omega] at c2
        refine ⟨r5.inb i0 (by omega), _, c1, r5.inb hv.1 (by omega), _, c2, ?_⟩
        have w1 : w64 (hiX xss a b o0 1 0 i - hiX xss a b o0 1 0 q) = chN xss a b i - chN xss a b q := w64_eq _ (by show _ ≤ chN xss a b i - chN xss a b q; omega) (by show chN xss a b i - chN xss a b q < _; omega)
        rw [w1]
        refine k_size _ (by omega) (by omega) h8 _ ⟨_, rfl, hL8, c2, c1, ?_⟩
        rw [rp.succ j0 hj, hin, if_pos rfl]
        (try simp only)
        rw [if_pos trivial, tk, absX_snoc]
        have := ab j.toNat
        refine ⟨n2 - 1, by omega, by omega, by omega, ?_, trivial⟩
        rw [w64_eq _ (by omega) (by omega)]
        omega
      · have e5 := not_f e5
        simp only [decide_eq_true_eq] at e5
        exact Bool.eq_false_iff.2 fun h => (innB_t.1 h).2 (by omega)
      · have e4 := not_f e4
        simp only [decide_eq_true_eq] at e4
        exact Bool.eq_false_iff.2 fun h => (innB_t.1 h).1 (by omega)
    · have hj := rp.ge e3
      rw [List.take_of_length_le (by omega), G7.succ i0 hi]
      refine ⟨n - 1, by omega, by omega, by omega, ?_, rfl⟩
      rw [show (i + 1).toNat = i.toNat + 1 by omega, sumZ]
      have : bndZ xss a b i.toNat = (if innB a b i.toNat = true then absX (chN xss a b) (chN xss a b i) (xss[i.toNat]'(by omega)) else 0) := by
        unfold bndZ
        rw [eg, show (((i.toNat : Nat) : Int)) = i by omega]
      rw [this]
      omega
  · have hi := G7.ge e2
    have br := C.bnd_rng (k := xss.length) (Nat.le_refl _)
    rw [show i.toNat = xss.length by omega, ← bndN_eq]
    rw [bndN_eq] at *
    refine k_size _ (by omega) (by omega) h7 _ ⟨_, rfl, hL7, ?_⟩
    rw [sz]
    exact k_ratio _ _ (by omega) (by omega) (by omega) h7 _ fun h8 f8 => ⟨_, _, rfl, hL7.of_no f8, fun h9 f9 _ => HK h9 (box (f15.no_trans f8) f9)⟩
set_option maxHeartbeats 4000000 in
theorem k_hiBound {S : Nat -> Prop} {h : Heap} {g : Sl} {xss : List (List Int)} (G : RdR S h g xss) {a b : Int} (C : Can xss a b) (K : Value -> Heap -> Prop) (HK : ∀ h', Fr No h h' -> K (.agg #[VI (ratP (bndN xss a b) (hiD xss a b)).1, VI (ratP (bndN xss a b) (hiD xss a b)).2]) h') : callM Try.prog 86 #[.agg #[g.v], VI a, VI b] h K := by
  refine v86 g a b h K fun b1 b2 h2 hb1 hb2 f2 hL2 => ?_
  have f2 := f2.in_nil
  have box : ∀ {x y : Heap}, Fr No h x -> Fr (In [b2]) x y -> Fr No h y := fun f f' => f.fresh f' fun k hk => by
    simp only [In, List.mem_cons, List.not_mem_nil, or_false] at hk
    omega
  have hd := C.den
  have hg := C.graph
  have gl := graph_len hg
  have il := inn_len C.a0 C.a1 C.b0 C.b1 C.ne
  refine k_hiMatrix (G.no f2) hg a b _ fun pl m h3 P3 M3 f3 => ⟨pl, m, rfl, hL2.of_no f3, ?_⟩
  have hL3 := hL2.of_no f3
  have ml := (hiM_sq xss a b).1
  have hQ' : Sq (hiM xss a b).length (hiM xss a b) := by rw [ml]; exact (hiM_sq xss a b).2
  have hS' : Small (hiM xss a b).length (matL (hiM xss a b)) := by rw [ml]; exact hiM_small hg a b
  refine k_trDet _ M3 hQ' (by omega) hS' _ fun h4 f4 => ⟨_, rfl, hL3.of_no f4, ?_⟩
  rw [ml, hiM_det]
  have hL4 := hL3.of_no f4
  have sz : ((hiD xss a b).natAbs : Int) = hiD xss a b := by omega
  refine k_l1Abs _ (by omega) (by omega) h4 _ ⟨_, rfl, hL4, ?_⟩
  rw [sz]
  have f14 := f2.no_trans (f3.no_trans f4)
  refine k_hiChances (G.no f14) C _ fun t h6 Q6 f6 => ⟨t, rfl, hL4.of_no f6, ?_⟩
  have f16 := f14.no_trans f6
  have P6 := (P3.no f4).no f6
  have G6 := G.no f16
  have psl : ((inn xss.length a b).map fun p : Nat => (p : Int)).length = (inn xss.length a b).length := List.length_map _
  have tot := sum_inn (bndZ xss a b) a b xss.length
  have tot2 : sumZ (fun p => if innB a b p = true then bndZ xss a b p else 0) xss.length = sumZ (bndZ xss a b) xss.length := sumZ_congr fun i hi => by
    (try simp only)
    unfold bndZ
    split <;> rfl
  rw [tot2] at tot
  have part : ∀ k, 0 ≤ (((inn xss.length a b).take k).map (bndZ xss a b)).sum /\ (((inn xss.length a b).take k).map (bndZ xss a b)).sum ≤ 8 * 78125 := fun k => by
    have key : ∀ l : List Nat, (∀ p, p ∈ l -> p < xss.length) -> 0 ≤ (l.map (bndZ xss a b)).sum /\ (l.map (bndZ xss a b)).sum ≤ l.length * 78125 := by
      intro l
      induction l with
      | nil => intro _; simp
      | cons p l ih =>
        intro hl
        have ih := ih fun q hq => hl q (List.mem_cons_of_mem _ hq)
        have h1 := C.abs_rng (hl p List.mem_cons_self) (xss.getD p []).length
        rw [List.take_length] at h1
        rw [List.map_cons, List.sum_cons, List.length_cons, show ((l.length + 1 : Nat) : Int) = (l.length : Int) + 1 by omega, Int.add_mul, Int.one_mul]
        unfold bndZ at *
        split <;> omega
    have := key ((inn xss.length a b).take k) fun p hp => (mem_inn.1 (List.mem_of_mem_take hp)).1
    rw [List.length_take] at this
    have hm : ((min k (inn xss.length a b).length : Nat) : Int) * 78125 ≤ 8 * 78125 := Int.mul_le_mul_of_nonneg_right (by omega) (by omega)
    omega
  refine ⟨fun n c i h' => 0 ≤ i /\ i + n = ((inn xss.length a b).length : Int) /\ c = hiD xss a b + (((inn xss.length a b).take i.toNat).map (bndZ xss a b)).sum /\ h' = h6, ⟨(inn xss.length a b).length, by omega, by omega, by simp, rfl⟩, ?_⟩
  rintro n c i h7 ⟨i0, i1, rfl, rfl⟩ hL7
  have pi := part i.toNat
  refine ⟨fun e2 => ?_, fun e2 => ?_⟩
  · have hi := P6.lt e2
    have hi' : i.toNat < (inn xss.length a b).length := by omega
    have cI := P6.get i0 hi
    rw [psI_get] at cI
    have tkp : (inn xss.length a b).take (i + 1).toNat = (inn xss.length a b).take i.toNat ++ [(inn xss.length a b)[i.toNat]] := by rw [show (i + 1).toNat = i.toNat + 1 by omega, List.take_succ_eq_append_getElem hi']
    obtain ⟨hp, pa, pb⟩ := mem_inn.1 (List.getElem_mem hi')
    generalize (inn xss.length a b)[i.toNat]'hi' = P at cI tkp hp pa pb
    have hin : innB a b P = true := innB_t.2 ⟨pa, pb⟩
    obtain ⟨sp, cp, rp⟩ := G6.get (i := (P : Int)) (by omega) (by omega)
    simp only [Int.toNat_natCast] at rp
    have eg : xss.getD P [] = xss[P] := getD_get hp
    have ab := fun k => C.abs_rng hp k
    rw [eg] at ab
    have cr := C.ch_rng hp
    have gm := graph_mem hg (List.getElem_mem hp)
    refine ⟨P6.inb i0 hi, _, cI, G6.inb (by omega) (by omega), sp, cp, ?_⟩
    refine ⟨fun n2 c j h' => 0 ≤ j /\ j + n2 = (xss[P].length : Int) /\ c = hiD xss a b + (((inn xss.length a b).take i.toNat).map (bndZ xss a b)).sum + absX (chN xss a b) (chN xss a b P) (xss[P].take j.toNat) /\ h' = h7, ⟨xss[P].length, by omega, by omega, by simp [absX, sumX], rfl⟩, ?_⟩
    rintro n2 c j h8 ⟨j0, j1, rfl, rfl⟩ hL8
    refine ⟨fun e3 => ?_, fun e3 => ?_⟩
    · have hj := rp.lt e3
      have hc := rp.get j0 hj
      have tk : xss[P].take (j + 1).toNat = _ := take_snoc _ j0 hj
      have hv := gm.2 _ (List.getElem_mem (show j.toNat < xss[P].length by omega))
      generalize xss[P][j.toNat]'(by omega) = q at hc tk hv
      have cq := C.ch_rng (p := q.toNat) (by omega)
      rw [show (((q.toNat : Nat) : Int)) = q by omega] at cq
      obtain ⟨ip, cP⟩ := Q6.get (i := (P : Int)) (by omega) (by rw [chR_len]; omega)
      rw [chR_get] at cP
      simp only [Int.toNat_natCast] at cP
      obtain ⟨iq, cQ⟩ := Q6.get (i := q) hv.1 (by rw [chR_len]; omega)
      rw [chR_get, show (((q.toNat : Nat) : Int)) = q by omega] at cQ
      have bP := ratP_back (x := chN xss a b P) (d := hiD xss a b) (by omega)
      have bQ := ratP_back (x := chN xss a b q) (d := hiD xss a b) (by omega)
      have pP := ratP_pos (x := chN xss a b P) (d := hiD xss a b) (by omega)
      have pQ := ratP_pos (x := chN xss a b q) (d := hiD xss a b) (by omega)
      have gP := gcd_le (x := chN xss a b P) (d := hiD xss a b) (by omega)
      have gQ := gcd_le (x := chN xss a b q) (d := hiD xss a b) (by omega)
      refine ⟨rp.inb j0 hj, _, hc, ip, _, cP 0 (by simp), ip, _, cP 1 (by simp), by simp; omega, iq, _, cQ 0 (by simp), iq, _, cQ 1 (by simp), by simp; omega, ?_⟩
      simp only [List.getElem_cons_zero, List.getElem_cons_succ]
      have w1 : w64 (w64 ((ratP (chN xss a b P) (hiD xss a b)).1 * w64 (Int.tdiv (hiD xss a b) (ratP (chN xss a b P) (hiD xss a b)).2)) - w64 ((ratP (chN xss a b q) (hiD xss a b)).1 * w64 (Int.tdiv (hiD xss a b) (ratP (chN xss a b q) (hiD xss a b)).2))) = chN xss a b P - chN xss a b q := by
        rw [bP.1, bQ.1, w64_eq (Int.gcd (chN xss a b P) (hiD xss a b) : Int) (by omega) (by omega), w64_eq (Int.gcd (chN xss a b q) (hiD xss a b) : Int) (by omega) (by omega), bP.2, bQ.2, w64_eq (chN xss a b P) (by omega) (by omega), w64_eq (chN xss a b q) (by omega) (by omega), w64_eq _ (by omega) (by omega)]
      rw [w1]
      refine k_l1Abs _ (by omega) (by omega) h8 _ ⟨_, rfl, hL8, ?_⟩
      have := ab j.toNat
      rw [rp.succ j0 hj]
      (try simp only)
      rw [tk, absX_snoc, w64_eq _ (by omega) (by omega)]
      exact ⟨n2 - 1, by omega, by omega, by omega, by omega, trivial⟩
    · have hj := rp.ge e3
      rw [List.take_of_length_le (show xss[P].length ≤ j.toNat by omega), P6.succ i0 hi]
      (try simp only)
      rw [tkp]
      refine ⟨n - 1, by omega, by omega, by omega, ?_, trivial⟩
      rw [List.map_append, List.sum_append]
      have : bndZ xss a b P = absX (chN xss a b) (chN xss a b P) xss[P] := by unfold bndZ; rw [if_pos hin, eg]
      simp [this]
      omega
  · have hi := P6.ge e2
    have br := C.bnd_rng (k := xss.length) (Nat.le_refl _)
    rw [List.take_of_length_le (by omega), tot, ← bndN_eq]
    exact k_hiRatio _ _ (by rw [bndN_eq]; omega) (by omega) (by omega) h7 _ fun h8 f8 => ⟨_, _, rfl, hL7.of_no f8, fun h9 f9 _ => HK h9 (box (f16.no_trans f8) f9)⟩
theorem k_spec_HitBound {S : Nat -> Prop} {h : Heap} {g : Sl} {xss : List (List Int)} (G : RdR S h g xss) (a b : Int) (K : Value -> Heap -> Prop) (HK : ∀ h', Fr No h h' -> K (.tuple #[.agg #[VI (bndP xss a b).1.1, VI (bndP xss a b).1.2], VB (bndP xss a b).2]) h') : callM Try.prog 36 #[.agg #[g.v], VI a, VI b] h K := by
  refine v36 g a b h K fun b1 b2 h2 hb1 hb2 f2 hL2 => ?_
  have f2 := f2.in_nil
  have box : ∀ {x y : Heap}, Fr No h x -> Fr (In [b2]) x y -> Fr No h y := fun f f' => f.fresh f' fun k hk => by
    simp only [In, List.mem_cons, List.not_mem_nil, or_false] at hk
    omega
  unfold bndP at HK
  refine k_hiGood (G.no f2) a b _ fun h3 f3 => ⟨_, rfl, hL2.of_no f3, fun e => fun h10 f10 _ => ?_, fun e => ?_⟩
  · rw [not_t e] at HK
    exact HK h10 (box (f2.no_trans f3) f10)
  have e := not_f e
  rw [e, if_pos rfl] at HK
  exact k_hiBound (G.no (f2.no_trans f3)) (can_o e) _ fun h5 f5 => ⟨_, _, rfl, (hL2.of_no f3).of_no f5, fun h6 f6 _ => HK h6 (box ((f2.no_trans f3).no_trans f5) f6)⟩
theorem k_sumH {S : Nat -> Prop} {h : Heap} {s : Sl} {l : List Int} (H : RdI S h s l) (hb : ∀ x, x ∈ l -> x = 0 ∨ x = 1) (hn : l.length ≤ 1000) (K : Value -> Heap -> Prop) (HK : K (VI l.sum) h) : callM Try.prog 80 #[s.v] h K := by
  refine v80 s h K ⟨fun n c i h' => 0 ≤ i /\ i + n = (l.length : Int) /\ c = (l.take i.toNat).sum /\ h' = h, ⟨l.length, by omega, by omega, by simp, rfl⟩, ?_⟩
  rintro n c i h1 ⟨i0, i1, rfl, rfl⟩ hL1
  refine ⟨fun e => ?_, fun e => ?_⟩
  · have hi := H.lt e
    have tk : l.take (i + 1).toNat = _ := take_snoc _ i0 hi
    have hx := hb _ (List.getElem_mem (show i.toNat < l.length by omega))
    have hc := H.get i0 hi
    have hs := hits_sum (l := l.take i.toNat) fun x hx => hb x (List.mem_of_mem_take hx)
    rw [List.length_take] at hs
    generalize l[i.toNat]'(by omega) = v at tk hx hc
    refine ⟨H.inb i0 hi, _, hc, n - 1, by omega, ?_⟩
    rw [H.succ i0 hi, w64_eq _ (by omega) (by omega)]
    (try simp only)
    rw [tk, List.sum_append]
    exact ⟨by omega, by omega, by simp, trivial⟩
  · have hi := H.ge e
    rw [List.take_of_length_le (by omega)]
    exact HK
theorem k_HitsOf {S S' : Nat -> Prop} {h : Heap} {g r : Sl} {xss : List (List Int)} {rs : List Int} (G : RdR S h g xss) (H : RdI S' h r rs) (p a b n : Int) (K : Value -> Heap -> Prop) (HK : ∀ h', Fr No h h' -> K (.tuple #[VI (htsP xss rs p a b n).1.1.sum, VB (htsP xss rs p a b n).2]) h') : callM Try.prog 22 #[.agg #[g.v], r.v, VI p, VI a, VI b, VI n] h K := by
  refine v22 g r p a b n h K fun b1 h1 hb1 f1 hL1 => ?_
  have f1 := f1.in_nil
  refine k_hits (G.no f1) (H.no f1) p a b n _ fun t u h2 T2 U2 f2 => ⟨t, u, _, _, rfl, hL1.of_no f2, ?_⟩
  have al := htsP_all (g := xss) (rs := rs) (p := p) (a := a) (b := b) (n := n)
  exact k_sumH T2 al.1 (by omega) _ ⟨_, rfl, hL1.of_no f2, HK h2 (f1.no_trans f2)⟩
theorem k_spec_HitsOf {S S' : Nat -> Prop} {h : Heap} {g r : Sl} {xss : List (List Int)} {rs : List Int} (G : RdR S h g xss) (H : RdI S' h r rs) (p a b n : Int) (K : Value -> Heap -> Prop) (HK : ∀ h', Fr No h h' -> K (.tuple #[VI (htsP xss rs p a b n).1.1.sum, VB (htsP xss rs p a b n).2]) h') : callM Try.prog 23 #[.agg #[g.v], r.v, VI p, VI a, VI b, VI n] h K := by
  refine v23 g r p a b n h K fun b1 h1 hb1 f1 hL1 => ?_
  have f1 := f1.in_nil
  refine k_hiAsked (G.no f1) (H.no f1) p a b n _ fun h2 f2 => ⟨_, rfl, hL1.of_no f2, fun e => ?_, fun e => ?_⟩
  · rw [htsP_f (not_t e)] at HK
    exact HK h2 (f1.no_trans f2)
  have e := not_f e
  have A := ask_o e
  have f12 := f1.no_trans f2
  rw [htsP_t e] at HK
  refine k_hiRun (G.no f12) (H.no f12) A _ fun t u h3 T3 U3 f3 => ⟨t, u, _, rfl, (hL1.of_no f2).of_no f3, ?_⟩
  have al := chips_ok A.can A.ok n.toNat
  have n1 := A.n1
  exact k_hiSum T3 al.2.2.1 (by rw [al.2.1]; omega) _ ⟨_, rfl, (hL1.of_no f2).of_no f3, HK h3 (f12.no_trans f3)⟩
theorem k_HitList {S S' : Nat -> Prop} {h : Heap} {g r : Sl} {xss : List (List Int)} {rs : List Int} (G : RdR S h g xss) (H : RdI S' h r rs) (p a b n : Int) (K : Value -> Heap -> Prop) (HK : ∀ t h', RdI (fun k => k < h'.size) h' t (htsP xss rs p a b n).1.1 -> Fr No h h' -> K (.tuple #[t.v, VB (htsP xss rs p a b n).2]) h') : callM Try.prog 24 #[.agg #[g.v], r.v, VI p, VI a, VI b, VI n] h K := by
  refine v24 g r p a b n h K fun b1 h1 hb1 f1 hL1 => ?_
  have f1 := f1.in_nil
  exact k_hits (G.no f1) (H.no f1) p a b n _ fun t u h2 T2 U2 f2 => ⟨t, u, _, _, rfl, hL1.of_no f2, HK t h2 T2 (f1.no_trans f2)⟩
theorem k_spec_HitList {S S' : Nat -> Prop} {h : Heap} {g r : Sl} {xss : List (List Int)} {rs : List Int} (G : RdR S h g xss) (H : RdI S' h r rs) (p a b n : Int) (K : Value -> Heap -> Prop) (HK : ∀ t h', RdI (fun k => k < h'.size) h' t (htsP xss rs p a b n).1.1 -> Fr No h h' -> K (.tuple #[t.v, VB (htsP xss rs p a b n).2]) h') : callM Try.prog 25 #[.agg #[g.v], r.v, VI p, VI a, VI b, VI n] h K := by
  refine v25 g r p a b n h K fun b1 h1 hb1 f1 hL1 => ?_
  have f1 := f1.in_nil
  refine k_hiAsked (G.no f1) (H.no f1) p a b n _ fun h2 f2 => ⟨_, rfl, hL1.of_no f2, fun e => ?_, fun e => ?_⟩
  · rw [htsP_f (not_t e)] at HK
    exact HK nilSl h2 (RdV.nil _ _ _) (f1.no_trans f2)
  have e := not_f e
  have A := ask_o e
  have f12 := f1.no_trans f2
  rw [htsP_t e] at HK
  exact k_hiRun (G.no f12) (H.no f12) A _ fun t u h3 T3 U3 f3 => ⟨t, u, _, rfl, (hL1.of_no f2).of_no f3, HK t h3 T3 (f12.no_trans f3)⟩
theorem k_StepsOfHits {S S' : Nat -> Prop} {h : Heap} {g r : Sl} {xss : List (List Int)} {rs : List Int} (G : RdR S h g xss) (H : RdI S' h r rs) (p a b n : Int) (K : Value -> Heap -> Prop) (HK : ∀ h', Fr No h h' -> K (.tuple #[VI (htsP xss rs p a b n).1.2.2, VB (htsP xss rs p a b n).2]) h') : callM Try.prog 28 #[.agg #[g.v], r.v, VI p, VI a, VI b, VI n] h K := by
  refine v28 g r p a b n h K fun b1 h1 hb1 f1 hL1 => ?_
  have f1 := f1.in_nil
  exact k_hits (G.no f1) (H.no f1) p a b n _ fun t u h2 T2 U2 f2 => ⟨t, u, _, _, rfl, hL1.of_no f2, HK h2 (f1.no_trans f2)⟩
theorem k_spec_StepsOfHits {S S' : Nat -> Prop} {h : Heap} {g r : Sl} {xss : List (List Int)} {rs : List Int} (G : RdR S h g xss) (H : RdI S' h r rs) (p a b n : Int) (K : Value -> Heap -> Prop) (HK : ∀ h', Fr No h h' -> K (.tuple #[VI (htsP xss rs p a b n).1.2.2, VB (htsP xss rs p a b n).2]) h') : callM Try.prog 29 #[.agg #[g.v], r.v, VI p, VI a, VI b, VI n] h K := by
  refine v29 g r p a b n h K fun b1 h1 hb1 f1 hL1 => ?_
  have f1 := f1.in_nil
  refine k_hiAsked (G.no f1) (H.no f1) p a b n _ fun h2 f2 => ⟨_, rfl, hL1.of_no f2, fun e => ?_, fun e => ?_⟩
  · rw [htsP_f (not_t e)] at HK
    exact HK h2 (f1.no_trans f2)
  have e := not_f e
  have A := ask_o e
  have f12 := f1.no_trans f2
  rw [htsP_t e] at HK
  exact k_hiRun (G.no f12) (H.no f12) A _ fun t u h3 T3 U3 f3 => ⟨t, u, _, rfl, (hL1.of_no f2).of_no f3, HK h3 (f12.no_trans f3)⟩
theorem k_RotorsBehind {S S' : Nat -> Prop} {h : Heap} {g r : Sl} {xss : List (List Int)} {rs : List Int} (G : RdR S h g xss) (H : RdI S' h r rs) (p a b n : Int) (K : Value -> Heap -> Prop) (HK : ∀ t h', RdI (fun k => k < h'.size) h' t (htsP xss rs p a b n).1.2.1 -> Fr No h h' -> K (.tuple #[t.v, VB (htsP xss rs p a b n).2]) h') : callM Try.prog 30 #[.agg #[g.v], r.v, VI p, VI a, VI b, VI n] h K := by
  refine v30 g r p a b n h K fun b1 h1 hb1 f1 hL1 => ?_
  have f1 := f1.in_nil
  exact k_hits (G.no f1) (H.no f1) p a b n _ fun t u h2 T2 U2 f2 => ⟨t, u, _, _, rfl, hL1.of_no f2, HK u h2 U2 (f1.no_trans f2)⟩
theorem k_spec_RotorsBehind {S S' : Nat -> Prop} {h : Heap} {g r : Sl} {xss : List (List Int)} {rs : List Int} (G : RdR S h g xss) (H : RdI S' h r rs) (p a b n : Int) (K : Value -> Heap -> Prop) (HK : ∀ t h', RdI (fun k => k < h'.size) h' t (htsP xss rs p a b n).1.2.1 -> Fr No h h' -> K (.tuple #[t.v, VB (htsP xss rs p a b n).2]) h') : callM Try.prog 31 #[.agg #[g.v], r.v, VI p, VI a, VI b, VI n] h K := by
  refine v31 g r p a b n h K fun b1 h1 hb1 f1 hL1 => ?_
  have f1 := f1.in_nil
  refine k_hiAsked (G.no f1) (H.no f1) p a b n _ fun h2 f2 => ⟨_, rfl, hL1.of_no f2, fun e => ?_, fun e => ?_⟩
  · rw [htsP_f (not_t e)] at HK
    exact HK nilSl h2 (RdV.nil _ _ _) (f1.no_trans f2)
  have e := not_f e
  have A := ask_o e
  have f12 := f1.no_trans f2
  rw [htsP_t e] at HK
  exact k_hiRun (G.no f12) (H.no f12) A _ fun t u h3 T3 U3 f3 => ⟨t, u, _, rfl, (hL1.of_no f2).of_no f3, HK u h3 U3 (f12.no_trans f3)⟩
def gapN (g : List (List Int)) (rs : List Int) (p a b n : Int) : Int := (chipsP g a b p rs n.toNat).1.sum * hiD g a b - n * chN g a b p
def gapP (g : List (List Int)) (rs : List Int) (p a b n : Int) : Rat2 × Bool := if hAsk g rs p a b n = true then (ratP ((gapN g rs p a b n).natAbs : Int) (hiD g a b), true) else ((0, 0), false)
theorem gapP_t {g : List (List Int)} {rs : List Int} {p a b n : Int} (h : hAsk g rs p a b n = true) : gapP g rs p a b n = (ratP ((gapN g rs p a b n).natAbs : Int) (hiD g a b), true) := by unfold gapP; rw [if_pos h]
theorem gapP_f {g : List (List Int)} {rs : List Int} {p a b n : Int} (h : hAsk g rs p a b n = false) : gapP g rs p a b n = ((0, 0), false) := by unfold gapP; rw [if_neg (by rw [h]; decide)]
theorem ratP_scale {k x d : Int} (hk : 0 < k) : ratP (k * x) (k * d) = ratP x d := by
  have e : ((Int.gcd (k * x) (k * d) : Nat) : Int) = k * (Int.gcd x d : Int) := by
    rw [Int.gcd_mul_left, Int.natCast_mul]
    congr 1
    omega
  unfold ratP
  rw [e, Int.mul_ediv_mul_of_pos _ _ hk, Int.mul_ediv_mul_of_pos _ _ hk]
theorem Ask.rng {g : List (List Int)} {rs : List Int} {p a b n : Int} (A : Ask g rs p a b n) : 0 ≤ (chipsP g a b p rs n.toNat).1.sum /\ (chipsP g a b p rs n.toNat).1.sum ≤ n /\ 0 ≤ chN g a b p /\ chN g a b p ≤ hiD g a b /\ 1 ≤ hiD g a b /\ hiD g a b ≤ 15625 := by
  have h1 := A.n0
  have h2 := A.ok.lo
  have h3 := A.ok.hi
  (try simp only at h2 h3)
  obtain ⟨_, hl, hx, _⟩ := chips_ok A.can A.ok n.toNat
  have hs := hits_sum hx
  have hc := A.can.ch_rng (p := p.toNat) (by omega)
  rw [show (((p.toNat : Nat) : Int)) = p by omega] at hc
  have hd := A.can.den
  omega
theorem k_HitGap {S S' : Nat -> Prop} {h : Heap} {g r : Sl} {xss : List (List Int)} {rs : List Int} (G : RdR S h g xss) (H : RdI S' h r rs) (p a b n : Int) (K : Value -> Heap -> Prop) (HK : ∀ h', Fr No h h' -> K (.tuple #[.agg #[VI (gapP xss rs p a b n).1.1, VI (gapP xss rs p a b n).1.2], VB (gapP xss rs p a b n).2]) h') : callM Try.prog 26 #[.agg #[g.v], r.v, VI p, VI a, VI b, VI n] h K := by
  refine v26 g r p a b n h K fun b1 b2 h2 hb1 hb2 f2 hL2 => ?_
  have f2 := f2.in_nil
  have box : ∀ {x y : Heap}, Fr No h x -> Fr (In [b2]) x y -> Fr No h y := fun f f' => f.fresh f' fun k hk => by
    simp only [In, List.mem_cons, List.not_mem_nil, or_false] at hk
    omega
  refine k_hits (G.no f2) (H.no f2) p a b n _ fun t u h3 T3 U3 f3 => ⟨t, u, _, _, rfl, hL2.of_no f3, ?_⟩
  cases e : hAsk xss rs p a b n with
  | false =>
    rw [htsP_f e]
    refine ⟨fun _ h4 f4 _ => ?_, fun e => by simp at e⟩
    rw [gapP_f e] at HK
    exact HK h4 (box (f2.no_trans f3) f4)
  | true =>
    rw [htsP_t e] at T3 ⊢
    rw [gapP_t e] at HK
    have A := ask_o e
    obtain ⟨a1, a2, a3, a4, a5, a6⟩ := A.rng
    have n0 := A.n0
    have n1 := A.n1
    have lo := A.ok.lo
    have hi := A.ok.hi
    (try simp only at lo hi)
    have al := chips_ok A.can A.ok n.toNat
    have hL3 := hL2.of_no f3
    have f13 := f2.no_trans f3
    refine ⟨fun e => by simp at e, fun _ => k_chances (G.no f13) A.can _ fun c h5 o5 f5 => ⟨c, _, rfl, hL3.of_no f5, ?_⟩⟩
    have r5 : RdI _ h5 c (outL xss a b o0 1 0) := Ow.rdF o5
    have ol := outL_len xss a b o0 1 0
    have cc := r5.get lo (by omega)
    rw [outL_get, show (((p.toNat : Nat) : Int)) = p by omega] at cc
    have hL5 := hL3.of_no f5
    have m1 := mulB a1 (Int.le_trans a2 n1) (show 0 ≤ hiD xss a b by omega) a6
    have m2 := mulB n0 n1 a3 (Int.le_trans a4 a6)
    refine ⟨r5.inb lo (by omega), _, cc, k_sumH (T3.no f5) al.2.2.1 (by rw [al.2.1]; omega) _ ⟨_, rfl, hL5, cc, ?_⟩⟩
    have w1 : w64 (w64 ((chipsP xss a b p rs n.toNat).1.sum * hiD xss a b) - w64 (n * hiX xss a b o0 1 0 p)) = gapN xss rs p a b n := by
      rw [w64_eq (_ * hiD xss a b) (by omega) (by omega), w64_eq (n * hiX xss a b o0 1 0 p) (by show _ ≤ n * chN xss a b p; omega) (by show n * chN xss a b p < _; omega)]
      exact w64_eq (gapN xss rs p a b n) (by unfold gapN; omega) (by unfold gapN; omega)
    rw [w1]
    have g1 : -1562500 ≤ gapN xss rs p a b n /\ gapN xss rs p a b n ≤ 1562500 := by unfold gapN; omega
    refine k_size _ (by omega) (by omega) h5 _ ⟨_, rfl, hL5, cc, k_size _ (by omega) (by omega) h5 _ ⟨_, rfl, hL5, cc, ?_⟩⟩
    rw [show ((hiD xss a b).natAbs : Int) = hiD xss a b by omega]
    refine k_ratio _ _ (by omega) (by omega) (by omega) h5 _ fun h9 f9 => ⟨_, _, rfl, hL5.of_no f9, hcell_fr cc f9 fun h => h, fun h10 f10 _ => HK h10 (box (f13.no_trans (f5.no_trans f9)) f10)⟩
theorem k_spec_HitGap {S S' : Nat -> Prop} {h : Heap} {g r : Sl} {xss : List (List Int)} {rs : List Int} (G : RdR S h g xss) (H : RdI S' h r rs) (p a b n : Int) (K : Value -> Heap -> Prop) (HK : ∀ h', Fr No h h' -> K (.tuple #[.agg #[VI (gapP xss rs p a b n).1.1, VI (gapP xss rs p a b n).1.2], VB (gapP xss rs p a b n).2]) h') : callM Try.prog 27 #[.agg #[g.v], r.v, VI p, VI a, VI b, VI n] h K := by
  refine v27 g r p a b n h K fun b1 b2 h2 hb1 hb2 f2 hL2 => ?_
  have f2 := f2.in_nil
  have box : ∀ {x y : Heap}, Fr No h x -> Fr (In [b2]) x y -> Fr No h y := fun f f' => f.fresh f' fun k hk => by
    simp only [In, List.mem_cons, List.not_mem_nil, or_false] at hk
    omega
  refine k_hiAsked (G.no f2) (H.no f2) p a b n _ fun h3 f3 => ⟨_, rfl, hL2.of_no f3, fun e h4 f4 _ => ?_, fun e => ?_⟩
  · rw [gapP_f (not_t e)] at HK
    exact HK h4 (box (f2.no_trans f3) f4)
  have e := not_f e
  rw [gapP_t e] at HK
  have A := ask_o e
  obtain ⟨a1, a2, a3, a4, a5, a6⟩ := A.rng
  have n0 := A.n0
  have n1 := A.n1
  have lo := A.ok.lo
  have hi := A.ok.hi
  (try simp only at lo hi)
  have al := chips_ok A.can A.ok n.toNat
  have f13 := f2.no_trans f3
  refine k_hiChances (G.no f13) A.can _ fun c h5 Q5 f5 => ⟨c, rfl, (hL2.of_no f3).of_no f5, ?_⟩
  obtain ⟨ic, cc⟩ := Q5.get lo (by rw [chR_len]; omega)
  rw [chR_get, show (((p.toNat : Nat) : Int)) = p by omega] at cc
  refine ⟨ic, _, _, cc, fun b3 h7 hb3 f7 hL7 => ?_⟩
  have f7 := f7.in_nil
  have f17 := f13.no_trans (f5.no_trans f7)
  refine k_hiRun (G.no f17) (H.no f17) A _ fun t u h8 T8 U8 f8 => ⟨t, u, _, rfl, hL7.of_no f8, ?_⟩
  refine k_hiSum T8 al.2.2.1 (by rw [al.2.1]; omega) _ ⟨_, rfl, hL7.of_no f8, ?_⟩
  have hm := ratP_mul (x := chN xss a b p) (d := hiD xss a b)
  have hg := gcd_pos (x := chN xss a b p) (d := hiD xss a b) (by omega)
  have hab := ratP_abs (x := chN xss a b p) (d := hiD xss a b) (by omega)
  have hpp := ratP_pos (x := chN xss a b p) (d := hiD xss a b) (by omega)
  have hnn := ratP_nonneg (x := chN xss a b p) (d := hiD xss a b) (by omega) a3
  generalize hxd : ratP (chN xss a b p) (hiD xss a b) = x at *
  have hgI : (0 : Int) < (Int.gcd (chN xss a b p) (hiD xss a b) : Int) := by omega
  generalize (Int.gcd (chN xss a b p) (hiD xss a b) : Int) = k at *
  have m1 := mulB a1 (Int.le_trans a2 n1) (show 0 ≤ x.2 by omega) (show x.2 ≤ 15625 by omega)
  have m2 := mulB n0 n1 hnn (show x.1 ≤ 15625 by omega)
  have w1 : w64 (w64 ((chipsP xss a b p rs n.toNat).1.sum * x.2) - w64 (n * x.1)) = (chipsP xss a b p rs n.toNat).1.sum * x.2 - n * x.1 := by
    rw [w64_eq (_ * x.2) (by omega) (by omega), w64_eq (n * x.1) (by omega) (by omega), w64_eq _ (by omega) (by omega)]
  rw [w1]
  have e1 : k * ((chipsP xss a b p rs n.toNat).1.sum * x.2 - n * x.1) = gapN xss rs p a b n := by
    unfold gapN
    rw [Int.mul_sub, Int.mul_left_comm, hm.2, Int.mul_left_comm, hm.1]
  have e2 : k * ((((chipsP xss a b p rs n.toNat).1.sum * x.2 - n * x.1).natAbs : Nat) : Int) = ((gapN xss rs p a b n).natAbs : Int) := by
    rw [← e1, Int.natAbs_mul, Int.natCast_mul, show ((k.natAbs : Nat) : Int) = k by omega]
  have e3 := ratP_scale (x := ((((chipsP xss a b p rs n.toNat).1.sum * x.2 - n * x.1).natAbs : Nat) : Int)) (d := x.2) hgI
  rw [e2, hm.2] at e3
  rw [e3] at HK
  refine k_l1Abs _ (by omega) (by omega) h8 _ ⟨_, rfl, hL7.of_no f8, ?_⟩
  exact k_hiRatio _ _ (by omega) (by omega) (by omega) h8 _ fun h11 f11 => ⟨_, _, rfl, (hL7.of_no f8).of_no f11, fun h12 f12 _ => HK h12 (box (f17.no_trans (f8.no_trans f11)) f12)⟩
set_option maxHeartbeats 2000000 in
theorem k_drchips {a n b : Nat} {h : Heap} {c : Sl} {i sd : Int} (V : IsVar h b [c.v, VI i, .int .u64 sd]) (hb : a ≤ b) (D : CurD a n h c i) (hn : n ≤ 10000) (K : Value -> Heap -> Prop) (HK : ∀ (t r : Sl) (gs : List (List Int)) (rs : List Int) (p x y m : Int) h', RdR (fun k => h.size ≤ k) h' t gs -> RdI (fun k => h.size ≤ k) h' r rs -> Fr (In [b]) h h' -> (∃ c' i' sd', IsVar h' b [c'.v, VI i', .int .u64 sd'] /\ c' = c) -> K (.tuple #[.agg #[t.v], r.v, VI p, VI x, VI y, VI m]) h') : callM Try.prog 78 #[VP b 0] h K := by
  have hbs := V.lt
  refine v78 b c i sd h K (.cons V (by simp) .nil) fun b2 h1 hb2 f1 hL1 => ?_
  have f1 := f1.in_nil
  have z1 := f1.size
  refine k_drgoals hL1.tail.head hb (D.no f1) (by omega) _ fun t gs x y i2 sd2 h2 hgl G2 V2 D2 f2 => ⟨c, i2, sd2, t, x, y, rfl, vcur hL1 1 rfl f2 V2, fun b3 h4 hb3 f4 hL4 => ?_⟩
  have f4 := f4.in_nil
  have z2 := f2.size
  have z4 := f4.size
  have l2 := hL1.head.lt
  have G4 : RdR (fun k => h1.size ≤ k /\ k < h2.size) h4 t gs := (G2.lowS.mono fun k hk => hk).no f4
  have up : ∀ {u v : Heap} {B : List Nat}, Fr (In [b]) h u -> Fr (In B) u v -> (∀ k, k ∈ B -> k = b ∨ h.size ≤ k) -> Fr (In [b]) h v := fun f g hB => ⟨Nat.le_trans f.size g.size, fun k hk hk2 => by
    rw [g.same k (by have := f.size; omega) fun hm => by
      rcases hB k hm with e | e
      · exact hk2 (by simp [In, e])
      · omega]
    exact f.same k hk hk2⟩
  have e4 : Fr (In [b]) h h4 := (f1.of_no.trans f2).trans f4.of_no
  have keep : ∀ {u v : Heap}, RdR (fun k => h1.size ≤ k /\ k < h2.size) u t gs -> Fr (In [b]) u v -> RdR (fun k => h1.size ≤ k /\ k < h2.size) v t gs := fun R f => R.fr f fun k hk hk2 => by
    simp only [In, List.mem_cons, List.not_mem_nil, or_false] at hk2
    omega
  have l3 := hL4.head.lt
  refine ⟨fun r c' j s h' => c' = c /\ ∃ rs : List Int, RdI (fun k => h4.size ≤ k /\ k < h'.size) h' r rs /\ RdR (fun k => h1.size ≤ k /\ k < h2.size) h' t gs /\ CurD a (n + 1200) h' c j /\ Fr (In [b]) h h' /\ h4.size ≤ h'.size, ⟨?_, ?_⟩⟩
  · refine k_spec_grGood G4 _ fun h5 f5 => ⟨_, rfl, hL4.of_no f5, fun e => ?_, fun e => ⟨rfl, [], RdV.nil _ _ _, G4.no f5, (D2.no f4 |>.no f5).up (by omega), up (B := []) e4 (f5.of_no) (by simp), f5.size⟩⟩
    have hL5 := hL4.of_no f5
    refine k_sureWalk hL5.tail.tail.head hb ((D2.no f4).no f5) (by omega) (G4.no f5) (fun hk => by omega) (by omega) _ fun w rs q i6 sd6 h6 o6 hl6 V6 D6 f6 => ⟨c, i6, sd6, w, q, rfl, vcur hL5 2 rfl f6 V6, rfl, rs, ?_, keep (G4.no f5) f6, D6.up (by omega), up (up (B := []) e4 (f5.of_no) (by simp)) f6 (by simp), by have := f5.size; have := f6.size; omega⟩
    exact (Ow.rdF o6 : RdI _ h6 w rs).mono fun k hk => ⟨by have := hk.1; have := f5.size; omega, hk.2⟩
  rintro r c' j s h7 ⟨rfl, rs, R7, G7, D7, e7, z7⟩ hL7
  have keepI : ∀ {u v : Heap}, RdI (fun k => h4.size ≤ k /\ k < h7.size) u r rs -> Fr (In [b]) u v -> RdI (fun k => h4.size ≤ k /\ k < h7.size) v r rs := fun R f => R.fr f fun k hk hk2 => by
    simp only [In, List.mem_cons, List.not_mem_nil, or_false] at hk2
    omega
  refine k_pick hL7.tail.tail.head hb D7 (by omega) 30 _ fun m i8 sd8 h8 _ _ V8 D8 f8 => ⟨c', i8, sd8, m, rfl, vcur hL7 2 rfl f8 V8, ?_⟩
  have hL8 := vcur hL7 2 rfl f8 V8
  refine ⟨fun m' c'' j s h' => c'' = c' /\ RdI (fun k => h4.size ≤ k /\ k < h7.size) h' r rs /\ RdR (fun k => h1.size ≤ k /\ k < h2.size) h' t gs /\ CurD a (n + 1210) h' c' j /\ Fr (In [b]) h h' /\ h7.size ≤ h'.size, ⟨?_, ?_⟩⟩
  · refine k_one hL8.tail.tail.head hb D8 (by omega) 12 _ fun z i9 sd9 h9 V9 D9 f9 => ⟨c', i9, sd9, z, rfl, vcur hL8 2 rfl f9 V9, fun e => ?_, fun e => ⟨rfl, keepI (keepI R7 f8) f9, keep (keep G7 f8) f9, D9.up (by omega), up (up e7 f8 (by simp)) f9 (by simp), by have := f8.size; have := f9.size; omega⟩⟩
    have hL9 := vcur hL8 2 rfl f9 V9
    refine eop_lit rIs (fun k => h9.size ≤ k) (fun _ h => h) 4 (by omega) [VI (-1), VI 0, VI 100, VI 101] rfl rfl fun u h10 n10 c10 o10 f10 m10 _ => ⟨u, rfl, hL9.of_no f10, ?_⟩
    have hL10 := hL9.of_no f10
    have ru : RdI (fun k => h9.size ≤ k) h10 u [-1, 0, 100, 101] := o10.rdF
    have l9 := hL9.tail.tail.head.lt
    refine k_among hL10.tail.tail.head hb (D9.no f10) (by omega) ru (by omega) (by simp) _ fun v i11 sd11 h11 _ V11 D11 f11 => ⟨c', i11, sd11, v, rfl, vcur hL10 2 rfl f11 V11, rfl, keepI ((keepI (keepI R7 f8) f9).no f10) f11, keep ((keep (keep G7 f8) f9).no f10) f11, D11.up (by omega), up (up (B := []) (up (up e7 f8 (by simp)) f9 (by simp)) f10.of_no (by simp)) f11 (by simp), by have := f8.size; have := f9.size; have := f10.size; have := f11.size; omega⟩
  rintro m' c'' j s h12 ⟨rfl, R12, G12, D12, e12, z12⟩ hL12
  refine k_drplace hL12.tail.tail.head hb D12 (by omega) t _ fun p i13 sd13 h13 V13 D13 f13 => ⟨c'', i13, sd13, p, rfl, vcur hL12 2 rfl f13 V13, fun h14 f14 hL14 => ?_⟩
  have in2 : ∀ k, In [b2] k -> k = b2 := fun k hk => by simpa [In] using hk
  refine HK t r gs rs p x y m' h14 (((keep G12 f13).fr f14 fun k hk hk2 => ?_).mono fun k hk => by omega) (((keepI R12 f13).fr f14 fun k hk hk2 => ?_).mono fun k hk => by omega) (up (up e12 f13 (by simp)) f14 (by simp; omega)) ⟨c'', i13, sd13, hL14.tail.tail.head, rfl⟩
  · have := in2 k hk2; omega
  · have := in2 k hk2; omega
theorem k_DrawHitsOf {S : Nat -> Prop} {h : Heap} {code : Sl} {vs : List Value} (C : RdV S h 1 code vs) (B : ∀ v, v ∈ vs -> ∃ m : Int, v = Value.int .u8 m /\ 0 ≤ m /\ m ≤ 255) (K : Value -> Heap -> Prop) (HK : ∀ (t r : Sl) (gs : List (List Int)) (rs : List Int) (p x y m : Int) h', RdR (fun k => h.size ≤ k) h' t gs -> RdI (fun k => h.size ≤ k) h' r rs -> Fr No h h' -> K (.tuple #[.agg #[t.v], r.v, VI p, VI x, VI y, VI m]) h') : callM Try.prog 21 #[code.v] h K := by
  refine v21 code h K fun b1 b2 h2 hb1 hb2 f2 hL2 => ?_
  have f2 := f2.in_nil
  have z2 := f2.size
  have l2 : b2 < h2.size := hL2.head.lt
  have l1 : b1 < h2.size := hL2.tail.head.lt
  have D2 : CurD h.size 0 h2 code 0 := ⟨⟨vs, ((RdV.lt C).mono fun k hk => hk.2).no f2, B⟩, by omega, by omega⟩
  have in1 : ∀ {b k : Nat}, In [b] k -> k = b := fun hk => by simpa [In] using hk
  refine k_drchips hL2.head hb2 D2 (by omega) _ fun t r gs rs p x y m h3 G3 R3 f3 ⟨c', i3, sd3, V3, hc⟩ => ⟨c', i3, sd3, t, r, p, x, y, m, rfl, vcur hL2 0 rfl f3 V3, fun h4 f4 hL4 => ?_⟩
  refine HK t r gs rs p x y m h4 ((G3.fr f4 fun k hk hk2 => ?_).mono fun k hk => by omega) ((R3.fr f4 fun k hk hk2 => ?_).mono fun k hk => by omega) ?_
  · have := in1 hk2; omega
  · have := in1 hk2; omega
  · exact (f2.fresh f3 fun k hk => by have := in1 hk; omega).fresh f4 fun k hk => by have := in1 hk; omega
theorem k_DrawHitBound {S : Nat -> Prop} {h : Heap} {code : Sl} {vs : List Value} (C : RdV S h 1 code vs) (B : ∀ v, v ∈ vs -> ∃ m : Int, v = Value.int .u8 m /\ 0 ≤ m /\ m ≤ 255) (K : Value -> Heap -> Prop) (HK : ∀ (t : Sl) (gs : List (List Int)) (p q : Int) h', RdR (fun k => h.size ≤ k) h' t gs -> Fr No h h' -> K (.tuple #[.agg #[t.v], VI p, VI q]) h') : callM Try.prog 35 #[code.v] h K := by
  refine v35 code h K fun b1 h1 hb1 f1 hL1 => ?_
  have f1 := f1.in_nil
  have z1 := f1.size
  have l1 : b1 < h1.size := hL1.head.lt
  have in1 : ∀ {b k : Nat}, In [b] k -> k = b := fun hk => by simpa [In] using hk
  refine k_DrawChancesOf (C.no f1) B _ fun t gs p q h2 _ G2 f2 => ⟨t, p, q, rfl, hL1.of_no f2, fun h3 f3 hL3 => ?_⟩
  refine HK t gs p q h3 ((G2.fr f3 fun k hk hk2 => ?_).mono fun k hk => by omega) ((f1.no_trans f2).fresh f3 fun k hk => by have := in1 hk; omega)
  have := in1 hk2
  omega
theorem htsP_2 (g : List (List Int)) (rs : List Int) (p a b n : Int) : (htsP g rs p a b n).2 = hAsk g rs p a b n := by
  cases h : hAsk g rs p a b n with
  | true => rw [htsP_t h]
  | false => rw [htsP_f h]
theorem gapP_2 (g : List (List Int)) (rs : List Int) (p a b n : Int) : (gapP g rs p a b n).2 = hAsk g rs p a b n := by
  cases h : hAsk g rs p a b n with
  | true => rw [gapP_t h]
  | false => rw [gapP_f h]
theorem walk_to7 {g : List (List Int)} {rs : List Int} {p : Int} (W : WOK g (rs, p)) : walkB g rs p = true := by
  have h1 := W.lo
  have h2 := W.hi
  have h3 := W.len
  (try simp only at h1 h2 h3)
  unfold walkB
  simp only [Bool.and_eq_true, decide_eq_true_eq]
  refine ⟨⟨⟨W.graph, inR_iff.2 ⟨h1, by omega⟩⟩, h3⟩, List.all_eq_true.2 fun t ht => ?_⟩
  obtain ⟨i, hi, rfl⟩ := List.mem_iff_getElem.1 ht
  rw [List.length_zip] at hi
  rw [List.getElem_zip]
  exact inR_iff.2 (W.rot i (by (try simp only); omega) (by omega))
theorem Can.chip_pot {g : List (List Int)} {a b : Int} (C : Can g a b) {rs : List Int} {p : Int} (W : WOK g (rs, p)) : (if (chip1 g a b p rs).1.2 = a then 1 else 0) * hiD g a b - chN g a b p = potS g a b (chN g a b) 0 rs - potS g a b (chN g a b) 0 (chip1 g a b p rs).1.1 := by
  obtain ⟨h1, _, _, h4⟩ := C.go (lefN g a b (rs, p)) W (Nat.le_refl _)
  have e : chip1 g a b p rs = walkG g a b (lefN g a b (rs, p)) (rs, p) := rfl
  rw [← e] at h1 h4
  by_cases ha : (chip1 g a b p rs).1.2 = a
  · rw [if_pos ha]
    rw [ha, chN_a] at h4
    (try simp only at h4)
    omega
  · rw [if_neg ha]
    rw [h1.resolve_left ha, chN_b g C.ne] at h4
    (try simp only at h4)
    omega
theorem chips_pot {g : List (List Int)} {rs : List Int} {p a b : Int} (C : Can g a b) (W : WOK g (rs, p)) : ∀ n : Nat, (chipsP g a b p rs n).1.sum * hiD g a b - n * chN g a b p = potS g a b (chN g a b) 0 rs - potS g a b (chN g a b) 0 (chipsP g a b p rs n).2.1
  | 0 => by simp [chipsP]
  | n + 1 => by
    have ih := chips_pot C W n
    have h := C.chip_pot (chips_ok C W n).1
    rw [chipsP]
    (try simp only)
    rw [List.sum_append, List.sum_cons, List.sum_nil, Int.add_zero, Int.add_mul, show ((n + 1 : Nat) : Int) = (n : Int) + 1 by omega, Int.add_mul (n : Int), Int.one_mul]
    omega
theorem sumZ_diff {f f' m : Nat -> Int} : ∀ {n : Nat}, (∀ i, i < n -> f i - f' i ≤ m i /\ f' i - f i ≤ m i) -> sumZ f n - sumZ f' n ≤ sumZ m n /\ sumZ f' n - sumZ f n ≤ sumZ m n
  | 0, _ => ⟨Int.le_refl _, Int.le_refl _⟩
  | n + 1, h => by
    have ih := sumZ_diff (n := n) fun i hi => h i (by omega)
    have := h n (by omega)
    rw [sumZ, sumZ, sumZ]
    omega
theorem Can.pot_near {g : List (List Int)} {a b : Int} (C : Can g a b) {rs rs' : List Int} {p q : Int} (W : WOK g (rs, p)) (W' : WOK g (rs', q)) : potS g a b (chN g a b) 0 rs - potS g a b (chN g a b) 0 rs' ≤ sumZ (bndZ g a b) g.length /\ potS g a b (chN g a b) 0 rs' - potS g a b (chN g a b) 0 rs ≤ sumZ (bndZ g a b) g.length := by
  unfold potS
  refine sumZ_diff fun i hi => ?_
  (try simp only)
  unfold bndZ
  by_cases h : innB a b i = true
  · rw [if_pos h, if_pos h, if_pos h]
    have hz := C.out i hi (innB_t.1 h).1 (innB_t.1 h).2
    have h1 := W.rotI hi hz
    have h2 := W'.rotI hi hz
    rw [Int.sub_zero]
    exact pot_two (chN g a b) (chN g a b i) h1 h2
  · rw [if_neg h, if_neg h, if_neg h]
    omega
theorem Ask.near {g : List (List Int)} {rs : List Int} {p a b n : Int} (A : Ask g rs p a b n) : ((gapN g rs p a b n).natAbs : Int) ≤ bndN g a b := by
  have h := chips_pot A.can A.ok n.toNat
  have hn := A.can.pot_near A.ok (chips_ok A.can A.ok n.toNat).1
  have hd := A.can.den
  have n0 := A.n0
  rw [show ((n.toNat : Nat) : Int) = n by omega] at h
  unfold gapN
  rw [bndN_eq]
  omega
theorem ratP_mono {x y d : Int} (hd : 0 < d) (h : x ≤ y) : (ratP x d).1 * (ratP y d).2 ≤ (ratP y d).1 * (ratP x d).2 := by
  have gx := gcd_pos (x := x) hd
  have gy := gcd_pos (x := y) hd
  have mx := ratP_mul (x := x) (d := d)
  have my := ratP_mul (x := y) (d := d)
  generalize ratP x d = X at *
  generalize ratP y d = Y at *
  have gx' : (0 : Int) < (Int.gcd x d : Int) := by omega
  have gy' : (0 : Int) < (Int.gcd y d : Int) := by omega
  generalize (Int.gcd x d : Int) = k at *
  generalize (Int.gcd y d : Int) = l at *
  have hk : 0 < k * l := Int.mul_pos gx' gy'
  refine Int.le_of_mul_le_mul_left (a := k * l) ?_ hk
  have e1 : k * l * (X.1 * Y.2) = x * d := by rw [← mx.1]; conv => rhs; rw [← my.2]
                                              ac_rfl
  have e2 : k * l * (Y.1 * X.2) = y * d := by rw [← my.1]; conv => rhs; rw [← mx.2]
                                              ac_rfl
  rw [e1, e2]
  exact Int.mul_le_mul_of_nonneg_right h (by omega)
theorem chip_turn {g : List (List Int)} {a b : Int} (C : Can g a b) {rs : List Int} {p : Int} (W : WOK g (rs, p)) : chip1 g b a p rs = chip1 g a b p rs := by
  have h1 := (C.go (lefN g a b (rs, p)) W (Nat.le_refl _)).1
  have h2 := (C.turn.go (lefN g b a (rs, p)) W (Nat.le_refl _)).1
  unfold chip1
  rw [walkG_swap] at h2 ⊢
  have e1 := walkG_more (lefN g a b (rs, p)) (lefN g b a (rs, p)) (rs, p) h1
  have e2 := walkG_more (lefN g b a (rs, p)) (lefN g a b (rs, p)) (rs, p) h2.symm
  rw [← e1, ← e2, Nat.add_comm]
theorem chips_turn {g : List (List Int)} {rs : List Int} {p a b : Int} (C : Can g a b) (W : WOK g (rs, p)) : ∀ n : Nat, (chipsP g b a p rs n).2.1 = (chipsP g a b p rs n).2.1 /\ (chipsP g b a p rs n).1.sum = n - (chipsP g a b p rs n).1.sum
  | 0 => by simp [chipsP]
  | n + 1 => by
    obtain ⟨h1, h2⟩ := chips_turn C W n
    have W1 := (chips_ok C W n).1
    have hg := (C.go (lefN g a b ((chipsP g a b p rs n).2.1, p)) W1 (Nat.le_refl _)).1
    have e : chip1 g a b p (chipsP g a b p rs n).2.1 = walkG g a b (lefN g a b ((chipsP g a b p rs n).2.1, p)) ((chipsP g a b p rs n).2.1, p) := rfl
    rw [← e] at hg
    have hne := C.ne
    rw [chipsP, chipsP]
    (try simp only)
    rw [h1, chip_turn C W1, List.sum_append, List.sum_append, h2]
    refine ⟨rfl, ?_⟩
    rw [List.sum_cons, List.sum_nil, List.sum_cons, List.sum_nil]
    by_cases ha : (chip1 g a b p (chipsP g a b p rs n).2.1).1.2 = a
    · rw [if_neg (by omega), if_pos ha]; omega
    · rw [if_pos (hg.resolve_left ha), if_neg ha]; omega
theorem hAsk_turn {g : List (List Int)} {rs : List Int} {p a b n : Int} (h : hAsk g rs p a b n = true) : hAsk g rs p b a n = true := by
  have A := ask_o h
  unfold hAsk at h ⊢
  rw [Bool.and_eq_true, Bool.and_eq_true] at h
  rw [can_i A.can.turn, h.1.2, h.2]
  rfl
theorem hAsk_of {g : List (List Int)} {rs : List Int} {p a b n : Int} (C : Can g a b) (W : WOK g (rs, p)) (n0 : 0 ≤ n) (n1 : n ≤ 100) : hAsk g rs p a b n = true := by
  unfold hAsk
  rw [can_i C, walk_to7 W, inR_iff.2 ⟨n0, n1⟩]
  rfl
theorem bndP_t {g : List (List Int)} {a b : Int} (C : Can g a b) : bndP g a b = (ratP (bndN g a b) (hiD g a b), true) := by unfold bndP; rw [if_pos (can_i C)]
theorem bndP_told {g : List (List Int)} {a b : Int} (h : (bndP g a b).2 = true) : (bndP g a b).1.2 ≤ (bndP g a b).1.1 := by
  unfold bndP at h ⊢
  split at h
  · rename_i e
    rw [if_pos e]
    have C := can_o e
    have hd := C.den
    have br := C.bnd_rng (k := g.length) (Nat.le_refl _)
    have hg := gcd_pos (x := bndN g a b) (d := hiD g a b) (by omega)
    exact Int.ediv_le_ediv (by omega) (by rw [bndN_eq]; omega)
  · cases h
set_option maxHeartbeats 8000000 in
theorem k_lawHitsNearChances {h : Heap} {S0 S1 : Nat -> Prop} {s0 s1 : Sl} {x0 x1 : List Value} (G0 : RdV S0 h 1 s0 x0) (B0 : ∀ v, v ∈ x0 -> ∃ m : Int, v = Value.int .u8 m /\ 0 ≤ m /\ m ≤ 255) (G1 : RdV S1 h 1 s1 x1) (B1 : ∀ v, v ∈ x1 -> ∃ m : Int, v = Value.int .u8 m /\ 0 ≤ m /\ m ≤ 255) : Ret Try.prog 4 #[s0.v, s1.v] h (VB true) := by
  intro K HK
  refine v4 s0 s1 h K ?_
  refine k_big s0 s1 h _ fun b0 => ⟨b0, rfl, .nil, fun _ => HK h (Fr.refl _ _), fun _ => ?_⟩
  refine k_DrawHitsOf G0 B0 _ fun t r gs rs p a b n h2 G2 R2 f2 => ⟨t, r, p, a, b, n, rfl, .nil, fun b1 h4 _ f4 hL4 => ?_⟩
  have f4 := f4.in_nil
  have F4 := f2.no_trans f4
  have G4 := G2.no f4
  have R4 := R2.no f4
  refine k_HitsOf G4 R4 p a b n _ fun h5 f5 => ⟨_, _, rfl, hL4.of_no f5, ?_⟩
  refine k_spec_HitsOf (G4.no f5) (R4.no f5) p a b n _ fun h6 f6 => ⟨_, _, rfl, (hL4.of_no f5).of_no f6, ?_⟩
  have f46 := f5.no_trans f6
  have hL6 := (hL4.of_no f5).of_no f6
  refine k_HitList (G4.no f46) (R4.no f46) p a b n _ fun l7 h7 q7 f7 => ⟨l7, _, rfl, hL6.of_no f7, ?_⟩
  have f47 := f46.no_trans f7
  refine k_spec_HitList (G4.no f47) (R4.no f47) p a b n _ fun l8 h8 q8 f8 => ⟨l8, _, rfl, (hL6.of_no f7).of_no f8, ?_⟩
  have f48 := f47.no_trans f8
  have hL8 := (hL6.of_no f7).of_no f8
  refine k_HitGap (G4.no f48) (R4.no f48) p a b n _ fun h9 f9 => ⟨_, _, _, rfl, hL8.of_no f9, fun b2 h11 _ f11 hL11 => ?_⟩
  have f811 := f9.no_trans f11.in_nil
  have f411 := f48.no_trans f811
  refine k_spec_HitGap (G4.no f411) (R4.no f411) p a b n _ fun h12 f12 => ⟨_, _, _, rfl, hL11.of_no f12, fun b3 h14 _ f14 hL14 => ?_⟩
  have f1114 := f12.no_trans f14.in_nil
  have f414 := f411.no_trans f1114
  refine k_StepsOfHits (G4.no f414) (R4.no f414) p a b n _ fun h15 f15 => ⟨_, _, rfl, hL14.of_no f15, ?_⟩
  have f415 := f414.no_trans f15
  refine k_spec_StepsOfHits (G4.no f415) (R4.no f415) p a b n _ fun h16 f16 => ⟨_, _, rfl, (hL14.of_no f15).of_no f16, ?_⟩
  have f416 := f415.no_trans f16
  have hL16 := (hL14.of_no f15).of_no f16
  refine k_RotorsBehind (G4.no f416) (R4.no f416) p a b n _ fun r17 h17 q17 f17 => ⟨r17, _, rfl, hL16.of_no f17, ?_⟩
  have f417 := f416.no_trans f17
  refine k_spec_RotorsBehind (G4.no f417) (R4.no f417) p a b n _ fun r18 h18 q18 f18 => ⟨r18, _, rfl, (hL16.of_no f17).of_no f18, fun e => by simp at e, fun _ => ⟨fun e => by simp at e, fun _ => ⟨fun e => by simp at e, fun _ => ?_⟩⟩⟩
  have f418 := f417.no_trans f18
  have hL18 := (hL16.of_no f17).of_no f18
  have f818 := f811.no_trans (f1114.no_trans (f15.no_trans (f16.no_trans (f17.no_trans f18))))
  have L18 := (q7.no f8).no f818
  have L18' := q8.no f818
  have Q18 := q17.no f18
  have F18 := F4.no_trans f418
  have G18 := G4.no f418
  have R18 := R4.no f418
  refine k_wSame L18 L18' _ ⟨_, rfl, hL18, fun e => by simp at e, fun _ => ⟨fun e => by simp at e, fun _ => pop_rne _ _ _ _ _ _ ⟨_, rfl, fun e => by simp at e, fun _ => ⟨fun e => by simp at e, fun _ => ⟨fun e => by simp at e, fun _ => ⟨fun e => by simp at e, fun _ => ?_⟩⟩⟩⟩⟩⟩
  refine k_wSame Q18 q18 _ ⟨_, rfl, hL18, fun e => by simp at e, fun _ => ?_⟩
  rw [gapP_2, htsP_2]
  refine ⟨fun e => by simp at e, fun _ => ⟨fun e => by simp at e, fun _ => ⟨fun e => by simp at e, fun _ => ⟨fun e => by simp at e, fun _ => ?_⟩⟩⟩⟩
  refine ⟨fun h' => Fr No h18 h', ⟨fun e => ?_, fun _ => Fr.refl _ _⟩, fun h32 F32 hL32 => ?_⟩
  · have A := ask_o e
    have C := A.can
    have W := A.ok
    have n0 := A.n0
    have n1 := A.n1
    have hd := C.den
    rw [htsP_t e] at L18 Q18 ⊢
    rw [gapP_t e] at hL18 ⊢
    (try simp only at L18 Q18 ⊢)
    obtain ⟨a1, a2, a3, a4, a5, a6⟩ := A.rng
    obtain ⟨k1, k2, k3, k4, k5⟩ := chips_ok C W n.toNat
    have ln := L18.len
    refine k_HitBound G18 a b _ fun h21 f21 => ⟨_, _, _, rfl, hL18.of_no f21, ?_⟩
    rw [bndP_t C]
    refine ⟨fun e => by simp at e, fun _ => ⟨fun e2 => ?_, fun _ b4 h23 _ f23 hL23 => ?_⟩⟩
    · have e2 := not_t e2
      simp only [decide_eq_false_iff_not] at e2
      omega
    have f23 := f21.no_trans f23.in_nil
    have L23 := L18.no f23
    refine k_wSum L23 (fun x hx => by have := k3 x hx; omega) (by omega) _ ⟨_, rfl, hL23, fun e => by simp at e, fun _ => ⟨fun e2 => ?_, fun _ => ?_⟩⟩
    · simp only [decide_eq_true_eq] at e2
      have hm := ratP_mono (d := hiD gs a b) (by omega) A.near
      have br := C.bnd_rng (k := gs.length) (Nat.le_refl _)
      have g1 := ratP_abs (x := ((gapN gs rs p a b n).natAbs : Int)) (d := hiD gs a b) (by omega)
      have g2 := ratP_abs (x := bndN gs a b) (d := hiD gs a b) (by omega)
      have g3 := ratP_pos (x := ((gapN gs rs p a b n).natAbs : Int)) (d := hiD gs a b) (by omega)
      have g4 := ratP_pos (x := bndN gs a b) (d := hiD gs a b) (by omega)
      have g5 := ratP_nonneg (x := ((gapN gs rs p a b n).natAbs : Int)) (d := hiD gs a b) (by omega) (by omega)
      have g6 := ratP_nonneg (x := bndN gs a b) (d := hiD gs a b) (by omega) (by rw [bndN_eq]; omega)
      have near := A.near
      have nb : bndN gs a b ≤ 640625 := by rw [bndN_eq]; omega
      generalize ratP ((gapN gs rs p a b n).natAbs : Int) (hiD gs a b) = u at *
      generalize ratP (bndN gs a b) (hiD gs a b) = v at *
      have m1 := mulB g6 (show v.1 ≤ 640625 by omega) (show 0 ≤ u.2 by omega) (show u.2 ≤ 15625 by omega)
      have m2 := mulB g5 (show u.1 ≤ 640625 by omega) (show 0 ≤ v.2 by omega) (show v.2 ≤ 15625 by omega)
      rw [w64_eq _ (by omega) (by omega), w64_eq _ (by omega) (by omega)] at e2
      omega
    refine ⟨fun h' => Fr No h23 h', ⟨fun e3 => ?_, fun _ => Fr.refl _ _⟩, fun h30 F30 hL30 => ?_⟩
    · simp only [decide_eq_true_eq] at e3
      have G23 := G18.no f23
      have R23 := R18.no f23
      have wn : w64 (n - 1) = n - 1 := w64_eq _ (by omega) (by omega)
      rw [wn]
      have e' : hAsk gs rs p a b (n - 1) = true := hAsk_of C W (by omega) (by omega)
      obtain ⟨m, hm⟩ : ∃ m : Nat, n.toNat = m + 1 := ⟨n.toNat - 1, by omega⟩
      have em : (n - 1).toNat = m := by omega
      have W1 := (chips_ok C W m).1
      have l1 := (chips_ok C W m).2.1
      have s1 := hits_sum (chips_ok C W m).2.2.1
      have en := hm ▸ (rfl : chipsP gs a b p rs n.toNat = chipsP gs a b p rs n.toNat)
      rw [hm] at L23 Q18 a1 a2 ⊢
      have ec : chipsP gs a b p rs (m + 1) = ((chipsP gs a b p rs m).1 ++ [if (chip1 gs a b p (chipsP gs a b p rs m).2.1).1.2 = a then 1 else 0], (chip1 gs a b p (chipsP gs a b p rs m).2.1).1.1, (chipsP gs a b p rs m).2.2 + ((chip1 gs a b p (chipsP gs a b p rs m).2.1).2 : Int)) := by rw [chipsP]
      rw [ec] at L23 Q18 a1 a2 ⊢
      (try simp only at L23 Q18 a1 a2 ⊢)
      have e1' : hAsk gs (chipsP gs a b p rs m).2.1 p a b 1 = true := hAsk_of C W1 (by omega) (by omega)
      refine k_RotorsBehind G23 R23 p a b (n - 1) _ fun u25 h25 q25 f25 => ⟨u25, _, rfl, hL23.of_no f25, ?_⟩
      rw [htsP_t e', em] at q25 ⊢
      (try simp only at q25 ⊢)
      have one : chipsP gs a b p (chipsP gs a b p rs m).2.1 (1 : Int).toNat = ([if (chip1 gs a b p (chipsP gs a b p rs m).2.1).1.2 = a then 1 else 0], (chip1 gs a b p (chipsP gs a b p rs m).2.1).1.1, ((chip1 gs a b p (chipsP gs a b p rs m).2.1).2 : Int)) := by
        show chipsP gs a b p (chipsP gs a b p rs m).2.1 (0 + 1) = _
        rw [chipsP, chipsP]
        simp
      refine k_HitList (G23.no f25) q25 p a b 1 _ fun u26 h26 q26 f26 => ⟨u26, _, rfl, (hL23.of_no f25).of_no f26, ?_⟩
      rw [htsP_t e1', one] at q26 ⊢
      (try simp only at q26 ⊢)
      have f2326 := f25.no_trans f26
      refine k_RotorsBehind (G23.no f2326) (q25.no f26) p a b 1 _ fun u27 h27 q27 f27 => ⟨u27, _, rfl, ((hL23.of_no f25).of_no f26).of_no f27, ?_⟩
      rw [htsP_t e1', one] at q27 ⊢
      (try simp only at q27 ⊢)
      have f2327 := f2326.no_trans f27
      refine k_HitsOf (G23.no f2327) (R23.no f2327) p a b (n - 1) _ fun h28 f28 => ⟨_, _, rfl, (((hL23.of_no f25).of_no f26).of_no f27).of_no f28, ?_⟩
      rw [htsP_t e', em]
      (try simp only)
      have f2328 := f2327.no_trans f28
      have hL28 := (((hL23.of_no f25).of_no f26).of_no f27).of_no f28
      have q28 := (q26.no f27).no f28
      have L28 := L23.no f2328
      have c26 := q28.get (i := 0) (by omega) (by simp)
      have ln26 := q28.len
      have lnl : ((chipsP gs a b p rs m).1 ++ [if (chip1 gs a b p (chipsP gs a b p rs m).2.1).1.2 = a then (1 : Int) else 0]).length = m + 1 := by rw [List.length_append, l1]; rfl
      have cL := L28.get (i := n - 1) (by omega) (by rw [lnl]; omega)
      have eL : ((chipsP gs a b p rs m).1 ++ [if (chip1 gs a b p (chipsP gs a b p rs m).2.1).1.2 = a then (1 : Int) else 0])[(n - 1).toNat]'(by rw [lnl]; omega) = if (chip1 gs a b p (chipsP gs a b p rs m).2.1).1.2 = a then 1 else 0 := by
        rw [List.getElem_append_right (by omega)]
        simp [em, l1]
      rw [eL] at cL
      refine ⟨fun e => by simp at e, fun _ => ⟨fun e => by simp at e, fun _ => ⟨fun e4 => ?_, fun _ => ?_⟩⟩⟩
      · have e4 := not_t e4
        simp only [decide_eq_false_iff_not] at e4
        rw [ln26] at e4
        simp at e4
      have i26 := q28.inb (i := 0) (by omega) (by simp)
      refine ⟨i26, _, c26, L28.inb (by omega) (by rw [lnl]; omega), _, cL, fun e => by simp at e, fun _ => ⟨fun e => by simp at e, fun _ => ?_⟩⟩
      refine k_wSame (q27.no f28) (Q18.no (f23.no_trans f2328)) _ ⟨_, rfl, hL28, cL, c26, fun e => by simp at e, fun _ => ⟨fun e => by simp at e, fun _ => ⟨i26, _, c26, fun e5 => ?_, fun _ => f2328⟩⟩⟩
      have e5 := not_t e5
      simp only [decide_eq_false_iff_not] at e5
      refine absurd ?_ e5
      rw [List.sum_append, List.sum_cons, List.sum_nil, Int.add_zero]
      exact w64_eq _ (by simp; split <;> omega) (by simp; split <;> omega)
    · have F1830 := f23.no_trans F30
      refine k_HitsOf (G18.no F1830) (R18.no F1830) p b a n _ fun h31 f31 => ⟨_, _, rfl, hL30.of_no f31, ?_⟩
      rw [htsP_t (hAsk_turn e)]
      refine ⟨fun e => by simp at e, fun _ => ⟨fun e4 => ?_, fun _ => F1830.no_trans f31⟩⟩
      have e4 := not_t e4
      simp only [decide_eq_false_iff_not] at e4
      refine absurd ?_ e4
      (try simp only)
      rw [(chips_turn C W n.toNat).2, w64_eq _ (by omega) (by omega)]
      omega
  · have F := F18.no_trans F32
    refine k_DrawHitBound (G1.no F) B1 _ fun t2 ts c d h33 T33 f33 => ⟨t2, c, d, rfl, hL32.of_no f33, fun b5 h35 _ f35 hL35 => ?_⟩
    have F35 := F.no_trans (f33.no_trans f35.in_nil)
    have T35 := T33.no f35.in_nil
    refine k_HitBound T35 c d _ fun h36 f36 => ⟨_, _, _, rfl, hL35.of_no f36, fun b6 h38 _ f38 hL38 => ?_⟩
    have f38 := f36.no_trans f38.in_nil
    refine k_spec_HitBound (T35.no f38) c d _ fun h39 f39 => ⟨_, _, _, rfl, hL38.of_no f39, fun _ => pop_req _ _ _ _ _ _ ⟨_, rfl, fun _ => ⟨fun _ b7 h41 _ f41 _ => ?_, fun e2 b7 h41 _ f41 _ => ?_⟩, fun e => by simp at e⟩, fun e => by simp at e⟩
    · exact HK h41 (F35.no_trans (f38.no_trans (f39.no_trans f41.in_nil)))
    · rw [decide_eq_true (bndP_told (not_f e2))]
      exact HK h41 (F35.no_trans (f38.no_trans (f39.no_trans f41.in_nil)))
end Go.Proofs.Ytgiamamfnpklkaa
