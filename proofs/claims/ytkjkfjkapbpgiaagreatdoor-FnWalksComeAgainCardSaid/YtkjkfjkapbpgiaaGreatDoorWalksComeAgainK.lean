import Derived.Test.YtkjkfjkapbpgiaaGreatDoorWalksComeAgainK1
set_option linter.unusedVariables false
set_option linter.unusedSimpArgs false
namespace Go.Proofs.YtkjkfjkapbpgiaaGreatDoor
open Go Go.Mx
theorem k_waStep2 {S S' : Nat -> Prop} {h : Heap} {g w : Sl} {xss : List (List Int)} {s : St} (G : RdR S h g xss) (H : RdI S' h w s.1) (W : WOK xss s) {p : Int} (hp : p = s.2) (K : Value -> Heap -> Prop) (HK : ∀ (t : Sl) h', RdI (fun k => S' k ∨ h.size ≤ k) h' t ((stepP xss s).getD s).1 -> Fr No h h' -> K (.tuple #[.agg #[t.v, VI ((stepP xss s).getD s).2], VB (stepP xss s).isSome]) h') : callM Tryz.prog 105 #[.agg #[g.v], .agg #[w.v, VI p]] h K := by
  subst hp
  refine k_waStep G H W _ (fun hn h' f => ?_) (fun s' hs t h' o f => ?_)
  · have := HK w h' (by rw [hn]; exact (H.no f).mono fun k hk => .inl hk) f
    rw [hn] at this
    exact this
  · have := HK t h' (by rw [hs]; exact RdV.mono o.rdF fun k hk => .inr hk.1) f
    rw [hs] at this
    exact this
theorem sq_wok_ {g : List (List Int)} {s : St} (W : WOK g s) : ∀ {n : Nat} {t : St}, sq g s n = some t -> WOK g t
  | 0, t, h => by rw [sq] at h; cases h; exact W
  | n + 1, t, h => by
    rw [sq] at h
    cases hn : sq g s n with
    | none => rw [hn] at h; cases h
    | some u => rw [hn] at h; exact (sq_wok_ W hn).step h
theorem again_sq {g : List (List Int)} {s0 : St} : ∀ (f n : Nat) (s : St), f + n = 2001 -> sq g s0 n = some s -> (∀ j, 1 ≤ j -> j < n -> sq g s0 j ≠ some s0) -> ((firstGo g (sameT s0.1 s0.2) 1 f (n : Int) () s).1 = 0 /\ ∀ j, 1 ≤ j -> j ≤ 2000 -> sq g s0 j ≠ some s0) ∨ ∃ a : Nat, (firstGo g (sameT s0.1 s0.2) 1 f (n : Int) () s).1 = (a : Int) /\ 1 ≤ a /\ a ≤ 2000 /\ sq g s0 a = some s0 /\ ∀ j, 1 ≤ j -> j < a -> sq g s0 j ≠ some s0
  | 0, n, s, hn, hs, hj => .inl ⟨rfl, fun j h1 h2 => hj j h1 (by omega)⟩
  | f + 1, n, s, hn, hs, hj => by
    rw [firstGo]
    have stop : stepP g s = none -> (1 ≤ n -> s ≠ s0) -> ∀ j, 1 ≤ j -> j ≤ 2000 -> sq g s0 j ≠ some s0 := fun he hne j h1 h2 hc => by
      by_cases h3 : j < n
      · exact hj j h1 h3 hc
      · by_cases h4 : j = n
        · rw [h4, hs] at hc
          exact hne (by omega) (Option.some.inj hc)
        · have : sq g s0 (n + 1) = none := by rw [sq, hs]; exact he
          have := sq_none this (j - (n + 1))
          rw [show n + 1 + (j - (n + 1)) = j by omega] at this
          rw [this] at hc; cases hc
    have next : ∀ s', stepP g s = some s' -> (1 ≤ n -> s ≠ s0) -> (∀ j, 1 ≤ j -> j < n + 1 -> sq g s0 j ≠ some s0) := fun s' he hne j h1 h2 => by
      by_cases h3 : j < n
      · exact hj j h1 h3
      · have : j = n := by omega
        subst this
        rw [hs]
        exact fun hc => hne (by omega) (Option.some.inj hc)
    by_cases h1 : (1 : Int) ≤ (n : Int)
    · rw [if_pos h1]
      by_cases h2 : (sameT s0.1 s0.2 () s).1 = true
      · rw [if_pos h2]
        have e : s = s0 := by
          simp only [sameT, decide_eq_true_eq] at h2
          exact Prod.ext h2.2.symm h2.1.symm
        exact .inr ⟨n, rfl, by omega, by omega, by rw [hs, e], hj⟩
      · rw [if_neg h2]
        have hne : s ≠ s0 := fun e => h2 (by simp [sameT, e])
        cases he : stepP g s with
        | none => exact .inl ⟨rfl, stop he fun _ => hne⟩
        | some s' =>
          have := again_sq f (n + 1) s' (by omega) (by rw [sq, hs]; exact he) (next s' he fun _ => hne)
          simpa using this
    · rw [if_neg h1]
      cases he : stepP g s with
      | none => exact .inl ⟨rfl, stop he fun h => absurd h (by omega)⟩
      | some s' =>
        have := again_sq f (n + 1) s' (by omega) (by rw [sq, hs]; exact he) (next s' he fun h => absurd h (by omega))
        simpa using this
theorem again_rho {g : List (List Int)} {s0 s : St} {m n a : Nat} (R : Rho g s0 m n) (ha : m ≤ a) (hs : sq g s0 a = some s) : ((firstGo g (sameT s.1 s.2) 1 2001 0 () s).1 = 0 /\ 2000 < n - m) ∨ ((firstGo g (sameT s.1 s.2) 1 2001 0 () s).1 = ((n - m : Nat) : Int) /\ n - m ≤ 2000) := by
  have hlt := R.lt
  have key : ∀ j, sq g s j = sq g s0 (a + j) := fun j => by rw [sq_add, hs]; rfl
  have iff_ : ∀ j, 1 ≤ j -> (sq g s j = some s ↔ j % (n - m) = 0) := fun j hj => by
    rw [key, ← hs]
    have := R.iff (a := a) (b := a + j) (by omega)
    rw [show a + j - a = j by omega] at this
    constructor
    · intro h; exact (this.1 h.symm).2
    · intro h; exact (this.2 ⟨ha, h⟩).symm
  rcases again_sq (g := g) (s0 := s) 2001 0 s rfl rfl (fun j h1 h2 => by omega) with ⟨h1, h2⟩ | ⟨b, h1, h2, h3, h4, h5⟩
  · refine .inl ⟨h1, ?_⟩
    by_cases hc : n - m ≤ 2000
    · exact absurd ((iff_ (n - m) (by omega)).2 (Nat.mod_self _)) (h2 (n - m) (by omega) hc)
    · omega
  · have hb := (iff_ b h2).1 h4
    have hle : n - m ≤ b := by
      by_cases hc : n - m ≤ b
      · exact hc
      · rw [Nat.mod_eq_of_lt (by omega)] at hb; omega
    have heq : n - m = b := by
      by_cases hc : n - m < b
      · exact absurd ((iff_ (n - m) (by omega)).2 (Nat.mod_self _)) (h5 (n - m) (by omega) hc)
      · omega
    exact .inr ⟨h1.trans (by rw [heq]), by omega⟩
theorem wp_tail3 {S' : Nat -> Prop} {h : Heap} {g w : Sl} {xss : List (List Int)} {rs : List Int} {p : Int} {m n : Nat} (R : Rho xss (rs, p) m n) {K : Value -> Heap -> Prop} (HN : (∀ m k, Rho xss (rs, p) m k -> 2000 < k) -> ∀ h', Fr No h h' -> K (.tuple #[VI 0, .agg #[w.v, VI p], VI 0]) h') (HS : ∀ m k s, Rho xss (rs, p) m k -> k ≤ 2000 -> sq xss (rs, p) m = some s -> ∀ t h', RdI (fun k => S' k ∨ h.size ≤ k) h' t s.1 -> Fr No h h' -> K (.tuple #[VI m, .agg #[t.v, VI s.2], VI ((k : Int) - m)]) h') {b1 b2 b3 b4 b5 b13 b14 : Nat} (hb3 : h.size ≤ b3) {X : Heap} (fX : Fr (fun k => h.size ≤ k) h X) {x5 x7 x15 x17 : Sl} {x6 x8 x16 : Int} {i : Nat} {s : St} (hs : sq xss (rs, p) i = some s) (hi : i = m ∨ i = 2001 /\ 2000 < n) (Q : RdI (fun k => (S' k /\ k < h.size) ∨ (h.size ≤ k /\ k ≠ b3)) X x17 s.1) (hi2 : i ≤ 2001) (hper : n - m ≤ 2000) : w86_3 Tryz.prog (i : Int) ((n - m : Nat) : Int) b3 X b14 x15 x16 b13 x17 s.2 b5 x5 x6 b4 x7 x8 w p b2 b1 g K := by
  have hlt := R.lt
  unfold w86_3
  rw [w64_eq _ (by omega) (by omega)]
  have no_ : ∀ {Y : Heap}, Fr (In [b3]) X Y -> Fr No h Y := fun f => (fX.trans (f.mono fun k _ hk => by simp [In] at hk; omega)).mono fun k hk hk2 => absurd hk2 (by omega)
  refine ⟨fun e Y fY hL => ?_, fun e Y fY hL => ?_⟩
  · simp only [decide_eq_true_eq] at e
    refine HN (fun m' k' R' => ?_) Y (no_ fY)
    obtain ⟨rfl, rfl⟩ := R.uniq R'
    rcases hi with rfl | ⟨_, h2⟩
    · omega
    · exact h2
  · simp only [decide_eq_false_iff_not] at e
    rcases hi with rfl | ⟨rfl, h2⟩
    · have := HS i n s R (by omega) hs x17 Y ((Q.fr fY fun k hk hk2 => by simp [In] at hk2; rcases hk with hk | hk <;> omega).mono fun k hk => by rcases hk with hk | hk; exact .inl hk.1; exact .inr hk.1) (no_ fY)
      rw [show ((n - i : Nat) : Int) = (n : Int) - i by omega]
      exact this
    · omega
set_option maxHeartbeats 4000000 in
theorem wp_tail2 {S S' : Nat -> Prop} {h : Heap} {g w : Sl} {xss : List (List Int)} {rs : List Int} {p : Int} (G : RdR S h g xss) (H : RdI S' h w rs) (W : WOK xss (rs, p)) {K : Value -> Heap -> Prop} (HN : (∀ m k, Rho xss (rs, p) m k -> 2000 < k) -> ∀ h', Fr No h h' -> K (.tuple #[VI 0, .agg #[w.v, VI p], VI 0]) h') (HS : ∀ m k s, Rho xss (rs, p) m k -> k ≤ 2000 -> sq xss (rs, p) m = some s -> ∀ t h', RdI (fun k => S' k ∨ h.size ≤ k) h' t s.1 -> Fr No h h' -> K (.tuple #[VI m, .agg #[t.v, VI s.2], VI ((k : Int) - m)]) h') {b1 b2 b3 b4 b5 : Nat} (hb : h.size ≤ b1 /\ h.size ≤ b2 /\ h.size ≤ b3 /\ h.size ≤ b4 /\ h.size ≤ b5) {X : Heap} (fX : Fr (fun k => h.size ≤ k) h X) {T : Nat -> Prop} {x5 x7 : Sl} {x6 : Int} {a : Nat} {s : St} (met : Bool) (hs : sq xss (rs, p) a = some s) (Q : RdI T X x7 s.1) (hmet : met = true -> 1 ≤ a /\ sq xss (rs, p) a = sq xss (rs, p) (2 * a)) (hL : Vars X [(b5, [x5.v, VI x6]), (b4, [x7.v, VI s.2]), (b3, [nilSl.v, VI 0]), (b2, [w.v, VI p]), (b1, [g.v])]) : w86_2 Tryz.prog met g x7 s.2 X b5 x5 x6 b4 b3 b2 w p b1 K := by
  unfold w86_2
  obtain ⟨hb1, hb2, hb3, hb4, hb5⟩ := hb
  have zX := fX.size
  have wl := W.len
  have G0 : RdR (fun k => S k /\ k < h.size) h g xss := G.lowS
  have H0 : RdI (fun k => S' k /\ k < h.size) h w rs := RdV.lt H
  intro e
  have hm := hmet (by simpa using e)
  obtain ⟨m, n, hn, R⟩ := rho_of (g := xss) (s := (rs, p)) (2 * a) (a := a) (by omega) hm.2 (by rw [hs]; exact fun h => by cases h)
  have hlt := R.lt
  have hma : m ≤ a := ((R.iff (a := a) (b := 2 * a) (by omega)).1 hm.2).1
  have Ws : WOK xss s := sq_wok_ W hs
  have GX : RdR (fun k => S k /\ k < h.size) X g xss := G0.fr fX fun k hk hk2 => by omega
  have nofin : ∀ {Y : Heap}, Fr (fun k => h.size ≤ k) h Y -> Fr No h Y := fun f => f.mono fun k hk hk2 => absurd hk2 (by omega)
  have up : ∀ {Y Z : Heap} {l : List Nat}, (∀ k, k ∈ l -> h.size ≤ k) -> Fr (In l) Y Z -> Fr (fun k => h.size ≤ k) Y Z := fun hl f => f.mono fun k _ hk => hl k hk
  have all := R.all
  refine k_waAgain GX (show RdI T X x7 (s.1, s.2).1 from Q) s.2 Ws _ fun h29 f29 => ⟨_, rfl, hL.of_no f29, fun e1 h30 f30 hL30 => ?_, fun e1 => ?_⟩
  · have f029 := fX.trans f29.of_no
    refine HN (fun m' k' R' => ?_) h30 (nofin (f029.trans (f30.mono fun k _ hk => by simp [In] at hk; omega)))
    obtain ⟨rfl, rfl⟩ := R.uniq R'
    simp only [decide_eq_true_eq] at e1
    rcases again_rho R hma hs with ⟨_, h2⟩ | ⟨h1, h2⟩
    · omega
    · rw [show ((s.1, s.2) : St) = s from rfl] at e1; rw [h1] at e1; omega
  simp only [decide_eq_false_iff_not] at e1
  have hper : (firstGo xss (sameT s.1 s.2) 1 2001 0 () (s.1, s.2)).1 = ((n - m : Nat) : Int) /\ n - m ≤ 2000 := by
    rcases again_rho R hma hs with ⟨h1, h2⟩ | h
    · exact absurd h1 e1
    · exact h
  rw [hper.1]
  have hper := hper.2
  have f029 := fX.trans f29.of_no
  have z29 := f029.size
  have hL29 := hL.of_no f29
  refine ⟨fun b13 x9 x10 b14 x11 x12 h' => x9 = w /\ x10 = p /\ x11 = w /\ x12 = p /\ h29.size ≤ b13 /\ h29.size ≤ b14 /\ Fr (fun k => h.size ≤ k) h h', ⟨fun b15 h31 hb15 f31 hL31 b16 h32 hb16 f32 hL32 h33 f33 hL33 h34 f34 hL34 => ?_, fun b17 h35 hb17 f35 hL35 b18 h36 hb18 f36 hL36 h37 f37 hL37 h38 f38 hL38 => ?_⟩, ?_⟩
  · have := f31.size
    exact ⟨rfl, rfl, rfl, rfl, hb15, by omega, (((f029.trans f31.in_nil.of_no).trans f32.in_nil.of_no).trans (f33.mono fun k _ hk => by simp [In] at hk; omega)).trans (f34.mono fun k _ hk => by simp [In] at hk; omega)⟩
  · have := f35.size
    exact ⟨rfl, rfl, rfl, rfl, by omega, hb17, (((f029.trans f35.in_nil.of_no).trans f36.in_nil.of_no).trans (f37.mono fun k _ hk => by simp [In] at hk; omega)).trans (f38.mono fun k _ hk => by simp [In] at hk; omega)⟩
  rintro b13 x9 x10 b14 x11 x12 h39 ⟨rfl, rfl, rfl, rfl, hb13, hb14, f39⟩ hL39
  have z39 := f39.size
  have l14 : b14 < h39.size := hL39.head.lt
  have l13 : b13 < h39.size := hL39.tail.head.lt
  have l3 : b3 < h39.size := hL39.tail.tail.tail.tail.head.lt
  have inc : ∀ {k : Nat}, ((S' k /\ k < h.size) ∨ h39.size ≤ k) -> (S' k /\ k < h.size) ∨ (h.size ≤ k /\ k ≠ b3) := fun hk => by
    rcases hk with hk | hk
    · exact .inl hk
    · exact .inr (by omega)
  have H39 : RdI (fun k => (S' k /\ k < h.size) ∨ h39.size ≤ k) h39 x11 rs := (H0.fr f39 fun k hk hk2 => by omega).mono fun k hk => .inl hk
  refine ⟨fun n2 i x q h' => ∃ (j : Nat) (t : St), i = (j : Int) /\ n2 + j = n - m /\ sq xss (rs, x12) j = some t /\ q = t.2 /\ RdI (fun k => (S' k /\ k < h.size) ∨ h39.size ≤ k) h' x t.1 /\ Fr (fun k => h.size ≤ k) h h' /\ h39.size ≤ h'.size, ⟨n - m, 0, (rs, x12), rfl, rfl, rfl, rfl, H39, f39, Nat.le_refl _⟩, ?_⟩
  rintro n2 i x q h40 ⟨j, t, rfl, ej, hj, rfl, Q40, f40, z40⟩ hL40
  have Wt : WOK xss t := sq_wok_ W hj
  have G40 : RdR (fun k => S k /\ k < h.size) h40 g xss := G0.fr f40 fun k hk hk2 => by omega
  refine ⟨fun e2 => ?_, fun e2 => ?_⟩
  · simp only [decide_eq_true_eq] at e2
    refine k_waStep2 G40 Q40 Wt rfl _ fun y h41 Y41 f41 => ⟨y, _, _, rfl, hL40.of_no f41, fun h42 f42 hL42 => ?_⟩
    have z41 := f41.size
    rw [w64_eq _ (by omega) (by omega)]
    have hst : stepP xss t ≠ none := fun hh => all (j + 1) (by rw [sq, hj]; exact hh)
    obtain ⟨t', ht'⟩ := Option.ne_none_iff_exists'.1 hst
    rw [ht'] at Y41 ⊢
    simp only [Option.getD_some] at Y41 ⊢
    refine ⟨n2 - 1, by omega, j + 1, t', by omega, by omega, by rw [sq, hj]; exact ht', rfl, (Y41.fr f42 fun k hk hk2 => by simp [In] at hk2; rcases hk with (hk | hk) | hk <;> omega).mono fun k hk => by rcases hk with hk | hk; exact hk; exact .inr (by omega), (f40.trans f41.of_no).trans (f42.mono fun k _ hk => by simp [In] at hk; omega), by have := f42.size; omega⟩
  simp only [decide_eq_false_iff_not] at e2
  have ej2 : j = n - m := by omega
  subst ej2
  have H40 : RdI (fun k => (S' k /\ k < h.size) ∨ h39.size ≤ k) h40 x11 rs := (H0.fr f40 fun k hk hk2 => by omega).mono fun k hk => .inl hk
  refine ⟨fun n3 st y q2 z q3 h' => ∃ (i : Nat) (u v : St), st = (i : Int) /\ n3 + i = 2001 /\ sq xss (rs, x12) i = some u /\ sq xss (rs, x12) (i + (n - m)) = some v /\ q3 = u.2 /\ q2 = v.2 /\ RdI (fun k => (S' k /\ k < h.size) ∨ h39.size ≤ k) h' z u.1 /\ RdI (fun k => (S' k /\ k < h.size) ∨ h39.size ≤ k) h' y v.1 /\ (∀ j, j < i -> j < m) /\ Fr (fun k => h.size ≤ k) h h' /\ h39.size ≤ h'.size, ⟨2001, 0, (rs, x12), t, rfl, rfl, rfl, by rw [Nat.zero_add]; exact hj, rfl, rfl, H40, Q40, fun j hj => by omega, f40, z40⟩, ?_⟩
  rintro n3 st y q2 z q3 h43 ⟨i, u, v, rfl, en3, hu, hv, rfl, rfl, Z43, Y43, hmin, f43, z43⟩ hL43
  have Wu : WOK xss u := sq_wok_ W hu
  have Wv : WOK xss v := sq_wok_ W hv
  have same_iff : (u.2 = v.2 /\ u.1 = v.1) ↔ m ≤ i := by
    have h1 := R.iff (a := i) (b := i + (n - m)) (by omega)
    rw [hu, hv, show i + (n - m) - i = n - m by omega, Nat.mod_self] at h1
    constructor
    · intro hh; exact (h1.1 (congrArg some (Prod.ext hh.2 hh.1))).1
    · intro hh
      have := Option.some.inj (h1.2 ⟨hh, rfl⟩)
      rw [this]; exact ⟨rfl, rfl⟩
  refine k_waSame Z43 Y43 u.2 v.2 _ fun h44 f44 => ⟨_, rfl, hL43.of_no f44, fun e3 => ⟨fun e4 => ?_, fun e4 => ?_⟩, fun e3 => ?_⟩
  · have hL44 := hL43.of_no f44
    have z44 := f44.size
    simp only [Bool.not_eq_true', decide_eq_false_iff_not, same_iff] at e3
    simp only [decide_eq_true_eq] at e4
    have f044 := f43.trans f44.of_no
    have G44 : RdR (fun k => S k /\ k < h.size) h44 g xss := G0.fr f044 fun k hk hk2 => by omega
    refine k_waStep2 G44 (Z43.no f44) Wu rfl _ fun z' h45 Z45 f45 => ⟨z', _, _, rfl, hL44.of_no f45, fun h46 f46 hL46 => ?_⟩
    have z45 := f45.size
    have f046 := (f044.trans f45.of_no).trans (f46.mono fun k _ hk => by simp [In] at hk; omega)
    have z46 := f46.size
    have G46 : RdR (fun k => S k /\ k < h.size) h46 g xss := G0.fr f046 fun k hk hk2 => by omega
    have Y46 := ((Y43.no f44).no f45).fr f46 fun k hk hk2 => by simp [In] at hk2; rcases hk with hk | hk <;> omega
    refine k_waStep2 G46 Y46 Wv rfl _ fun y' h47 Y47 f47 => ⟨y', _, _, rfl, hL46.of_no f47, fun h48 f48 hL48 => ?_⟩
    have z47 := f47.size
    have z48 := f48.size
    have hsu : stepP xss u ≠ none := fun hh => all (i + 1) (by rw [sq, hu]; exact hh)
    have hsv : stepP xss v ≠ none := fun hh => all (i + (n - m) + 1) (by rw [sq, hv]; exact hh)
    obtain ⟨u', hu'⟩ := Option.ne_none_iff_exists'.1 hsu
    obtain ⟨v', hv'⟩ := Option.ne_none_iff_exists'.1 hsv
    rw [hu'] at Z45 ⊢
    rw [hv'] at Y47 ⊢
    simp only [Option.getD_some] at Z45 Y47 ⊢
    rw [w64_eq _ (by omega) (by omega)]
    refine ⟨n3 - 1, by omega, i + 1, u', v', by omega, by omega, by rw [sq, hu]; exact hu', by rw [show i + 1 + (n - m) = i + (n - m) + 1 by omega, sq, hv]; exact hv', rfl, rfl, ?_, ?_, fun j hj => by omega, ?_, by omega⟩
    · have a1 := (Z45.fr f46 fun k hk hk2 => by simp [In] at hk2; rcases hk with (hk | hk) | hk <;> omega).no f47
      exact (a1.fr f48 fun k hk hk2 => by simp [In] at hk2; rcases hk with (hk | hk) | hk <;> omega).mono fun k hk => by rcases hk with hk | hk; exact hk; exact .inr (by omega)
    · exact (Y47.fr f48 fun k hk hk2 => by simp [In] at hk2; rcases hk with (hk | hk) | hk <;> omega).mono fun k hk => by rcases hk with hk | hk; exact hk; exact .inr (by omega)
    · exact (f046.trans f47.of_no).trans (f48.mono fun k _ hk => by simp [In] at hk; omega)
  · simp only [Bool.not_eq_true', decide_eq_false_iff_not, same_iff] at e3
    simp only [decide_eq_false_iff_not] at e4
    exact wp_tail3 R HN HS hb3 (f43.trans f44.of_no) hu (.inr ⟨by omega, by omega⟩) ((Z43.no f44).mono fun k hk => inc hk) (by omega) hper
  · simp only [Bool.not_eq_false', decide_eq_true_eq, same_iff] at e3
    have him : i = m := by
      by_cases hc : m < i
      · have := hmin m hc; omega
      · omega
    exact wp_tail3 R HN HS hb3 (f43.trans f44.of_no) hu (.inl him) ((Z43.no f44).mono fun k hk => inc hk) (by omega) hper
set_option maxHeartbeats 4000000 in
theorem k_waPeriod {S S' : Nat -> Prop} {h : Heap} {g w : Sl} {xss : List (List Int)} {rs : List Int} {p : Int} (G : RdR S h g xss) (H : RdI S' h w rs) (W : WOK xss (rs, p)) (K : Value -> Heap -> Prop) (HN : (∀ m k, Rho xss (rs, p) m k -> 2000 < k) -> ∀ h', Fr No h h' -> K (.tuple #[VI 0, .agg #[w.v, VI p], VI 0]) h') (HS : ∀ m k s, Rho xss (rs, p) m k -> k ≤ 2000 -> sq xss (rs, p) m = some s -> ∀ t h', RdI (fun k => S' k ∨ h.size ≤ k) h' t s.1 -> Fr No h h' -> K (.tuple #[VI m, .agg #[t.v, VI s.2], VI ((k : Int) - m)]) h') : callM Tryz.prog 86 #[.agg #[g.v], .agg #[w.v, VI p]] h K := by
  refine x86 g w p h K ?_
  unfold w86
  intro b1 b2 b3 h3 hb1 hb2 hb3 f3 hL3
  have f3 := f3.in_nil
  have z3 := f3.size
  have G0 : RdR (fun k => S k /\ k < h.size) h g xss := G.lowS
  have H0 : RdI (fun k => S' k /\ k < h.size) h w rs := RdV.lt H
  have nofin : ∀ {Y : Heap}, Fr (fun k => h.size ≤ k) h Y -> Fr No h Y := fun f => f.mono fun k hk hk2 => absurd hk2 (by omega)
  refine ⟨fun b4 x1 x2 b5 x3 x4 h' => x1 = w /\ x2 = p /\ x3 = w /\ x4 = p /\ h3.size ≤ b4 /\ h3.size ≤ b5 /\ Fr (fun k => h.size ≤ k) h h', ⟨fun b15 h31 hb15 f31 hL31 b16 h32 hb16 f32 hL32 h33 f33 hL33 h34 f34 hL34 => ?_, fun b17 h35 hb17 f35 hL35 b18 h36 hb18 f36 hL36 h37 f37 hL37 h38 f38 hL38 => ?_⟩, ?_⟩
  · have := f31.size
    exact ⟨rfl, rfl, rfl, rfl, hb15, by omega, (((f3.of_no.trans f31.in_nil.of_no).trans f32.in_nil.of_no).trans (f33.mono fun k _ hk => by simp [In] at hk; omega)).trans (f34.mono fun k _ hk => by simp [In] at hk; omega)⟩
  · have := f35.size
    exact ⟨rfl, rfl, rfl, rfl, by omega, hb17, (((f3.of_no.trans f35.in_nil.of_no).trans f36.in_nil.of_no).trans (f37.mono fun k _ hk => by simp [In] at hk; omega)).trans (f38.mono fun k _ hk => by simp [In] at hk; omega)⟩
  rintro b4 x1 x2 b5 x3 x4 h12 ⟨rfl, rfl, rfl, rfl, hb4, hb5, f12⟩ hL12
  have z12 := f12.size
  have l5 : b5 < h12.size := hL12.head.lt
  have l4 : b4 < h12.size := hL12.tail.head.lt
  have l3 : b3 < h12.size := hL12.tail.tail.head.lt
  have H12 : RdI (fun k => (S' k /\ k < h.size) ∨ h12.size ≤ k) h12 x3 rs := (H0.fr f12 fun k hk hk2 => by omega).mono fun k hk => .inl hk
  refine ⟨fun n met n10 x5 x6 x7 x8 h' => ∃ (a : Nat) (s t : St), n10 = (a : Int) + 1 /\ n + a = 2000 /\ sq xss (rs, x4) a = some s /\ sq xss (rs, x4) (2 * a) = some t /\ x8 = s.2 /\ x6 = t.2 /\ RdI (fun k => (S' k /\ k < h.size) ∨ h12.size ≤ k) h' x7 s.1 /\ RdI (fun k => (S' k /\ k < h.size) ∨ h12.size ≤ k) h' x5 t.1 /\ (met = true -> 1 ≤ a /\ s = t) /\ (met = false -> ∀ j, 1 ≤ j -> j ≤ a -> sq xss (rs, x4) j ≠ sq xss (rs, x4) (2 * j)) /\ Fr (fun k => h.size ≤ k) h h' /\ h12.size ≤ h'.size, ⟨2000, 0, (rs, x4), (rs, x4), rfl, rfl, rfl, rfl, rfl, rfl, H12, H12, fun e => (by cases e), fun _ j h1 h2 => by omega, f12, Nat.le_refl _⟩, ?_⟩
  rintro n met n10 x5 x6 x7 x8 h13 ⟨a, s, t, rfl, en, hs, ht, rfl, rfl, Q13, P13, hm1, hm0, f13, z13⟩ hL13
  have Ws : WOK xss s := sq_wok_ W hs
  have Wt : WOK xss t := sq_wok_ W ht
  have bad : ∀ {X Y : Heap}, (∀ m k, Rho xss (rs, x4) m k -> 2000 < k) -> Fr (fun k => h.size ≤ k) h X -> Fr (In [b3]) X Y -> K (.tuple #[VI 0, .agg #[x3.v, VI x4], VI 0]) Y := fun hN f1 f2 => HN hN _ (nofin (f1.trans (f2.mono fun k _ hk => by simp [In] at hk; omega)))
  have tail2 : w86_2 Tryz.prog met g x7 s.2 h13 b5 x5 t.2 b4 b3 b2 x3 x4 b1 K := wp_tail2 G H W HN HS ⟨hb1, hb2, hb3, by omega, by omega⟩ f13 met hs Q13 (fun e => by obtain ⟨h1, h2⟩ := hm1 e; exact ⟨h1, by rw [hs, ht, h2]⟩) hL13
  rw [w64_eq (2 * ((a : Int) + 1)) (by omega) (by omega)]
  refine ⟨fun e => ⟨fun e2 => ?_, tail2⟩, fun e => ⟨fun e2 h53 f53 hL53 => ?_, tail2⟩⟩
  · simp only [decide_eq_true_eq] at e
    have hmf : met = false := by simpa using e2
    have G13 : RdR (fun k => S k /\ k < h.size) h13 g xss := G0.fr f13 fun k hk hk2 => by omega
    refine k_waStep2 G13 Q13 Ws rfl _ fun y h14 Y14 f14 => ⟨y, _, _, rfl, hL13.of_no f14, fun b10 h16 hb10 f16 hL16 => ?_⟩
    have f16 := f16.in_nil
    have z14 := f14.size
    have z16 := f16.size
    have f016 := (f13.trans f14.of_no).trans f16.of_no
    have G16 : RdR (fun k => S k /\ k < h.size) h16 g xss := G0.fr f016 fun k hk hk2 => by omega
    refine k_waStep2 G16 ((P13.no f14).no f16) Wt rfl _ fun z h17 Z17 f17 => ⟨z, _, _, rfl, hL16.of_no f17, fun e3 => ?_, fun e3 => ⟨fun e4 => ?_, fun e4 b11 h19 hb11 f19 hL19 => ?_⟩⟩
    · have hz : sq xss (rs, x4) (a + 1) = none := by
        rw [sq, hs]
        cases h5 : stepP xss s with
        | none => exact h5
        | some s' => rw [h5] at e3; cases e3
      unfold w86_1
      exact fun b11 h28 hb11 f28 hL28 => bad (fun m k R => absurd hz (R.all _)) (f016.trans f17.of_no) f28
    · have hz : sq xss (rs, x4) (2 * a + 1) = none := by
        rw [sq, ht]
        cases h5 : stepP xss t with
        | none => exact h5
        | some s' => rw [h5] at e4; cases e4
      unfold w86_1
      exact fun b11 h28 hb11 f28 hL28 => bad (fun m k R => absurd hz (R.all _)) (f016.trans f17.of_no) f28
    have f19 := f19.in_nil
    have z17 := f17.size
    have z19 := f19.size
    have f019 := (f016.trans f17.of_no).trans f19.of_no
    obtain ⟨s', hs'⟩ : ∃ s', stepP xss s = some s' := by
      cases h5 : stepP xss s with
      | none => rw [h5] at e3; cases e3
      | some s' => exact ⟨s', rfl⟩
    obtain ⟨t', ht'⟩ : ∃ t', stepP xss t = some t' := by
      cases h5 : stepP xss t with
      | none => rw [h5] at e4; cases e4
      | some s' => exact ⟨s', rfl⟩
    have W' := Wt.step ht'
    rw [hs'] at Y14 hL19 ⊢
    rw [ht'] at Z17 hL19 ⊢
    simp only [Option.getD_some] at Y14 Z17 hL19 ⊢
    have G19 : RdR (fun k => S k /\ k < h.size) h19 g xss := G0.fr f019 fun k hk hk2 => by omega
    refine k_waStep2 G19 (Z17.no f19) W' rfl _ fun z2 h21 Z21 f21 => ⟨z2, _, _, rfl, hL19.of_no f21, fun e5 b12 h24 hb12 f24 hL24 => ?_, fun e5 b12 h26 hb12 f26 hL26 => ?_⟩
    · have hz : sq xss (rs, x4) (2 * a + 2) = none := by
        rw [sq, sq, ht]
        show (stepP xss t).bind _ = none
        rw [ht']
        cases h5 : stepP xss t' with
        | none => exact h5
        | some s' => rw [h5] at e5; cases e5
      exact bad (fun m k R => absurd hz (R.all _)) (f019.trans f21.of_no) f24
    obtain ⟨t2, ht2⟩ : ∃ t2, stepP xss t' = some t2 := by
      cases h5 : stepP xss t' with
      | none => rw [h5] at e5; cases e5
      | some s' => exact ⟨s', rfl⟩
    rw [ht2] at Z21 hL26 ⊢
    simp only [Option.getD_some] at Z21 hL26 ⊢
    have z21 := f21.size
    have z26 := f26.size
    have off : ∀ k, ((S' k /\ k < h.size) ∨ h12.size ≤ k) -> ¬ In [b5, b4] k := fun k hk hk2 => by
      simp only [In, List.mem_cons, List.not_mem_nil, or_false] at hk2
      rcases hk with hk | hk <;> rcases hk2 with rfl | rfl <;> omega
    have Y26 : RdI (fun k => (S' k /\ k < h.size) ∨ h12.size ≤ k) h26 y s'.1 := (((((Y14.no f16).no f17).no f19).no f21).mono fun k hk => by rcases hk with hk | hk; exact hk; exact .inr (by omega)).fr f26 off
    have Z26 : RdI (fun k => (S' k /\ k < h.size) ∨ h12.size ≤ k) h26 z2 t2.1 := (Z21.mono fun k hk => by rcases hk with (hk | hk) | hk; exact hk; exact .inr (by omega); exact .inr (by omega)).fr f26 off
    have f026 := (f019.trans f21.of_no).trans (f26.mono fun k _ hk => by simp only [In, List.mem_cons, List.not_mem_nil, or_false] at hk; omega)
    refine k_waSame Y26 Z26 s'.2 t2.2 _ fun h27 f27 => ⟨_, rfl, hL26.of_no f27, ?_⟩
    have z27 := f27.size
    have hs1 : sq xss (rs, x4) (a + 1) = some s' := by rw [sq, hs]; exact hs'
    have ht1 : sq xss (rs, x4) (2 * (a + 1)) = some t2 := by
      rw [show 2 * (a + 1) = 2 * a + 1 + 1 by omega, sq, sq, ht]
      show ((stepP xss t).bind _) = _
      rw [ht']; exact ht2
    rw [w64_eq _ (by omega) (by omega)]
    refine ⟨n - 1, by omega, a + 1, s', t2, by omega, by omega, hs1, ht1, rfl, rfl, Y26.no f27, Z26.no f27, fun e6 => ?_, fun e6 j h1 h2 => ?_, f026.trans f27.of_no, by omega⟩
    · simp only [decide_eq_true_eq] at e6
      exact ⟨by omega, Prod.ext e6.2 e6.1⟩
    · simp only [decide_eq_false_iff_not] at e6
      by_cases hj : j ≤ a
      · exact hm0 hmf j h1 hj
      · have : j = a + 1 := by omega
        subst this
        rw [hs1, ht1]
        exact fun hh => by
          have := Option.some.inj hh
          rw [this] at e6
          exact e6 ⟨rfl, rfl⟩
  · simp only [decide_eq_false_iff_not] at e
    have hmf : met = false := by simpa using e2
    have ha : a = 2000 := by omega
    refine bad (fun m k R => ?_) f13 f53
    obtain ⟨j, j1, j2, _, j4⟩ := R.meets
    by_cases hc : k ≤ 2000
    · exact absurd j4 (hm0 hmf j j1 (by omega))
    · omega
def perOfP (g : List (List Int)) (rs : List Int) (p : Int) : Int × Int × Bool := if walkB g rs p then perP g (rs, p) else (0, 0, false)
theorem k_spec_PeriodOf {S S' : Nat -> Prop} {h : Heap} {g w : Sl} {xss : List (List Int)} {rs : List Int} (G : RdR S h g xss) (H : RdI S' h w rs) (p : Int) (K : Value -> Heap -> Prop) (HK : ∀ h', Fr No h h' -> K (.tuple #[VI (perOfP xss rs p).1, VI (perOfP xss rs p).2.1, VB (perOfP xss rs p).2.2]) h') : callM Tryz.prog 31 #[.agg #[g.v], .agg #[w.v, VI p]] h K := by
  unfold perOfP at HK
  refine v31 g w p h K fun b1 b2 h2 hb1 hb2 f2 hL2 => ?_
  have f2 := f2.in_nil
  refine k_spec_waGood (G.no f2) (H.no f2) p _ fun h3 f3 => ⟨_, rfl, hL2.of_no f3, fun e => ?_, fun e => ?_⟩
  · simp only [Bool.not_eq_true'] at e
    rw [e] at HK
    exact HK h3 (f2.trans f3)
  simp only [Bool.not_eq_false'] at e
  rw [if_pos e] at HK
  have W := wok_of e
  have f03 := f2.trans f3
  refine k_waPeriod (G.no f03) (H.no f03) W _ (fun hN h4 f4 => ⟨_, w, p, _, rfl, (hL2.of_no f3).of_no f4, fun _ b3 h6 hb3 f6 hL6 => ?_, fun e1 => by simp at e1⟩) (fun m k s R hk hs t h4 T4 f4 => ⟨_, t, s.2, _, rfl, (hL2.of_no f3).of_no f4, fun e1 => ?_, fun _ b3 h6 hb3 f6 hL6 => ?_⟩)
  · have := HK h6 ((f03.trans f4).trans f6.in_nil)
    rw [perP_no hN] at this
    exact this
  · have := R.lt
    simp only [decide_eq_true_eq] at e1
    omega
  · have := HK h6 ((f03.trans f4).trans f6.in_nil)
    rw [perP_yes R hk] at this
    exact this
theorem k_PeriodOf {S S' : Nat -> Prop} {h : Heap} {g w : Sl} {xss : List (List Int)} {rs : List Int} (G : RdR S h g xss) (H : RdI S' h w rs) (p : Int) (K : Value -> Heap -> Prop) (HK : ∀ h', Fr No h h' -> K (.tuple #[VI (perOfP xss rs p).1, VI (perOfP xss rs p).2.1, VB (perOfP xss rs p).2.2]) h') : callM Tryz.prog 30 #[.agg #[g.v], .agg #[w.v, VI p]] h K := by
  unfold perOfP at HK
  refine v30 g w p h K fun b1 b2 h2 hb1 hb2 f2 hL2 => ?_
  have f2 := f2.in_nil
  refine k_isWalk (G.no f2) (H.no f2) p _ fun h3 f3 => ⟨_, rfl, hL2.of_no f3, fun e => ?_, fun e => ?_⟩
  · simp only [Bool.not_eq_true'] at e
    rw [e] at HK
    exact HK h3 (f2.trans f3)
  simp only [Bool.not_eq_false'] at e
  rw [if_pos e] at HK
  have f03 := f2.trans f3
  exact k_period (G.no f03) (H.no f03) (wok_of e) _ fun h4 f4 => ⟨_, _, _, rfl, (hL2.of_no f3).of_no f4, HK h4 (f03.trans f4)⟩
theorem count_take_succ {x : Int} {xs : List Int} {i : Nat} (hi : i < xs.length) : (xs.take (i + 1)).count x = (xs.take i).count x + (if xs[i] = x then 1 else 0) := by
  rw [List.take_add_one, List.getElem?_eq_getElem hi, Option.toList_some, List.count_append, List.count_cons, List.count_nil]
  by_cases h : xs[i] = x <;> simp [h]
theorem k_grEntries {S : Nat -> Prop} {h : Heap} {g : Sl} {xss : List (List Int)} (G : RdR S h g xss) (hn : xss.length + totR xss ≤ 1000000000) (p : Int) : Ret Tryz.prog 141 #[.agg #[g.v], VI p] h (VI (xss.flatten.count p : Nat)) := by
  intro K HK
  have gn := G.len
  refine v141 g p h K fun b1 h1 hb1 f1 hL1 => ?_
  have f1 := f1.in_nil
  refine ⟨fun m c i h' => 0 ≤ i /\ i + m = (xss.length : Int) /\ c = ((((xss.take i.toNat).flatten.count p : Nat)) : Int) /\ Fr No h h', ⟨xss.length, by omega, by omega, by simp, f1⟩, ?_⟩
  rintro m c i h2 ⟨i0, i1, rfl, f2⟩ hL2
  have G2 := G.no f2
  refine ⟨fun e => ?_, fun e => ?_⟩
  · have hi := G2.lt e
    have hi2 : i.toNat < xss.length := by omega
    obtain ⟨si, c1, r1⟩ := G2.get i0 hi
    have sn := r1.len
    have tot : ∀ j, j ≤ xss.length -> (xss.take j).flatten.length ≤ totR xss := fun j _ => by
      have h1 : xss.flatten.length = totR xss := totR_flat xss
      rw [← List.take_append_drop j xss, List.flatten_append, List.length_append] at h1
      rw [List.take_append_drop] at h1
      omega
    have t1 := tot (i.toNat + 1) (by omega)
    rw [List.take_add_one, List.getElem?_eq_getElem hi2, Option.toList_some, List.flatten_append, List.length_append] at t1
    simp only [List.flatten_cons, List.flatten_nil, List.append_nil] at t1
    have cl : (xss.take i.toNat).flatten.count p ≤ (xss.take i.toNat).flatten.length := List.count_le_length
    refine ⟨G2.inb i0 hi, si, c1, fun m2 d j h' => 0 ≤ j /\ j + m2 = (xss[i.toNat].length : Int) /\ d = ((((xss.take i.toNat).flatten.count p + (xss[i.toNat].take j.toNat).count p : Nat)) : Int) /\ Fr No h2 h', ⟨xss[i.toNat].length, by omega, by omega, by simp, Fr.refl _ _⟩, ?_⟩
    rintro m2 d j h3 ⟨j0, j1, rfl, f3⟩ hL3
    have r3 := r1.no f3
    refine ⟨fun e2 => ?_, fun e2 => ?_⟩
    · have hj := r3.lt e2
      have hj2 : j.toNat < xss[i.toNat].length := by omega
      have cl2 : (xss[i.toNat].take j.toNat).count p ≤ (xss[i.toNat].take j.toNat).length := List.count_le_length
      rw [List.length_take] at cl2
      have cs := count_take_succ (x := p) hj2
      refine ⟨r3.inb j0 hj, _, r3.get j0 hj, fun e3 => ?_, fun e3 => ?_⟩
      · simp only [decide_eq_true_eq] at e3
        rw [if_pos e3] at cs
        rw [r3.succ j0 hj, w64_eq _ (by omega) (by omega)]
        exact ⟨m2 - 1, by omega, by omega, by omega, by rw [show (j + 1).toNat = j.toNat + 1 by omega, cs]; omega, f3⟩
      · simp only [decide_eq_false_iff_not] at e3
        rw [if_neg e3] at cs
        rw [r3.succ j0 hj]
        exact ⟨m2 - 1, by omega, by omega, by omega, by rw [show (j + 1).toNat = j.toNat + 1 by omega, cs]; omega, f3⟩
    · have hj := r3.ge e2
      rw [List.take_of_length_le (show xss[i.toNat].length ≤ j.toNat by omega), G2.succ i0 hi]
      refine ⟨m - 1, by omega, by omega, by omega, ?_, f2.no_trans f3⟩
      rw [show (i + 1).toNat = i.toNat + 1 by omega, List.take_add_one, List.getElem?_eq_getElem hi2, Option.toList_some, List.flatten_append, List.count_append]
      simp
  · have hi := G2.ge e
    rw [List.take_of_length_le (by omega)]
    exact HK h2 f2
theorem k_grBalanced {S : Nat -> Prop} {h : Heap} {g : Sl} {xss : List (List Int)} (G : RdR S h g xss) (hg : graphB xss = true) : Ret Tryz.prog 103 #[.agg #[g.v]] h (VB (balB xss)) := by
  intro K HK
  have hgl := graph_len hg
  have hgt := graph_tot hg
  refine v103 g h K fun b1 h1 hb1 f1 hL1 => ?_
  have f1 := f1.in_nil
  refine ⟨fun n i h' => 0 ≤ i /\ i + n = (xss.length : Int) /\ (∀ p : Nat, (p : Int) < i -> (xss.getD p []).length = xss.flatten.count (p : Int)) /\ Fr No h h', ⟨xss.length, by omega, by omega, fun p hp => by omega, f1⟩, ?_⟩
  rintro n i h2 ⟨i0, i1, hp, f2⟩ hL2
  have G2 := G.no f2
  have gn := G2.len
  refine ⟨fun e => ?_, fun e => ?_⟩
  · have hi := G2.lt e
    obtain ⟨si, c1, r1⟩ := G2.get i0 hi
    have sn := r1.len
    have eg : xss.getD i.toNat [] = xss[i.toNat]'(by omega) := getD_get (by omega)
    refine ⟨G2.inb i0 hi, si, c1, k_grEntries G2 (by omega) i _ fun h3 f3 => ⟨_, rfl, hL2.of_no f3, fun c => ?_, fun c => ?_⟩⟩
    · have c := not_t c
      simp only [decide_eq_false_iff_not] at c
      have : balB xss = false := by
        refine Bool.eq_false_iff.2 fun hs => ?_
        have := List.all_eq_true.1 hs i.toNat (by simpa using by omega)
        simp only [decide_eq_true_eq] at this
        rw [show ((i.toNat : Nat) : Int) = i by omega, eg] at this
        omega
      rw [this] at HK
      exact HK h3 (f2.no_trans f3)
    · have c := not_f c
      simp only [decide_eq_true_eq] at c
      rw [G2.succ i0 hi]
      refine ⟨n - 1, by omega, by omega, by omega, fun p hp' => ?_, f2.no_trans f3⟩
      by_cases hpi : (p : Int) < i
      · exact hp p hpi
      · have : p = i.toNat := by omega
        rw [this, eg, show ((i.toNat : Nat) : Int) = i by omega]; omega
  · have hi := G2.ge e
    have : balB xss = true := List.all_eq_true.2 fun p hpr => by
      simp only [decide_eq_true_eq]
      exact hp p (by have := List.mem_range.1 hpr; omega)
    rw [this] at HK
    exact HK h2 f2
theorem k_spec_grCount {S : Nat -> Prop} {h : Heap} {g : Sl} {xss : List (List Int)} (G : RdR S h g xss) (hn : xss.length + totR xss ≤ 1000000000) : Ret Tryz.prog 104 #[.agg #[g.v]] h (VI (totR xss : Nat)) := by
  intro K HK
  have gn := G.len
  refine v104 g h K fun b1 h1 hb1 f1 hL1 => ?_
  have f1 := f1.in_nil
  refine ⟨fun m c i h' => 0 ≤ i /\ i + m = (xss.length : Int) /\ c = ((totR (xss.take i.toNat) : Nat) : Int) /\ Fr No h h', ⟨xss.length, by omega, by omega, rfl, f1⟩, ?_⟩
  rintro m c i h2 ⟨i0, i1, rfl, f2⟩ hL2
  have G2 := G.no f2
  refine ⟨fun e => ?_, fun e => ?_⟩
  · have hi := G2.lt e
    have hi2 : i.toNat < xss.length := by omega
    obtain ⟨si, c1, r1⟩ := G2.get i0 hi
    have sn := r1.len
    have tot : ∀ j, totR (xss.take j) ≤ totR xss := fun j => by
      have h1 : totR (xss.take j ++ xss.drop j) = totR (xss.take j) + totR (xss.drop j) := by unfold totR; rw [List.map_append, List.sum_append]
      rw [List.take_append_drop] at h1
      omega
    have t1 := tot (i.toNat + 1)
    have t2 : totR (xss.take (i.toNat + 1)) = totR (xss.take i.toNat) + xss[i.toNat].length := by
      rw [List.take_add_one, List.getElem?_eq_getElem hi2, Option.toList_some]
      unfold totR
      rw [List.map_append, List.sum_append]
      rfl
    refine ⟨G2.inb i0 hi, si, c1, m - 1, by omega, ?_⟩
    rw [G2.succ i0 hi, w64_eq _ (by omega) (by omega)]
    exact ⟨by omega, by omega, by rw [show (i + 1).toNat = i.toNat + 1 by omega, t2]; omega, f2⟩
  · have hi := G2.ge e
    rw [List.take_of_length_le (by omega)]
    exact HK h2 f2
theorem sumN_map (f : List Int -> Nat) (g : List (List Int)) : ∀ n, n ≤ g.length -> sumN (fun i => f (g.getD i [])) n = ((g.take n).map f).sum
  | 0, _ => by simp [sumN]
  | n + 1, h => by
    rw [sumN, sumN_map f g n (by omega), List.take_add_one, List.getElem?_eq_getElem (show n < g.length by omega), Option.toList_some, List.map_append, List.sum_append, getD_get (show n < g.length by omega)]
    simp
theorem sumN_deg (g : List (List Int)) : sumN (degN g) g.length = totR g := by
  have := sumN_map List.length g g.length (Nat.le_refl _)
  rw [List.take_of_length_le (Nat.le_refl _)] at this
  exact this
theorem strong_all2 {g : List (List Int)} (hg : graphB g = true) : strongB g = true ↔ ∀ p q : Int, 0 ≤ p -> p < (g.length : Int) -> 0 ≤ q -> q < (g.length : Int) -> ∃ k, Way g p k q := by
  unfold strongB
  rw [range_all]
  have key : ∀ i : Nat, i < g.length -> ((farP g i).countP (fun x => decide (0 ≤ x)) = g.length ↔ ∀ q : Int, 0 ≤ q -> q < (g.length : Int) -> ∃ k, Way g i k q) := fun i hi => by
    have fl := (far_bq hg (p := i) (by omega) (by omega)).len
    rw [← fl, List.countP_eq_length]
    constructor
    · intro h q q0 q1
      refine (far_iff hg (by omega) (by omega) q0 (by omega)).1 ?_
      have := h _ (List.getElem_mem (show q.toNat < (farP g i).length by omega))
      rw [getD_getI (by omega)]
      simpa using this
    · intro h x hx
      obtain ⟨j, hj, e⟩ := List.getElem_of_mem hx
      have := (far_iff hg (p := i) (q := j) (by omega) (by omega) (by omega) (by omega)).2 (h j (by omega) (by omega))
      rw [show ((j : Int)).toNat = j by omega, getD_getI hj, e] at this
      simpa using this
  constructor
  · intro h p q p0 p1 q0 q1
    have := h p.toNat (by omega)
    rw [decide_eq_true_eq, key _ (by omega), show ((p.toNat : Nat) : Int) = p by omega] at this
    exact this q q0 q1
  · intro h i hi
    rw [decide_eq_true_eq, key i hi]
    exact fun q q0 q1 => h i q (by omega) (by omega) q0 q1
theorem balP_of {g : List (List Int)} (h : balB g = true) : BalP g := fun p hp => by
  have h1 := List.all_eq_true.1 h p (List.mem_range.2 hp)
  simp only [decide_eq_true_eq] at h1
  rw [h1, sumN_map (fun l => l.count (p : Int)) g g.length (Nat.le_refl _), List.take_of_length_le (Nat.le_refl _), List.count_flatten]
theorem strongP_of {g : List (List Int)} (hg : graphB g = true) (h : strongB g = true) : StrongP g := fun V hV p q hp hq hVp => by
  obtain ⟨k, hk⟩ := (strong_all2 hg).1 h (p : Int) (q : Int) (by omega) (by omega) (by omega) (by omega)
  have : ∀ (k : Nat) (x : Int), Way g (p : Int) k x -> V x.toNat /\ x.toNat < g.length := by
    intro k
    induction k with
    | zero => intro x hx; rw [← show (p : Int) = x from hx]; exact ⟨by simpa using hVp, by omega⟩
    | succ k ih =>
      intro x hx
      have rg := Way.rng hg (p := (p : Int)) (by omega) (by omega) hx
      obtain ⟨y, hy, hm⟩ := hx
      obtain ⟨v1, v2⟩ := ih y hy
      exact ⟨hV _ v2 v1 x hm, by omega⟩
  simpa using (this k q hk).1
theorem deg_of {g : List (List Int)} (hs : StrongP g) (ht : totR g ≠ 0) : ∀ p, p < g.length -> degN g p ≠ 0 := fun p hp h0 => by
  have hall := hs (fun q => q = p) (fun q hq hqp t htm => by
    subst hqp
    rw [List.length_eq_zero_iff.1 h0] at htm
    cases htm) p
  apply ht
  rw [← sumN_deg]
  have : ∀ n, n ≤ g.length -> sumN (degN g) n = 0 := by
    intro n
    induction n with
    | zero => intro _; rfl
    | succ n ih =>
      intro hn
      have e := hall n hp (by omega) rfl
      rw [sumN, ih (by omega), e]
      simpa using h0
  exact this _ (Nat.le_refl _)
theorem cnt_pos {g : List (List Int)} {s : St} {p : Nat} : ∀ {n : Nat}, cntA g s n p ≠ 0 -> ∃ i, i < n /\ posA g s i = (p : Int)
  | 0, h => absurd rfl h
  | n + 1, h => by
    rw [cntA] at h
    by_cases e : posA g s n = (p : Int)
    · exact ⟨n, by omega, e⟩
    · rw [if_neg e] at h
      obtain ⟨i, h1, h2⟩ := cnt_pos (n := n) (by omega)
      exact ⟨i, by omega, h2⟩
theorem eu_facts {g : List (List Int)} {s0 s : St} (hg : graphB g = true) (hs : strongB g = true) (hb : balB g = true) (ht : totR g ≠ 0) (W : WOK g s0) {m k : Nat} (R : Rho g s0 m k) (hm : sq g s0 m = some s) : k - m = totR g /\ ∀ p : Nat, p < g.length -> ∃ j, j < k - m /\ ∃ t, sq g s j = some t /\ t.2 = (p : Int) := by
  have hlt := R.lt
  have hS := strongP_of hg hs
  have hd := deg_of hS ht
  have Ws : WOK g s := sq_wok W hm
  have key : ∀ j, sq g s j = sq g s0 (m + j) := fun j => by rw [sq_add, hm]; rfl
  have hk : sq g s (k - m) = some s := by rw [key, show m + (k - m) = k by omega, ← R.eq, hm]
  obtain ⟨e1, e2, e3⟩ := euler Ws hS (balP_of hb) hd (n := k - m) (by omega) hk
  rw [sumN_deg] at e1 e2 e3
  have he : k - m = totR g := by
    have h1 := R.iff (a := m) (b := m + totR g) (by omega)
    have h2 := (h1.1 (by rw [hm, ← key, e1])).2
    rw [show m + totR g - m = totR g by omega] at h2
    have := Nat.le_of_dvd (by omega) (Nat.dvd_of_mod_eq_zero h2)
    omega
  refine ⟨he, fun p hp => ?_⟩
  have hc := e3 p hp
  obtain ⟨j, hj, hpos⟩ := cnt_pos (n := totR g) (p := p) (by rw [hc]; exact hd p hp)
  refine ⟨j, by omega, ?_⟩
  unfold posA at hpos
  cases hq : sq g s j with
  | none => rw [hq] at hpos; simp only at hpos; omega
  | some t => rw [hq] at hpos; exact ⟨t, rfl, hpos⟩
def tillL (g : List (List Int)) (p : Int) : Nat -> St -> St
  | 0, s => s
  | f + 1, s => if s.2 = p then s else match stepP g s with
    | none => s
    | some s' => tillL g p f s'
theorem till_eq {g : List (List Int)} {p : Int} : ∀ (j f : Nat) (s t : St), j ≤ f -> sq g s j = some t -> t.2 = p -> (∀ i, i < j -> ∀ u, sq g s i = some u -> u.2 ≠ p) -> tillL g p f s = t
  | 0, f, s, t, hf, h, hp, _ => by
    rw [sq] at h
    cases h
    cases f with
    | zero => rfl
    | succ f => rw [tillL, if_pos hp]
  | j + 1, 0, s, t, hf, h, hp, hn => by omega
  | j + 1, f + 1, s, t, hf, h, hp, hn => by
    rw [tillL, if_neg (hn 0 (by omega) s rfl)]
    cases he : stepP g s with
    | none =>
      have : sq g s 1 = none := by rw [sq, sq]; exact he
      have := sq_none this j
      rw [show 1 + j = j + 1 by omega, h] at this
      cases this
    | some s' =>
      have sh := sq_succ' g he
      exact till_eq j f s' t (by omega) (by rw [← sh]; exact h) hp fun i hi u hu => hn (i + 1) (by omega) u (by rw [sh]; exact hu)
theorem runT_sq (g : List (List Int)) : ∀ (n : Nat) (s : St), runT g (fun (_ : Unit) _ _ => ()) n () s = (sq g s n).map fun t => ((), t)
  | 0, s => rfl
  | n + 1, s => by
    rw [runT]
    cases he : stepP g s with
    | none =>
      have : sq g s 1 = none := by rw [sq, sq]; exact he
      have := sq_none this n
      rw [show 1 + n = n + 1 by omega] at this
      rw [this]; rfl
    | some s' => rw [sq_succ' g he, ← runT_sq g n s']
theorem pass_some {g : List (List Int)} : ∀ (n : Nat) (t : List Int) (s : St), sq g s n ≠ none -> ∃ L s', runT g passU n t s = some (L, s')
  | 0, t, s, _ => ⟨t, s, rfl⟩
  | n + 1, t, s, h => by
    rw [runT]
    cases he : stepP g s with
    | none =>
      exfalso
      have : sq g s 1 = none := by rw [sq, sq]; exact he
      have := sq_none this n
      rw [show 1 + n = n + 1 by omega] at this
      exact h this
    | some s' => exact pass_some n _ s' (by rw [← sq_succ' g he]; exact h)
def eulC (g : List (List Int)) (p : Int) : Bool := (graphB g && inR 0 ((g.length : Int) - 1) p) && (strongB g && (balB g && decide (totR g ≠ 0)))
def eulS (g : List (List Int)) (p : Int) : St := (List.replicate g.length 0, p)
def eulP (g : List (List Int)) (p : Int) : List Int × Bool :=
  if eulC g p then (if (perP g (eulS g p)).2.2 then (match runT g passU (totR g) [p] (tillL g p 2001 ((sq g (eulS g p) (perP g (eulS g p)).1.toNat).getD (eulS g p))) with
    | none => ([], false)
    | some (t, _) => (t, true)) else ([], false)) else ([], false)
theorem eul_wok {g : List (List Int)} {p : Int} (hg : graphB g = true) (h0 : 0 ≤ p) (h1 : p < (g.length : Int)) : WOK g (eulS g p) := ⟨hg, by simp [eulS], h0, h1, fun i h h' => by simp only [eulS, List.getElem_replicate]; omega⟩
theorem eul_no {g : List (List Int)} {p : Int} (hN : ∀ m k, Rho g (eulS g p) m k -> 2000 < k) : eulP g p = ([], false) := by
  unfold eulP
  split
  · rw [perP_no hN]; rfl
  · rfl
theorem eul_yes {g : List (List Int)} {p : Int} (hc : eulC g p = true) {m k : Nat} (R : Rho g (eulS g p) m k) (hk : k ≤ 2000) {s : St} (hm : sq g (eulS g p) m = some s) : WOK g s /\ k - m = totR g /\ ∃ J t, J < totR g /\ sq g s J = some t /\ t.2 = p /\ (∀ i, i < J -> ∀ u, sq g s i = some u -> u.2 ≠ p) /\ ∃ L t', runT g passU (totR g) [p] t = some (L, t') /\ eulP g p = (L, true) := by
  have hc' := hc
  unfold eulC at hc'
  simp only [Bool.and_eq_true, decide_eq_true_eq, inR_iff] at hc'
  obtain ⟨⟨hg, p0, p1⟩, hs, hb, ht⟩ := hc'
  have W := eul_wok hg p0 (show p < (g.length : Int) by omega)
  obtain ⟨e1, e2⟩ := eu_facts hg hs hb ht W R hm
  have hex : ∃ j, ∃ t, sq g s j = some t /\ t.2 = p := by
    obtain ⟨j, _, t, h1, h2⟩ := e2 p.toNat (by omega)
    exact ⟨j, t, h1, by omega⟩
  have hle := e2 p.toNat (by omega)
  obtain ⟨j0, hj0, t0, h1, h2⟩ := hle
  have : ∃ J, J ≤ j0 /\ (∃ t, sq g s J = some t /\ t.2 = p) /\ ∀ i, i < J -> ∀ u, sq g s i = some u -> u.2 ≠ p := by
    clear hex
    induction j0 using Nat.strongRecOn generalizing t0 with
    | ind j ih =>
      by_cases hx : ∃ i, i < j /\ ∃ u, sq g s i = some u /\ u.2 = p
      · obtain ⟨i, hi, u, hu, hup⟩ := hx
        obtain ⟨J, a1, a2, a3⟩ := ih i hi (by omega) u hu (by omega)
        exact ⟨J, by omega, a2, a3⟩
      · exact ⟨j, Nat.le_refl _, ⟨t0, h1, by omega⟩, fun i hi u hu hup => hx ⟨i, hi, u, hu, hup⟩⟩
  obtain ⟨J, hJ, ⟨t, ht1, ht2⟩, hmin⟩ := this
  have key : ∀ j, sq g s j = sq g (eulS g p) (m + j) := fun j => by rw [sq_add, hm]; rfl
  obtain ⟨L, t', hL⟩ := pass_some (g := g) (totR g) [p] t (by
    have := R.all (m + (J + totR g))
    rw [← key, sq_add, ht1] at this
    exact this)
  refine ⟨sq_wok W hm, e1, J, t, by omega, ht1, ht2, hmin, L, t', hL, ?_⟩
  unfold eulP
  rw [if_pos hc, perP_yes R hk, if_pos rfl]
  simp only [Int.toNat_natCast]
  rw [hm, Option.getD_some, till_eq J 2001 s t (by omega) ht1 ht2 hmin, hL]
set_option maxHeartbeats 4000000 in
theorem k_spec_EulerTour0 {S : Nat -> Prop} {h : Heap} {g : Sl} {xss : List (List Int)} (G : RdR S h g xss) (p : Int) (K : Value -> Heap -> Prop) (HK : ∀ t h', RdI (fun k => h.size ≤ k) h' t (eulP xss p).1 -> Fr No h h' -> K (.tuple #[t.v, VB (eulP xss p).2]) h') : callM Tryz.prog 42 #[.agg #[g.v], VI p] h K := by
  have no : eulP xss p = ([], false) -> ∀ h', Fr No h h' -> K (.tuple #[nilSl.v, VB false]) h' := fun e h' f => by
    have := HK nilSl h' (by rw [e]; exact (RdV.nil _ _ _)) f
    rw [e] at this
    exact this
  have nc : eulC xss p = false -> eulP xss p = ([], false) := fun e => by unfold eulP; rw [e]; rfl
  have gn := G.len
  refine v42 g p h K fun b1 h1 hb1 f1 hL1 => ?_
  have f1 := f1.in_nil
  have l1 : b1 < h1.size := hL1.head.lt
  refine k_spec_grPlace (G.no f1) p _ fun h2 f2 => ⟨_, rfl, hL1.of_no f2, fun e => ?_, fun e => ?_⟩
  · exact no (nc (by unfold eulC; rw [not_t e]; rfl)) h2 (f1.trans f2)
  have e := not_f e
  have e' := e
  simp only [Bool.and_eq_true, inR_iff] at e'
  obtain ⟨hg, p0, p1⟩ := e'
  have hgl := graph_len hg
  have hgt := graph_tot hg
  have f02 := f1.trans f2
  refine k_grStrong (G.no f02) hg _ fun h3 f3 => ⟨_, rfl, (hL1.of_no f2).of_no f3, fun e2 => ?_, fun e2 => ?_⟩
  · exact no (nc (by unfold eulC; rw [e, not_t e2]; rfl)) h3 (f02.trans f3)
  have e2 := not_f e2
  have f03 := f02.trans f3
  refine k_grBalanced (G.no f03) hg _ fun h4 f4 => ⟨_, rfl, ((hL1.of_no f2).of_no f3).of_no f4, fun e3 => ?_, fun e3 => ?_⟩
  · exact no (nc (by unfold eulC; rw [e, e2, not_t e3]; rfl)) h4 (f03.trans f4)
  have e3 := not_f e3
  have f04 := f03.trans f4
  refine k_spec_grCount (G.no f04) (by omega) _ fun h5 f5 => ⟨_, rfl, (((hL1.of_no f2).of_no f3).of_no f4).of_no f5, fun e4 => ?_, fun e4 => ?_⟩
  · simp only [decide_eq_true_eq] at e4
    exact no (nc (by unfold eulC; rw [decide_eq_false (show ¬ totR xss ≠ 0 by omega)]; simp)) h5 (f04.trans f5)
  simp only [decide_eq_false_iff_not] at e4
  have hc : eulC xss p = true := by unfold eulC; rw [e, e2, e3, decide_eq_true (show totR xss ≠ 0 by omega)]; rfl
  have f05 := f04.trans f5
  have z5 := f05.size
  have hL5 := (((hL1.of_no f2).of_no f3).of_no f4).of_no f5
  have W := eul_wok hg p0 (show p < (xss.length : Int) by omega)
  have zer : ∀ {X : Heap} {K : Value -> Heap -> Prop}, (∀ (w : Sl) h', RdI (Iv X.size h'.size) h' w (eulS xss p).1 -> Fr No X h' -> K w.v h') -> eop Tryz.prog (Instr.makeSlice tIs (VI (g.n : Int)) (VI (g.n : Int))) X K := fun {X} {K} HK => by
    rw [gn]
    refine eop_make rIs (fun k => X.size ≤ k) (fun _ h => h) .i64 .i64 xss.length xss.length (Nat.le_refl _) (by omega) fun w h6 n6 c6 o6 f6 m6 _ => HK w h6 ?_ f6
    have ez : (List.replicate xss.length [VI 0]).flatten = (List.replicate xss.length (0 : Int)).map VI := by simp [List.flatten_replicate_singleton]
    rw [ez] at o6
    have o6' : OwI h6 (Iv X.size h6.size) w (List.replicate xss.length 0) := Ow.toIv o6
    exact o6'.rdF
  refine ⟨fun bb x1 x2 x3 h' => ((x3 = 0 /\ ∀ m k, Rho xss (eulS xss p) m k -> 2000 < k) ∨ ∃ m k s, Rho xss (eulS xss p) m k /\ k ≤ 2000 /\ sq xss (eulS xss p) m = some s /\ x3 = (k : Int) - m /\ x2 = s.2 /\ RdI (fun k => k ≠ bb) h' x1 s.1) /\ Fr (fun k => h5.size ≤ k) h5 h' /\ h5.size ≤ bb, ⟨?_, fun b5 h13 hb5 f13 hL13 => ?_⟩, ?_⟩
  · refine zer fun w h6 R6 f6 => ⟨w, rfl, hL5.of_no f6, ?_, fun b4 h10 hb4 f10 hL10 => ?_⟩
    · have z6 := f6.size
      refine k_waPeriod (G.no (f05.trans f6)) R6 W _ (fun hN h7 f7 => ⟨_, w, p, _, rfl, (hL5.of_no f6).of_no f7, fun b3 h8 hb3 f8 hL8 h9 f9 hL9 => ⟨.inl ⟨rfl, hN⟩, ?_, ?_⟩⟩) (fun m k s R hk hs t h7 T7 f7 => ⟨_, t, s.2, _, rfl, (hL5.of_no f6).of_no f7, fun b3 h8 hb3 f8 hL8 h9 f9 hL9 => ⟨.inr ⟨m, k, s, R, hk, hs, rfl, rfl, ?_⟩, ?_, ?_⟩⟩)
      · have z7 := f7.size
        exact ((f6.of_no.trans f7.of_no).trans f8.in_nil.of_no).trans (f9.mono fun k _ hk => by simp [In] at hk; omega)
      · have z7 := f7.size; omega
      · have z7 := f7.size
        exact (((RdV.lt T7).no f8.in_nil).fr f9 fun k hk hk2 => by simp [In] at hk2; have := hk.2; omega).mono fun k hk => by have := hk.2; omega
      · have z7 := f7.size
        exact ((f6.of_no.trans f7.of_no).trans f8.in_nil.of_no).trans (f9.mono fun k _ hk => by simp [In] at hk; omega)
      · have z7 := f7.size; omega
    · have z6 := f6.size
      have f10 := f10.in_nil
      have z10 := f10.size
      have l4 : b4 < h10.size := hL10.head.lt
      refine k_waPeriod (G.no ((f05.trans f6).trans f10)) (R6.no f10) W _ (fun hN h11 f11 => ⟨_, w, p, _, rfl, hL10.of_no f11, fun h12 f12 hL12 => ⟨.inl ⟨rfl, hN⟩, ?_, ?_⟩⟩) (fun m k s R hk hs t h11 T11 f11 => ⟨_, t, s.2, _, rfl, hL10.of_no f11, fun h12 f12 hL12 => ⟨.inr ⟨m, k, s, R, hk, hs, rfl, rfl, ?_⟩, ?_, ?_⟩⟩)
      · exact ((f6.of_no.trans f10.of_no).trans f11.of_no).trans (f12.mono fun k _ hk => by simp [In] at hk; omega)
      · omega
      · exact (T11.fr f12 fun k hk hk2 => by simp [In] at hk2; rcases hk with hk | hk; have := hk.2; omega; omega).mono fun k hk => by rcases hk with hk | hk; have := hk.2; omega; omega
      · exact ((f6.of_no.trans f10.of_no).trans f11.of_no).trans (f12.mono fun k _ hk => by simp [In] at hk; omega)
      · omega
  · have f13 := f13.in_nil
    have z13 := f13.size
    have l5 : b5 < h13.size := hL13.head.lt
    refine zer fun w h14 R14 f14 => ⟨w, rfl, hL13.of_no f14, ?_⟩
    have z14 := f14.size
    refine k_waPeriod (G.no ((f05.trans f13).trans f14)) R14 W _ (fun hN h15 f15 => ⟨_, w, p, _, rfl, (hL13.of_no f14).of_no f15, fun h16 f16 hL16 => ⟨.inl ⟨rfl, hN⟩, ?_, hb5⟩⟩) (fun m k s R hk hs t h15 T15 f15 => ⟨_, t, s.2, _, rfl, (hL13.of_no f14).of_no f15, fun h16 f16 hL16 => ⟨.inr ⟨m, k, s, R, hk, hs, rfl, rfl, ?_⟩, ?_, hb5⟩⟩)
    · exact ((f13.of_no.trans f14.of_no).trans f15.of_no).trans (f16.mono fun k _ hk => by simp [In] at hk; omega)
    · exact (T15.fr f16 fun k hk hk2 => by simp [In] at hk2; rcases hk with hk | hk; have := hk.1; omega; omega).mono fun k hk => by rcases hk with hk | hk; have := hk.1; omega; omega
    · exact ((f13.of_no.trans f14.of_no).trans f15.of_no).trans (f16.mono fun k _ hk => by simp [In] at hk; omega)
  rintro bb x1 x2 x3 h17 ⟨hx, f17, hbb⟩ hL17
  have lbb : bb < h17.size := hL17.head.lt
  have z17 := f17.size
  have G5 : RdR (fun k => S k /\ k < h.size) h5 g xss := (G.lowS).no f05
  have nofin : ∀ {Y : Heap}, Fr (fun k => h5.size ≤ k) h5 Y -> Fr No h Y := fun f => f05.trans (f.mono fun k hk hk2 => absurd hk2 (by omega))
  refine ⟨fun e5 => ?_, fun e5 => ?_⟩
  · simp only [decide_eq_true_eq] at e5
    rcases hx with ⟨_, hN⟩ | ⟨m, k, s, R, _, _, hx3, _⟩
    · exact no (eul_no hN) h17 (nofin f17)
    · have := R.lt; omega
  simp only [decide_eq_false_iff_not] at e5
  rcases hx with ⟨h0, _⟩ | ⟨m, k, s, R, hk, hm, rfl, rfl, X17⟩
  · exact absurd h0 e5
  have hlt := R.lt
  obtain ⟨Ws, etot, J, tt, hJ, hsJ, htp, hmin, L, t', hrun, heul⟩ := eul_yes hc R hk hm
  have key : ∀ j, sq xss s j ≠ none := fun j => by
    have := R.all (m + j)
    rw [sq_add, hm] at this
    exact this
  refine ⟨fun n i x q h' => ∃ (j : Nat) (u : St), i = (j : Int) /\ n + j = k - m /\ j ≤ J /\ sq xss s j = some u /\ q = u.2 /\ RdI (fun k => k ≠ bb) h' x u.1 /\ Fr (fun k => h5.size ≤ k) h5 h' /\ h17.size ≤ h'.size, ⟨k - m, 0, s, rfl, rfl, by omega, rfl, rfl, X17, f17, Nat.le_refl _⟩, ?_⟩
  rintro n i x q h18 ⟨j, u, rfl, en, hjJ, hu, rfl, X18, f18, z18⟩ hL18
  have Wu : WOK xss u := sq_wok Ws hu
  have G18 : RdR (fun k => S k /\ k < h.size) h18 g xss := G5.fr f18 fun k hk hk2 => by omega
  refine ⟨fun e6 => ⟨fun e7 => ?_, fun e7 => ?_⟩, fun e6 => ?_⟩
  · simp only [Bool.not_eq_true', decide_eq_false_iff_not] at e7
    simp only [decide_eq_true_eq] at e6
    have hne : j ≠ J := fun hh => by subst hh; rw [hu] at hsJ; cases hsJ; exact e7 htp
    obtain ⟨u', hu'⟩ := Option.ne_none_iff_exists'.1 (show stepP xss u ≠ none from fun hh => key (j + 1) (by rw [sq, hu]; exact hh))
    refine k_waStep2 G18 X18 Wu rfl _ fun y h19 Y19 f19 => ⟨y, _, _, rfl, hL18.of_no f19, fun h20 f20 hL20 => ?_⟩
    have z19 := f19.size
    rw [hu'] at Y19 ⊢
    simp only [Option.getD_some] at Y19 ⊢
    rw [w64_eq _ (by omega) (by omega)]
    exact ⟨n - 1, by omega, j + 1, u', by omega, by omega, by omega, by rw [sq, hu]; exact hu', rfl, (Y19.fr f20 fun k hk hk2 => by simp [In] at hk2; rcases hk with hk | hk <;> omega).mono fun k hk => by rcases hk with hk | hk <;> omega, (f18.trans f19.of_no).trans (f20.mono fun k _ hk => by simp [In] at hk; omega), by have := f20.size; omega⟩
  · simp only [Bool.not_eq_false', decide_eq_true_eq] at e7
    have hjj : j = J := by
      by_cases hh : j < J
      · exact absurd e7 (hmin j hh u hu)
      · omega
    subst hjj
    obtain rfl : u = tt := Option.some.inj (hu.symm.trans hsJ)
    have hrun2 : (goP xss (totR xss) (go0 xss u)).map (fun r => (r.ps, r.s)) = some (L, t') := by
      have := go_run xss (fun r => r.ps) passU (fun r s' => rfl) (totR xss) (go0 xss u)
      rw [← this]
      show runT xss passU (totR xss) [u.2] u = _
      rw [htp]; exact hrun
    have en2 : (((k : Int) - m)).toNat = totR xss := by omega
    refine k_waGo (rs := u.1) G18 X18 u.2 ((k : Int) - m) Wu (by omega) (by omega) _ (fun hn h21 f21 => ?_) (fun r hr ok ee ps vs us h21 E P V U f21 => ⟨ee, r.s.2, ps, vs, us, true, rfl, hL18.of_no f21, fun e => (by cases e), fun _ b6 h23 hb6 f23 hL23 => ?_⟩)
    · exfalso
      rw [en2] at hn
      rw [show ((u.1, u.2) : St) = u from rfl] at hn
      rw [hn] at hrun2
      cases hrun2
    · rw [en2] at hr
      rw [show ((u.1, u.2) : St) = u from rfl] at hr
      rw [hr] at hrun2
      simp only [Option.map_some, Option.some.injEq, Prod.mk.injEq] at hrun2
      have := HK ps h23 (by rw [heul]; simp only; rw [← hrun2.1]; exact (P.no f23.in_nil).mono fun k hk => by omega) (nofin ((f18.trans f21.of_no).trans f23.in_nil.of_no))
      rw [heul] at this
      exact this
  · simp only [decide_eq_false_iff_not] at e6
    omega
theorem k_spec_EulerTour {S : Nat -> Prop} {h : Heap} {g : Sl} {xss : List (List Int)} (G : RdR S h g xss) (p : Int) (K : Value -> Heap -> Prop) (HK : ∀ t h', RdI (Iv h.size h'.size) h' t (eulP xss p).1 -> Fr No h h' -> K (.tuple #[t.v, VB (eulP xss p).2]) h') : callM Tryz.prog 42 #[.agg #[g.v], VI p] h K :=
  k_spec_EulerTour0 G p K fun t h' R f => HK t h' (RdV.mono (RdV.lt R) fun k hk => ⟨hk.1, hk.2⟩) f
theorem pass_len {g : List (List Int)} : ∀ (m : Nat) (t : List Int) (s : St) (t' : List Int) (s' : St), runT g passU m t s = some (t', s') -> t'.length = t.length + m
  | 0, t, s, t', s', h => by
    simp only [runT, Option.some.injEq, Prod.mk.injEq] at h
    rw [h.1]
    rfl
  | m + 1, t, s, t', s', h => by
    rw [runT] at h
    split at h
    · cases h
    · have := pass_len m _ _ _ _ h
      simp [passU] at this
      omega
theorem k_eul2 {F : Nat -> Prop} {b b' : Nat} {h : Heap} {o w : Sl} {ps : List Int} {q : Int} (V : IsVar h b [o.v]) (V' : IsVar h b' [w.v, VI q]) (hbb : b' ≠ b) (O : OwI h F o ps) (hFF : ∀ k, h.size ≤ k -> F k) (hb : ¬ o.own b) (hb' : ¬ o.own b') (hn : ps.length ≤ 1000000) (x : Int) (K : Value -> Heap -> Prop)
    (HK : ∀ h' o' v, IsVar h' b [o'.v] -> OwI h' F o' (ps ++ [q]) -> (∀ k, o'.own k -> o.own k ∨ h.size ≤ k) -> Fr (fun k => k = b ∨ o.own k) h h' -> K v h') : callV Tryz.prog (.func (.func 101) #[] #[VP b 0, VP b' 0]) [VI x] h K := by
  refine v101 x b o b' w q h K (.cons V (by simpa using hbb) (.cons V' (by simp) .nil)) ?_
  refine eop_lit rIs (fun k => h.size ≤ k) (fun _ h => h) 1 (by omega) [VI q] rfl rfl fun v h1 n1 c1 o1 f1 m1 _ => ⟨v, rfl, .cons (V.fr f1 fun h => h) (by simpa using hbb) (.cons (V'.fr f1 fun h => h) (by simp) .nil), ?_⟩
  have z1 := f1.size
  have o1 : RdI v.own h1 v [q] := o1.rd
  have O1 := Ow.no O f1
  refine eop_append rIs O1 (fun k hk => hFF k (by omega)) o1 (plainVI _) (by have h1 := RdI.len O1.rdF; have h2 := o1.len; simp at h2; omega) fun y h2 n2 o2 f2 d2 => ⟨y, rfl, .cons ((V.fr f1 fun h => h).fr f2 hb) (by simpa using hbb) (.cons ((V'.fr f1 fun h => h).fr f2 hb') (by simp) .nil), fun h3 f3 hL3 => ?_⟩
  rw [← List.map_append] at o2
  have hbl := V.lt
  have hin : ∀ k, In [b] k -> k = b := fun k hk => by simpa [In] using hk
  have hyb : ¬ y.own b := fun hk => by
    rcases d2 b hk with h1 | h1
    · exact hb h1
    · omega
  refine HK h3 y _ hL3.head (Ow.fr o2 f3 fun k hk hk2 => hyb (by have := hin k hk2; subst this; exact hk)) (fun k hk => (d2 k hk).imp id fun h => by omega) ?_
  exact (f1.of_no.trans (f2.mono fun k _ hk => .inr hk)).trans (f3.mono fun k _ hk => .inl (hin k hk))
theorem per_some {g : List (List Int)} {s : St} (h : (perP g s).2.2 = true) : ∃ m k, Rho g s m k /\ k ≤ 2000 /\ perP g s = ((m : Int), (k : Int) - m, true) := by
  by_cases hx : ∃ m k, Rho g s m k /\ k ≤ 2000
  · obtain ⟨m, k, R, hk⟩ := hx
    exact ⟨m, k, R, hk, perP_yes R hk⟩
  · rw [perP_no fun m k R => by
      by_cases hk : k ≤ 2000
      · exact absurd ⟨m, k, R, hk⟩ hx
      · omega] at h
    cases h
set_option maxHeartbeats 4000000 in
theorem k_EulerTour {S : Nat -> Prop} {h : Heap} {g : Sl} {xss : List (List Int)} (G : RdR S h g xss) (p : Int) (K : Value -> Heap -> Prop) (HK : ∀ t h', OwI h' (Iv h.size h'.size) t (eulP xss p).1 -> Fr No h h' -> K (.tuple #[t.v, VB (eulP xss p).2]) h') : callM Tryz.prog 41 #[.agg #[g.v], VI p] h K := by
  have no : eulP xss p = ([], false) -> ∀ h', Fr No h h' -> K (.tuple #[nilSl.v, VB false]) h' := fun e h' f => by
    have := HK nilSl h' (by rw [e]; exact Ow.nil _ _ _ _) f
    rw [e] at this
    exact this
  have nc : eulC xss p = false -> eulP xss p = ([], false) := fun e => by unfold eulP; rw [e]; rfl
  have gn := G.len
  refine v41 g p h K fun b1 h1 hb1 f1 hL1 => ?_
  have f1 := f1.in_nil
  have l1 : b1 < h1.size := hL1.head.lt
  refine eop_lit rIs (fun k => h1.size ≤ k) (fun _ h => h) 1 (by omega) [VI p] rfl rfl fun v h2 n2 c2 o2 f2 m2 _ => ⟨v, rfl, hL1.of_no f2, ?_⟩
  have r2 : RdI (fun k => h1.size ≤ k) h2 v [p] := o2.rdF
  have f02 := f1.trans f2
  refine k_has (G.no f02) r2 _ fun h3 f3 => ⟨_, rfl, (hL1.of_no f2).of_no f3, fun e => ?_, fun e => ?_⟩
  · simp only [List.all_cons, List.all_nil, Bool.and_true] at e
    exact no (nc (by unfold eulC; rw [not_t e]; rfl)) h3 (f02.trans f3)
  simp only [List.all_cons, List.all_nil, Bool.and_true] at e
  have e := not_f e
  have e' := e
  simp only [Bool.and_eq_true, inR_iff] at e'
  obtain ⟨hg, p0, p1⟩ := e'
  have hgl := graph_len hg
  have hgt := graph_tot hg
  have f03 := f02.trans f3
  refine k_isStrong (G.no f03) hg _ fun h4 f4 => ⟨_, rfl, ((hL1.of_no f2).of_no f3).of_no f4, fun e2 => ?_, fun e2 => ?_⟩
  · exact no (nc (by unfold eulC; rw [e, not_t e2]; rfl)) h4 (f03.trans f4)
  have e2 := not_f e2
  have f04 := f03.trans f4
  refine k_isBalanced (G.no f04) hg _ fun h5 f5 => ⟨_, rfl, (((hL1.of_no f2).of_no f3).of_no f4).of_no f5, fun e3 => ?_, fun e3 => ?_⟩
  · exact no (nc (by unfold eulC; rw [e, e2, not_t e3]; rfl)) h5 (f04.trans f5)
  have e3 := not_f e3
  have f05 := f04.trans f5
  have z5 := f05.size
  have z1 := f1.size
  have z15 := ((f2.trans f3).trans (f4.trans f5)).size
  have hL5 := (((hL1.of_no f2).of_no f3).of_no f4).of_no f5
  refine k_Concat (G.no f05) (by omega) _ fun c h6 o6 f6 => ⟨c, rfl, hL5.of_no f6, ?_⟩
  have cn : c.n = totR xss := by rw [RdI.len o6.rdF, totR_flat]
  have z6 := f6.size
  rw [gn]
  refine eop_make rIs (fun k => h6.size ≤ k) (fun _ h => h) .i64 .i64 xss.length xss.length (Nat.le_refl _) (by omega) fun w h7 n7 c7 o7 f7 m7 _ => ⟨w, rfl, (hL5.of_no f6).of_no f7, fun b2 h9 hb2 f9 hL9 => ?_⟩
  have f9 := f9.in_nil
  have z7 := f7.size
  have z9 := f9.size
  have l2 : b2 < h9.size := hL9.head.lt
  have ez : (List.replicate xss.length [VI 0]).flatten = (List.replicate xss.length (0 : Int)).map VI := by simp [List.flatten_replicate_singleton]
  rw [ez] at o7
  have o7' : OwI h7 (Iv h6.size h7.size) w (List.replicate xss.length 0) := Ow.toIv o7
  have f59 := (f6.trans f7).trans f9
  have f09 := f05.trans f59
  have W := eul_wok hg p0 (show p < (xss.length : Int) by omega)
  refine k_period (G.no f09) (show RdI (Iv h6.size h7.size) h9 w (eulS xss p).1 from RdI.no o7'.rdF f9) W _ fun h10 f10 => ⟨_, _, _, rfl, hL9.of_no f10, fun e4 => ?_, fun e4 => ⟨fun e5 => ?_, fun e5 => ?_⟩⟩
  · simp only [decide_eq_true_eq] at e4
    exact no (nc (by unfold eulC; rw [decide_eq_false (show ¬ totR xss ≠ 0 by omega)]; simp)) h10 (f09.trans f10)
  · exact no (by unfold eulP; rw [show ((eulS xss p).1, p) = eulS xss p from rfl] at e5; rw [not_t e5]; split <;> rfl) h10 (f09.trans f10)
  simp only [decide_eq_false_iff_not] at e4
  rw [show ((eulS xss p).1, p) = eulS xss p from rfl] at e5 ⊢
  have hc : eulC xss p = true := by unfold eulC; rw [e, e2, e3, decide_eq_true (show totR xss ≠ 0 by omega)]; rfl
  obtain ⟨m, k, R, hk, hper⟩ := per_some (not_f e5)
  have hlt := R.lt
  obtain ⟨s, hm⟩ := Option.ne_none_iff_exists'.1 R.some
  obtain ⟨Ws, etot, J, tt, hJ, hsJ, htp, hmin, L, t', hrun, heul⟩ := eul_yes hc R hk hm
  have key : ∀ j, sq xss s j ≠ none := fun j => by
    have := R.all (m + j)
    rw [sq_add, hm] at this
    exact this
  rw [hper]
  have z10 := f10.size
  have hL10 := hL9.of_no f10
  have f010 := f09.trans f10
  generalize hF : (fun q => q = b2 ∨ w.own q) = F
  have F1 : ∀ q, F q -> h6.size ≤ q /\ q < h10.size /\ b1 ≠ q := fun q hq => by
    rw [← hF] at hq
    rcases hq with hq | hq
    · omega
    · have a1 := (o7'.foot hq).1; have a2 := a1.1; have a3 := a1.2; omega
  have F2 : F b2 := by rw [← hF]; exact .inl rfl
  have F3 : ∀ q, w.own q -> F q := fun q hq => by rw [← hF]; exact .inr hq
  have o10 : OwI h10 F w (eulS xss p).1 := (Ow.no (Ow.no o7' f9) f10).mono fun q hq _ => F3 q hq
  have hwb : ¬ w.own b2 := fun hq => by have := (o7'.foot hq).1; have := this.2; omega
  have G0 : RdR (fun k => S k /\ k < h.size) h g xss := G.lowS
  have G10 : RdR (fun k => S k /\ k < h.size) h10 g xss := G0.no f010
  have toF : ∀ {x y : Heap}, Fr (fun q => F q ∨ False) x y -> Fr F x y := fun f => f.mono fun q _ hq => by rcases hq with hq | hq; exact hq; exact hq.elim
  have fin : ∀ {y : Heap}, Fr (fun q => h6.size ≤ q) h10 y -> Fr No h y := fun f => (f010.of_no.trans f).mono fun q hq hq2 => absurd hq2 (by omega)
  refine k_run (s0 := eulS xss p) (F := F) (fun (_ : Unit) _ _ => ()) (fun _ _ _ => True) (fun _ => False) G10 hL10.head o10 (fun q hq => ⟨fun hq2 => by have := (F1 q hq2).1; omega, fun h => h⟩) F2 hwb W (m : Int) (by omega) (by omega) _ () (fun q hq => (F1 q hq).2.1) (fun q hq => hq.elim) (fun _ _ => trivial) (fun _ _ _ _ _ _ _ _ => trivial) (fun N t s s' h1 K hN hN2 _ V O W hs _ HK => ?_) _ (fun hr N t h11 q hN _ v11 f11 => ?_) fun u1 s1 hr N h11 hN _ o11 W11 v11 f11 => ?_
  · refine v99 s.2 h1 K ?_
    exact HK h1 _ trivial (Fr.refl _ _)
  · rw [runT_sq, Int.toNat_natCast, hm] at hr
    cases hr
  rw [runT_sq, Int.toNat_natCast, hm] at hr
  simp only [Option.map_some, Option.some.injEq, Prod.mk.injEq] at hr
  obtain ⟨_, rfl⟩ := hr
  have f11 := toF f11
  have z11 := f11.size
  have up : ∀ {x y : Heap}, Fr F x y -> Fr (fun q => h6.size ≤ q) x y := fun f => f.mono fun q _ hq => (F1 q hq).1
  have tl : ∀ {y : Heap}, Fr (fun q => h6.size ≤ q) h10 y -> IsVar y b1 [g.v] := fun f => hL10.tail.head.fr f fun hh => by omega
  have mk : ∀ {y : Heap} {q : Int}, IsVar y b2 [w.v, VI q] -> Fr (fun q => h6.size ≤ q) h10 y -> Vars y [(b2, [w.v, VI q]), (b1, [g.v])] := fun v f => .cons v (fun q hq => by simp only [List.mem_cons, List.not_mem_nil, or_false] at hq; subst hq; simp only; omega) (.cons (tl f) (by simp) .nil)
  refine ⟨w, s.2, true, rfl, mk v11 (up f11), fun n x q h' => ∃ (j : Nat) (u : St), n + j = J /\ sq xss s j = some u /\ x = w /\ q = u.2 /\ OwI h' F w u.1 /\ Fr (fun q => h6.size ≤ q) h10 h', ⟨J, 0, s, rfl, rfl, rfl, rfl, o11, up f11⟩, ?_⟩
  rintro n x q h12 ⟨j, u, en, hu, rfl, rfl, o12, f12⟩ hL12
  have Wu : WOK xss u := sq_wok Ws hu
  have z12 := f12.size
  refine ⟨fun e6 => ?_, fun e6 => ?_⟩
  · simp only [Bool.not_eq_true', decide_eq_false_iff_not] at e6
    have hne : j ≠ J := fun hh => by subst hh; rw [hu] at hsJ; cases hsJ; exact e6 htp
    obtain ⟨u', hu'⟩ := Option.ne_none_iff_exists'.1 (show stepP xss u ≠ none from fun hh => key (j + 1) (by rw [sq, hu]; exact hh))
    have G12 : RdR (fun k => S k /\ k < h.size) h12 g xss := G10.fr f12 fun k hk hk2 => by omega
    refine k_stepF (s := u) G12 hL12.head o12 (fun q hq hq2 => by have := (F1 q hq2).1; omega) F2 hwb Wu _ (fun hn h13 f13 => by rw [hn] at hu'; cases hu') (fun v' hv' h13 o13 V13 f13 => ⟨x, v'.2, true, rfl, mk V13 (f12.trans (up f13)), n - 1, by omega, j + 1, v', by omega, by rw [sq, hu]; exact hv', rfl, rfl, o13, f12.trans (up f13)⟩)
  · simp only [Bool.not_eq_false', decide_eq_true_eq] at e6
    have hjj : j = J := by
      by_cases hh : j < J
      · exact absurd e6 (hmin j hh u hu)
      · omega
    subst hjj
    obtain rfl : u = tt := Option.some.inj (hu.symm.trans hsJ)
    refine eop_lit rIs (fun k => h12.size ≤ k) (fun _ h => h) 1 (by omega) [VI p] rfl rfl fun y h14 n14 c14 o14 f14 m14 d14 => ⟨y, rfl, hL12.of_no f14, fun b3 h16 hb3 f16 hL16 => ?_⟩
    have f16 := f16.in_nil
    have z14 := f14.size
    have z16 := f16.size
    have l3 : b3 < h16.size := hL16.head.lt
    have o14' : OwI h14 (fun k => h12.size ≤ k) y [p] := o14
    have o16 := Ow.no o14' f16
    have yg : ∀ k, y.own k -> h12.size ≤ k /\ k < h14.size := fun k hk => o14'.foot hk
    have yb3 : ¬ y.own b3 := fun hk => by have := (yg _ hk).2; omega
    have yb2 : ¬ y.own b2 := fun hk => by have := (yg _ hk).1; omega
    have f1216 := f14.trans f16
    have ow16 : OwI h16 F x u.1 := Ow.no o12 f1216
    have G16 : RdR (fun k => S k /\ k < h.size) h16 g xss := (G10.fr f12 fun k hk hk2 => by omega).no f1216
    have fF : ∀ {y' : Heap}, Fr (fun k => F k ∨ (k = b3 ∨ y.own k)) h16 y' -> Fr (fun q => h6.size ≤ q) h10 y' := fun f => (f12.trans f1216.of_no).trans (f.mono fun k _ hk => by
      rcases hk with hk | hk | hk
      · exact (F1 k hk).1
      · omega
      · have := (yg k hk).1; omega)
    rw [cn]
    refine k_run (s0 := u) (F := F) (S := fun k => S k /\ k < h.size) passU
      (fun N t h' => ∃ o : Sl, IsVar h' b3 [o.v] /\ OwI h' (fun k => h12.size ≤ k) o t /\ ∀ k, o.own k -> y.own k ∨ N ≤ k) (fun k => k = b3 ∨ y.own k)
      G16 hL16.tail.head ow16 (fun k hk => ⟨fun hq => by have := (F1 k hq).1; omega, fun hq => by rcases hq with rfl | hq; omega; have := (yg _ hq).1; omega⟩) F2 hwb Wu (totR xss : Int) (by omega) (by omega) _ [p]
      (fun k hk => by have := (F1 k hk).2.1; omega)
      (fun k hk => ⟨fun hq => by have h1 := (F1 k hq).2.1; rcases hk with rfl | hk; omega; have := (yg _ hk).1; omega, by rcases hk with rfl | hk; exact l3; have := (yg _ hk).2; omega⟩)
      (fun N hN => ⟨y, hL16.head, o16, fun k hk => .inl hk⟩)
      (fun N t h1 h2 U ⟨o, v1, v2, v3⟩ f hU => ⟨o, v1.fr f fun h => (hU _ h).1 (.inl rfl), v2.fr f fun k hk hk2 => by
        rcases v3 k hk with h | h
        · exact (hU k hk2).1 (.inr h)
        · have := (hU k hk2).2; omega, v3⟩)
      (fun N t s s' h1 K hN hN2 ⟨o, v1, v2, v3⟩ V O W hs hm HK => ?_) _ (fun hr N t h17 q hN ⟨o, v1, v2, v3⟩ v17 f17 => ?_) fun t2 s2 hr N h17 hN ⟨o, v1, v2, v3⟩ o17 W17 v17 f17 => ?_
    · obtain ⟨m, hm, hr⟩ := hm
      have hl := pass_len m _ _ _ _ hr
      have ob : ¬ o.own b3 := fun hk => by
        rcases v3 _ hk with h | h
        · exact yb3 h
        · omega
      have ob' : ¬ o.own b2 := fun hk => by
        rcases v3 _ hk with h | h
        · exact yb2 h
        · omega
      refine k_eul2 v1 V (by omega) v2 (fun k hk => by omega) ob ob' (by simp at hl; omega) s.2 K fun h2 o' v w1 w2 w3 w4 => HK h2 v ⟨o', w1, w2, fun k hk => ?_⟩ (w4.mono fun k _ hk => ?_)
      · rcases w3 k hk with h | h
        · exact v3 k h
        · exact .inr (by omega)
      · rcases hk with rfl | hk
        · exact .inl (.inl rfl)
        · exact (v3 k hk).imp .inr id
    · rw [Int.toNat_natCast, hrun] at hr
      cases hr
    · rw [Int.toNat_natCast, hrun] at hr
      simp only [Option.some.injEq, Prod.mk.injEq] at hr
      obtain ⟨rfl, rfl⟩ := hr
      have hL17 : Vars h17 [(b3, [o.v]), (b2, [x.v, VI t'.2]), (b1, [g.v])] := .cons v1 (fun q hq => by
        simp only [List.mem_cons, List.not_mem_nil, or_false] at hq
        rcases hq with rfl | rfl <;> simp only <;> omega) (mk v17 (fF f17))
      refine ⟨o, x, t'.2, true, rfl, hL17, ?_⟩
      have := HK o h17 (by rw [heul]; exact v2.mono fun k hk hk2 => ⟨by omega, (v2.foot hk).2⟩) (fin (fF f17))
      rw [heul] at this
      exact this
def cyN (r d : Nat) : Nat -> Nat -> Nat
  | 0, _ => 0
  | c + 1, k => cyN r d c k + (if (r + c + 1) % d = k then 1 else 0)
theorem mod_two {x d : Nat} (h : x < 2 * d) : x % d = if x < d then x else x - d := by
  split
  · exact Nat.mod_eq_of_lt (by assumption)
  · rw [Nat.mod_eq_sub_mod (by omega), Nat.mod_eq_of_lt (by omega)]
theorem div_step {c d : Nat} (hd : 0 < d) : (c + 1) / d = (if c % d + 1 = d then c / d + 1 else c / d) /\ (c + 1) % d = (if c % d + 1 = d then 0 else c % d + 1) := by
  have h1 := Nat.div_add_mod c d
  have h2 := Nat.mod_lt c hd
  apply (Nat.div_mod_unique hd).2
  split
  · rw [Nat.mul_add]; omega
  · omega
theorem cyN_eq {r d k : Nat} (hk : k < d) : ∀ c, cyN r d c k = c / d + (if (k + (d - (r + 1) % d)) % d < c % d then 1 else 0)
  | 0 => by
    rw [cyN, Nat.zero_div, Nat.zero_mod, if_neg (by omega)]
  | c + 1 => by
    have hd : 0 < d := by omega
    obtain ⟨s1, s2⟩ := div_step (c := c) hd
    have a1 := Nat.mod_lt (r + 1) hd
    have a2 := Nat.mod_lt c hd
    have m1 : (r + c + 1) % d = (((r + 1) % d) + (c % d)) % d := by rw [← Nat.add_mod]; congr 1; omega
    rw [cyN, cyN_eq hk c, s1, s2, m1, mod_two (x := (r + 1) % d + c % d) (by omega), mod_two (x := k + (d - (r + 1) % d)) (by omega)]
    generalize (r + 1) % d = a at *
    generalize c % d = e at *
    generalize c / d = q at *
    (repeat' split) <;> omega
def vN (g : List (List Int)) (r c : Nat -> Nat) (q : Nat) : Nat := sumN (fun p => sumN (fun k => if (g.getD p []).getD k 0 = (q : Int) then cyN (r p) (degN g p) (c p) k else 0) (degN g p)) g.length
structure GL (g : List (List Int)) (s0 : St) (n : Nat) (w : Rn) (c : Nat -> Nat) : Prop where
  use : ∀ p, p < g.length -> ∀ k, k < degN g p -> (w.us.getD p []).getD k 0 = (cyN (s0.1.getD p 0).toNat (degN g p) (c p) k : Int)
  rot : ∀ p, p < g.length -> degN g p ≠ 0 -> w.s.1.getD p 0 = ((((s0.1.getD p 0).toNat + c p) % degN g p : Nat) : Int)
  zero : ∀ p, p < g.length -> degN g p = 0 -> c p = 0
  sum : sumN c g.length = n
  vis : ∀ q, q < g.length -> w.vs.getD q 0 = (vN g (fun p => (s0.1.getD p 0).toNat) c q : Int)
theorem bump_get {l : List Int} {i : Nat} (hi : i < l.length) (j : Nat) : (bump l i).getD j 0 = l.getD j 0 + (if i = j then 1 else 0) := by
  unfold bump
  by_cases e : i = j
  · subst e
    rw [getD_getI (by simpa using hi), List.getElem_set_self, if_pos rfl]
  · rw [if_neg e, Int.add_zero]
    simp [List.getD, List.getElem?_set, e]
theorem setR_get {α : Type} {l : List (List α)} {i : Nat} {x : List α} (hi : i < l.length) (j : Nat) : (l.set i x).getD j [] = if i = j then x else l.getD j [] := by
  by_cases e : i = j
  · subst e
    rw [if_pos rfl]
    simp [List.getD, List.getElem?_set, hi]
  · rw [if_neg e]
    simp [List.getD, List.getElem?_set, e]
theorem setI_get {l : List Int} {i : Nat} {x : Int} (hi : i < l.length) (j : Nat) : (l.set i x).getD j 0 = if i = j then x else l.getD j 0 := by
  by_cases e : i = j
  · subst e
    rw [if_pos rfl]
    simp [List.getD, List.getElem?_set, hi]
  · rw [if_neg e]
    simp [List.getD, List.getElem?_set, e]
theorem GL.step {g : List (List Int)} {s0 : St} {n : Nat} {w : Rn} {c : Nat -> Nat} (H : GL g s0 n w c) (R : RnOK g n w) {s' : St} (hs : stepP g w.s = some s') : GL g s0 (n + 1) (nextR w s') (fun p => if p = w.s.2.toNat then c p + 1 else c p) := by
  have W := R.w
  have hl := W.len
  have h0 := W.lo
  have h1 := W.hi
  obtain ⟨P, hP⟩ : ∃ P, w.s.2.toNat = P := ⟨_, rfl⟩
  rw [hP]
  have hp : P < g.length := by omega
  unfold stepP at hs
  rw [hP] at hs
  have hd : degN g P ≠ 0 := fun e => by rw [if_pos (show (g.getD P []).length = 0 from e)] at hs; cases hs
  rw [if_neg (show ¬ (g.getD P []).length = 0 from hd)] at hs
  have hs := (Option.some.inj hs).symm
  have hdeg : degN g P = (g[P]).length := by unfold degN; rw [getD_get hp]
  have hrot := H.rot P hp hd
  have hmod : ∀ x y m : Nat, ((x + y) % m + 1) % m = (x + y + 1) % m := fun x y m => by rw [Nat.mod_add_mod]
  have e1 : s'.1 = w.s.1.set P ((((s0.1.getD P 0).toNat + c P + 1) % degN g P : Nat) : Int) := by
    rw [hs]
    simp only
    rw [hrot, Int.toNat_natCast]
    show w.s.1.set P (((((s0.1.getD P 0).toNat + c P) % degN g P + 1) % degN g P : Nat) : Int) = _
    rw [hmod]
  have e3 : s'.1.getD P 0 = ((((s0.1.getD P 0).toNat + c P + 1) % degN g P : Nat) : Int) := by
    rw [e1, setI_get (by omega), if_pos rfl]
  have rlt : ((s0.1.getD P 0).toNat + c P + 1) % degN g P < degN g P := Nat.mod_lt _ (by omega)
  have e2 : s'.2 = (g.getD P []).getD (((s0.1.getD P 0).toNat + c P + 1) % degN g P) 0 := by
    rw [hs]
    simp only
    rw [hrot, Int.toNat_natCast]
    show (g.getD P []).getD ((((s0.1.getD P 0).toNat + c P) % degN g P + 1) % degN g P) 0 = _
    rw [hmod]
  generalize hρ : ((s0.1.getD P 0).toNat + c P + 1) % degN g P = ρ at *
  have ul := R.us
  have urow : (w.us.getD P []).length = degN g P := by rw [getD_get (by omega), R.row P (by omega) hp, hdeg]
  have vl := R.vs
  have W' : 0 ≤ s'.2 /\ s'.2 < (g.length : Int) := by
    have hm := (graph_mem W.graph (List.getElem_mem hp)).2 _ (List.getElem_mem (show ρ < (g[P]'hp).length by omega))
    rw [e2, getD_get hp, getD_getI (by omega)]
    exact hm
  refine ⟨fun p hpl k hk => ?_, fun p hpl hd' => ?_, fun p hpl hd' => ?_, ?_, fun q hq => ?_⟩
  · show ((w.us.set w.s.2.toNat (bump (w.us.getD w.s.2.toNat []) (s'.1.getD w.s.2.toNat 0).toNat)).getD p []).getD k 0 = _
    rw [hP, e3, Int.toNat_natCast, setR_get (by omega)]
    by_cases e : P = p
    · subst e
      rw [if_pos rfl, if_pos rfl, bump_get (by omega), H.use P hpl k hk, cyN, hρ]
      split <;> simp
    · rw [if_neg e, if_neg (Ne.symm e)]
      exact H.use p hpl k hk
  · show s'.1.getD p 0 = _
    rw [e1, setI_get (by omega)]
    by_cases e : P = p
    · subst e
      rw [if_pos rfl, if_pos rfl, ← hρ]
      rfl
    · rw [if_neg e, if_neg (Ne.symm e)]
      exact H.rot p hpl hd'
  · by_cases e : p = P
    · subst e; omega
    · rw [if_neg e]; exact H.zero p hpl hd'
  · rw [sumN_one (f := c) (p := P) (d := 1) (by rw [if_pos rfl]) (fun i hi => if_neg hi), H.sum, if_pos hp]
  · show (bump w.vs s'.2.toNat).getD q 0 = _
    rw [bump_get (by omega), H.vis q hq]
    have key : vN g (fun p => (s0.1.getD p 0).toNat) (fun p => if p = P then c p + 1 else c p) q = vN g (fun p => (s0.1.getD p 0).toNat) c q + (if s'.2.toNat = q then 1 else 0) := by
      unfold vN
      rw [sumN_one (p := P) (d := if s'.2.toNat = q then 1 else 0) (f := fun p => sumN (fun k => if (g.getD p []).getD k 0 = (q : Int) then cyN (s0.1.getD p 0).toNat (degN g p) (c p) k else 0) (degN g p)) ?_ ?_ g.length, if_pos hp]
      · simp only [if_true]
        rw [sumN_one (p := ρ) (d := if s'.2.toNat = q then 1 else 0) (f := fun k => if (g.getD P []).getD k 0 = (q : Int) then cyN (s0.1.getD P 0).toNat (degN g P) (c P) k else 0) ?_ ?_ (degN g P), if_pos rlt]
        · rw [cyN, hρ, if_pos rfl, ← e2]
          by_cases e : s'.2 = (q : Int)
          · rw [if_pos e, if_pos e, if_pos (by omega)]
          · rw [if_neg e, if_neg e, if_neg (by omega)]
        · intro k hk
          rw [cyN, hρ, if_neg (Ne.symm hk)]
          rfl
      · intro i hi
        simp only [if_neg hi]
    rw [key]
    split <;> simp
theorem GL.run {g : List (List Int)} {s0 : St} (W : WOK g s0) : ∀ (n m : Nat) (w w' : Rn) (c : Nat -> Nat), GL g s0 m w c -> RnOK g m w -> goP g n w = some w' -> ∃ c', GL g s0 (m + n) w' c' /\ RnOK g (m + n) w'
  | 0, m, w, w', c, H, R, h => by
    simp only [goP, Option.some.injEq] at h
    rw [← h]; exact ⟨c, H, R⟩
  | n + 1, m, w, w', c, H, R, h => by
    rw [goP] at h
    split at h
    · cases h
    · rename_i s' hs
      have := GL.run W n (m + 1) _ _ _ (H.step R hs) (R.step hs) h
      rw [show m + (n + 1) = m + 1 + n by omega]
      exact this
theorem walk_to2 {g : List (List Int)} {rs : List Int} {p : Int} (W : WOK g (rs, p)) : walkB g rs p = true := by
  unfold walkB
  have h1 := W.lo
  have h2 := W.hi
  have h3 := W.len
  simp only at h1 h2 h3
  rw [W.graph, inR_iff.2 ⟨h1, by omega⟩, decide_eq_true h3, Bool.true_and, Bool.true_and, Bool.true_and, List.all_eq_true]
  intro x hx
  obtain ⟨i, hi, rfl⟩ := List.mem_iff_getElem.1 hx
  rw [List.length_zip] at hi
  have := W.rot i (by simp only; omega) (by omega)
  rw [List.getElem_zip]
  unfold rotB
  rw [inR_iff]
  exact this
theorem sumN_mono {f : Nat -> Nat} {m : Nat} : ∀ {n : Nat}, m ≤ n -> sumN f m ≤ sumN f n
  | 0, h => by rw [Nat.le_zero.1 h]; exact Nat.le_refl _
  | n + 1, h => by
    by_cases e : m = n + 1
    · rw [e]; exact Nat.le_refl _
    · have := sumN_mono (f := f) (m := m) (n := n) (by omega)
      rw [sumN]; omega
theorem run_all {g : List (List Int)} {rs : List Int} {p n : Int} (hw : walkB g rs p = true) (hn : inR 0 2000 n = true) : useP g rs p n = (match goP g n.toNat (go0 g (rs, p)) with | none => ([], false) | some r => (r.us, true)) /\ visP g rs p n = (match goP g n.toNat (go0 g (rs, p)) with | none => ([], false) | some r => (r.vs, true)) /\ runOfP g rs p n = (match goP g n.toNat (go0 g (rs, p)) with | none => (([], 0), false) | some r => (r.s, true)) /\ (inR 0 200 n = true -> passP g rs p n = (match goP g n.toNat (go0 g (rs, p)) with | none => ([], false) | some r => (r.ps, true))) := by
  have a1 := go_run g Rn.us useU (fun _ _ => rfl) n.toNat (go0 g (rs, p))
  have a2 := go_run g Rn.vs visU (fun _ _ => rfl) n.toNat (go0 g (rs, p))
  have a3 := go_run g (fun _ => ()) (fun (_ : Unit) _ _ => ()) (fun _ _ => rfl) n.toNat (go0 g (rs, p))
  have a4 := go_run g Rn.ps passU (fun _ _ => rfl) n.toNat (go0 g (rs, p))
  rw [show (go0 g (rs, p)).us = zerosR g from rfl, show (go0 g (rs, p)).s = (rs, p) from rfl] at a1
  rw [show (go0 g (rs, p)).vs = List.replicate g.length 0 from rfl, show (go0 g (rs, p)).s = (rs, p) from rfl] at a2
  rw [show (go0 g (rs, p)).s = (rs, p) from rfl] at a3
  rw [show (go0 g (rs, p)).ps = [p] from rfl, show (go0 g (rs, p)).s = (rs, p) from rfl] at a4
  refine ⟨?_, ?_, ?_, fun h2 => ?_⟩
  · unfold useP; rw [hw, hn, a1]; cases goP g n.toNat (go0 g (rs, p)) <;> rfl
  · unfold visP; rw [hw, hn, a2]; cases goP g n.toNat (go0 g (rs, p)) <;> rfl
  · unfold runOfP; rw [hw, hn, a3]; cases goP g n.toNat (go0 g (rs, p)) <;> rfl
  · unfold passP; rw [hw, h2, a4]; cases goP g n.toNat (go0 g (rs, p)) <;> rfl
theorem k_wWalk {S S' : Nat -> Prop} {h : Heap} {a b : Sl} {xs ys : List Int} (H : RdI S h a xs) (H' : RdI S' h b ys) (p q : Int) : Ret Tryz.prog 38 #[.agg #[a.v, VI p], .agg #[b.v, VI q]] h (VB (decide (p = q /\ xs = ys))) := by
  intro K HK
  refine v38 a p b q h K ⟨fun e b1 b2 h2 hb1 hb2 f2 hL2 => ?_, fun e b1 b2 h2 hb1 hb2 f2 hL2 => ?_⟩
  · simp only [decide_eq_true_eq] at e
    have f2 := f2.in_nil
    refine k_wSame (H.no f2) (H'.no f2) _ ⟨_, rfl, hL2, ?_⟩
    rw [show decide (p = q /\ xs = ys) = decide (xs = ys) by simp [e]] at HK
    exact HK h2 f2
  · simp only [decide_eq_false_iff_not] at e
    rw [show decide (p = q /\ xs = ys) = false by simp [e]] at HK
    exact HK h2 f2.in_nil
theorem k_drwalk {a n b : Nat} {h : Heap} {c : Sl} {i sd : Int} (V : IsVar h b [c.v, VI i, .int .u64 sd]) (hb : a ≤ b) (D : CurD a n h c i) (hn : n ≤ 100000) (K : Value -> Heap -> Prop) (HK : ∀ (t w : Sl) (gs : List (List Int)) (rs : List Int) (p i' sd' : Int) h', gs.length ≤ 9 -> RdR (fun k => h.size ≤ k) h' t gs -> RdI (fun k => h.size ≤ k) h' w rs -> IsVar h' b [c.v, VI i', .int .u64 sd'] -> CurD a (n + 300) h' c i' -> Fr (In [b]) h h' -> K (.tuple #[.agg #[t.v], .agg #[w.v, VI p]]) h') : callM Tryz.prog 67 #[VP b 0] h K := by
  have lb := V.lt
  refine v67 b c i sd h K (.cons V (by simp) .nil) fun b2 b3 h2 hb2 hb3 f2 hL2 => ?_
  have f2 := f2.in_nil
  have z2 := f2.size
  have l3 : b3 < h2.size := hL2.head.lt
  have l2 : b2 < h2.size := hL2.tail.head.lt
  have fin : ∀ (h' : Heap), Fr (fun k => k = b ∨ h.size ≤ k) h h' -> Fr (In [b]) h h' := fun h' f => f.mono fun k hk hk2 => by
    rcases hk2 with e | e
    · simp [In, e]
    · omega
  have inb : ∀ {x y : Heap}, Fr (In [b]) x y -> Fr (fun k => k = b ∨ h.size ≤ k) x y := fun f => f.mono fun k _ hk => .inl (by simpa [In] using hk)
  refine k_drgraph9 hL2.tail.tail.head hb (D.no f2) (by omega) _ fun t gs i3 sd3 h3 gl G3 V3 D3 f3 => ⟨c, i3, sd3, t, rfl, vcur hL2 2 rfl f3 V3, fun b4 h5 hb4 f5 hL5 => ?_⟩
  have f5 := f5.in_nil
  have z3 := f3.size
  have z5 := f5.size
  have l4 : b4 < h5.size := hL5.head.lt
  have G5 : RdR (fun k => h2.size ≤ k /\ k < h3.size) h5 t gs := G3.lowS.no f5
  have f05 : Fr (fun k => k = b ∨ h.size ≤ k) h h5 := (f2.of_no.trans (inb f3)).trans f5.of_no
  refine k_spec_grGood G5 _ fun h6 f6 => ⟨_, rfl, hL5.of_no f6, fun e h8 f8 hL8 => ?_, fun e => ?_⟩
  · have z6 := f6.size
    have off : ∀ k, (h2.size ≤ k /\ k < h3.size) -> ¬ In [b3, b2] k := fun k hk hk2 => by
      simp only [In, List.mem_cons, List.not_mem_nil, or_false] at hk2
      omega
    exact HK t nilSl gs [] 0 i3 sd3 h8 gl (((G5.no f6).fr f8 off).mono fun k hk => by omega) (RdV.nil _ _ _) hL8.tail.tail.tail.head (((((D3.no f5).no f6).fr f8 fun k hk hk2 => by simp only [In, List.mem_cons, List.not_mem_nil, or_false] at hk2; omega)).up (by omega)) (fin _ ((f05.trans f6.of_no).trans (f8.mono fun k _ hk => .inr (by simp only [In, List.mem_cons, List.not_mem_nil, or_false] at hk; omega))))
  have z6 := f6.size
  have hL6 := hL5.of_no f6
  refine k_sureWalk hL6.tail.tail.tail.head hb ((D3.no f5).no f6) (by omega) (G5.no f6) (fun hk => by omega) (by omega) _ fun w rs p i9 sd9 h9 o9 n9 V9 D9 f9 => ⟨c, i9, sd9, w, p, rfl, vcur hL6 3 rfl f9 V9, fun b5 h11 hb5 f11 hL11 => ?_⟩
  have f11 := f11.in_nil
  have z9 := f9.size
  have z11 := f11.size
  have l5 : b5 < h11.size := hL11.head.lt
  have f011 : Fr (fun k => k = b ∨ h.size ≤ k) h h11 := ((f05.trans f6.of_no).trans (inb f9)).trans f11.of_no
  generalize hF : (fun k => Iv h6.size h9.size k ∨ h11.size ≤ k) = F
  have F1 : ∀ k, F k -> h6.size ≤ k /\ k ≠ b5 := fun k hk => by rw [← hF] at hk; rcases hk with hk | hk; have a1 := hk.1; have a2 := hk.2; omega; omega
  have F2 : ∀ k, h11.size ≤ k -> F k := fun k hk => by rw [← hF]; exact .inr hk
  have o11 : OwI h11 F w rs := (Ow.no o9 f11).mono fun k _ hk => by rw [← hF]; exact .inl hk
  have wn := RdI.len o9.rdF
  have tn := G5.len
  have G11 : RdR (fun k => h2.size ≤ k /\ k < h3.size) h11 t gs := (((G5.no f6).fr f9 fun k hk hk2 => by simp [In] at hk2; omega)).no f11
  have ob : ∀ {X Y : Heap} {x : Sl} {zs : List Int}, OwI X F x zs -> Fr (In [b]) X Y -> OwI Y F x zs := fun O f => Ow.fr O f fun k hk hk2 => by have := F1 _ (O.foot hk).1; simp [In] at hk2; omega
  have oG : ∀ {X Y : Heap}, RdR (fun k => h2.size ≤ k /\ k < h3.size) X t gs -> Fr (In [b]) X Y -> RdR (fun k => h2.size ≤ k /\ k < h3.size) Y t gs := fun G f => G.fr f fun k hk hk2 => by simp [In] at hk2; omega
  have oF : ∀ {X Y : Heap}, RdR (fun k => h2.size ≤ k /\ k < h3.size) X t gs -> Fr F X Y -> RdR (fun k => h2.size ≤ k /\ k < h3.size) Y t gs := fun G f => G.fr f fun k hk hk2 => by have := F1 _ hk2; omega
  have uF : ∀ {X Y : Heap}, Fr F X Y -> Fr (fun k => k = b ∨ h.size ≤ k) X Y := fun f => f.mono fun k _ hk => .inr (by have := F1 _ hk; omega)
  have dF : ∀ {X Y : Heap} {m : Nat} {q : Int}, CurD a m X c q -> Fr F X Y -> CurD a m Y c q := fun D f => D.fr f fun k hk hk2 => by have := F1 _ hk2; omega
  have off : ∀ A B C E G (r : Nat × List Value), r ∈ [(b5, A), (b4, B), (b3, C), (b2, E), (b, G)] -> ¬ F r.1 := fun A B C E G r hr hk => by
    have := F1 _ hk
    simp only [List.mem_cons, List.not_mem_nil, or_false] at hr
    rcases hr with rfl | rfl | rfl | rfl | rfl <;> simp only at this <;> omega
  refine ⟨fun x q d i' sd' h' => d = c /\ CurD a (n + 250) h' c i' /\ RdR (fun k => h2.size ≤ k /\ k < h3.size) h' t gs /\ (∃ rs, RdI (fun k => h6.size ≤ k /\ k ≠ b5) h' x rs) /\ Fr (fun k => k = b ∨ h.size ≤ k) h h' /\ h11.size ≤ h'.size, ?_, ?_⟩
  · refine k_pick hL11.tail.tail.tail.tail.head hb (D9.no f11) (by omega) 16 _ fun y i12 sd12 h12 y0 y1 V12 D12 f12 => ⟨c, i12, sd12, y, rfl, vcur hL11 4 rfl f12 V12, fun _ => ?_, fun _ => ⟨fun _ => ⟨?_, ?_⟩, fun _ => ⟨fun _ => ?_, fun _ => ?_⟩⟩⟩
    · have hL12 := vcur hL11 4 rfl f12 V12
      have z12 := f12.size
      refine eop_lit rIs (fun k => h12.size ≤ k) (fun _ h => h) 3 (by omega) [VI (-1), VI (t.n : Int), VI 4611686018427387904] rfl rfl fun u h13 n13 c13 o13 f13 m13 _ => ⟨u, rfl, hL12.of_no f13, ?_⟩
      have r13 : RdI (fun k => h12.size ≤ k) h13 u [-1, (t.n : Int), 4611686018427387904] := o13.rdF
      refine k_among (hL12.of_no f13).tail.tail.tail.tail.head hb (D12.no f13) (by omega) r13 (by omega) (by simp) _ fun v i14 sd14 h14 hv V14 D14 f14 => ⟨c, i14, sd14, v, rfl, vcur (hL12.of_no f13) 4 rfl f14 V14, fun h15 f15 hL15 => ?_⟩
      have z13 := f13.size
      have z14 := f14.size
      have z15 := f15.size
      have oo : OwI h14 F w rs := ob (Ow.no (ob o11 f12) f13) f14
      exact ⟨rfl, (D14.fr f15 fun k hk hk2 => by simp [In] at hk2; omega).up (by omega), (oG ((oG G11 f12).no f13) f14).fr f15 fun k hk hk2 => by simp [In] at hk2; omega, ⟨rs, ((show RdI F h14 w rs from oo.rdF).mono fun k hk => F1 k hk).fr f15 fun k hk hk2 => by simp [In] at hk2; omega⟩, (((f011.trans (inb f12)).trans f13.of_no).trans (inb f14)).trans (f15.mono fun k _ hk => .inr (by simp [In] at hk; omega)), by omega⟩
    · have hL12 := vcur hL11 4 rfl f12 V12
      have z12 := f12.size
      refine k_pick hL12.tail.tail.tail.tail.head hb D12 (by omega) _ _ fun y2 i16 sd16 h16 u0 u1 V16 D16 f16 => ⟨c, i16, sd16, y2, rfl, vcur hL12 4 rfl f16 V16, ?_⟩
      have hL16 := vcur hL12 4 rfl f16 V16
      have z16 := f16.size
      refine eop_lit rIs (fun k => h16.size ≤ k) (fun _ h => h) 3 (by omega) [VI (-1), VI 4, VI 5] rfl rfl fun u h17 n17 c17 o17 f17 m17 _ => ⟨u, rfl, hL16.of_no f17, ?_⟩
      have r17 : RdI (fun k => h16.size ≤ k) h17 u [-1, 4, 5] := o17.rdF
      have z17 := f17.size
      refine k_among (hL16.of_no f17).tail.tail.tail.tail.head hb (D16.no f17) (by omega) r17 (by omega) (by simp) _ fun v i18 sd18 h18 hv V18 D18 f18 => ⟨c, i18, sd18, v, rfl, vcur (hL16.of_no f17) 4 rfl f18 V18, ?_⟩
      have z18 := f18.size
      have hg := graph_len (not_f e)
      have u1 := u1 (by omega)
      exact int_set (ob (Ow.no (ob (ob o11 f12) f16) f17) f18) u0 (by omega) (vcur (hL16.of_no f17) 4 rfl f18 V18) (off _ _ _ _ _) _ fun h19 o19 f19 V19 => ⟨rfl, (dF D18 f19).up (by omega), oF (oG ((oG (oG G11 f12) f16).no f17) f18) f19, ⟨_, (show RdI F h19 w _ from o19.rdF).mono fun k hk => F1 k hk⟩, ((((f011.trans (inb f12)).trans (inb f16)).trans f17.of_no).trans (inb f18)).trans (uF f19), by have := f19.size; omega⟩
    · have hL12 := vcur hL11 4 rfl f12 V12
      have z12 := f12.size
      refine eop_lit rIs (fun k => h12.size ≤ k) (fun _ h => h) 3 (by omega) [VI (-1), VI 4, VI 5] rfl rfl fun u h20 n20 c20 o20 f20 m20 _ => ⟨u, rfl, hL12.of_no f20, ?_⟩
      have r20 : RdI (fun k => h12.size ≤ k /\ k < h20.size) h20 u [-1, 4, 5] := RdV.lt (o20.rdF)
      have hL20 := hL12.of_no f20
      have z20 := f20.size
      refine k_pick hL20.tail.tail.tail.tail.head hb (D12.no f20) (by omega) _ _ fun y2 i16 sd16 h16 u0 u1 V16 D16 f16 => ⟨c, i16, sd16, y2, rfl, vcur hL20 4 rfl f16 V16, ?_⟩
      have hL16 := vcur hL20 4 rfl f16 V16
      have z16 := f16.size
      refine k_among hL16.tail.tail.tail.tail.head hb D16 (by omega) (r20.fr f16 fun k hk hk2 => by simp [In] at hk2; omega) (by omega) (by simp) _ fun v i18 sd18 h18 hv V18 D18 f18 => ⟨c, i18, sd18, v, rfl, vcur hL16 4 rfl f18 V18, ?_⟩
      have z18 := f18.size
      have hg := graph_len (not_f e)
      have u1 := u1 (by omega)
      exact int_set (ob (ob (Ow.no (ob o11 f12) f20) f16) f18) u0 (by omega) (vcur hL16 4 rfl f18 V18) (off _ _ _ _ _) _ fun h19 o19 f19 V19 => ⟨rfl, (dF D18 f19).up (by omega), oF (oG (oG ((oG G11 f12).no f20) f16) f18) f19, ⟨_, (show RdI F h19 w _ from o19.rdF).mono fun k hk => F1 k hk⟩, ((((f011.trans (inb f12)).trans f20.of_no).trans (inb f16)).trans (inb f18)).trans (uF f19), by have := f19.size; omega⟩
    · have hL12 := vcur hL11 4 rfl f12 V12
      have z12 := f12.size
      exact eop_putI (ob o11 f12) (fun k hk => F2 k (by omega)) hL12 (off _ _ _ _ _) (by omega) _ fun u h25 o25 f25 V25 h26 f26 hL26 => ⟨rfl, ((dF D12 f25).fr f26 fun k hk hk2 => by simp [In] at hk2; omega).up (by omega), (oF (oG G11 f12) f25).fr f26 fun k hk hk2 => by simp [In] at hk2; omega, ⟨_, ((show RdI F h25 u _ from o25.rdF).mono fun k hk => F1 k hk).fr f26 fun k hk hk2 => by simp [In] at hk2; omega⟩, ((f011.trans (inb f12)).trans (uF f25)).trans (f26.mono fun k _ hk => .inr (by simp [In] at hk; omega)), by have := f25.size; have := f26.size; omega⟩
    · exact ⟨rfl, D12.up (by omega), oG G11 f12, ⟨rs, (show RdI F h12 w rs from (ob o11 f12).rdF).mono fun k hk => F1 k hk⟩, f011.trans (inb f12), f12.size⟩
  rintro x q d i13 sd13 h27 ⟨rfl, D27, G27, ⟨rs27, R27⟩, f27, z27⟩ hL27 h28 f28 hL28 h29 f29 hL29
  exact HK t x gs rs27 q i13 sd13 h29 gl (((G27.fr f28 fun k hk hk2 => by simp [In] at hk2; omega).fr f29 fun k hk hk2 => by simp [In] at hk2; omega).mono fun k hk => by omega) (((R27.fr f28 fun k hk hk2 => by simp [In] at hk2; omega).fr f29 fun k hk hk2 => by simp [In] at hk2; omega).mono fun k hk => by omega) hL29.tail.tail.tail.tail.head (((D27.fr f28 fun k hk hk2 => by simp [In] at hk2; omega).fr f29 fun k hk hk2 => by simp [In] at hk2; omega).up (by omega)) (fin _ ((f27.trans (f28.mono fun k _ hk => .inr (by simp [In] at hk; omega))).trans (f29.mono fun k _ hk => .inr (by simp [In] at hk; omega))))
theorem k_DrawIsWalk {S : Nat -> Prop} {h : Heap} {code : Sl} {vs : List Value} (C : RdV S h 1 code vs) (B : ∀ v, v ∈ vs -> ∃ m : Int, v = Value.int .u8 m /\ 0 ≤ m /\ m ≤ 255) (K : Value -> Heap -> Prop) (HK : ∀ (t w : Sl) (gs : List (List Int)) (rs : List Int) (p : Int) h', RdR (fun k => h.size ≤ k) h' t gs -> RdI (fun k => h.size ≤ k) h' w rs -> Fr No h h' -> K (.tuple #[.agg #[t.v], .agg #[w.v, VI p]]) h') : callM Tryz.prog 108 #[code.v] h K := by
  refine v108 code h K fun b1 b2 b3 h3 hb1 hb2 hb3 f3 hL3 => ?_
  have f3 := f3.in_nil
  have z3 := f3.size
  have l3 : b3 < h3.size := hL3.head.lt
  have l2 : b2 < h3.size := hL3.tail.head.lt
  have l1 : b1 < h3.size := hL3.tail.tail.head.lt
  have D3 : CurD h.size 0 h3 code 0 := ⟨⟨vs, ((RdV.lt C).mono fun k hk => hk.2).no f3, B⟩, by omega, by omega⟩
  refine k_drwalk hL3.head hb3 D3 (by omega) _ fun t w gs rs p i4 sd4 h4 gl G4 R4 V4 D4 f4 => ⟨code, i4, sd4, t, w, p, rfl, vcur hL3 0 rfl f4 V4, fun h6 f6 hL6 => ?_⟩
  have off : ∀ k, h3.size ≤ k -> ¬ In [b2, b1] k := fun k hk hk2 => by simp only [In, List.mem_cons, List.not_mem_nil, or_false] at hk2; omega
  have u4 : Fr (fun k => h.size ≤ k) h3 h4 := f4.mono fun k _ hk => by simp [In] at hk; omega
  have u6 : Fr (fun k => h.size ≤ k) h4 h6 := f6.mono fun k _ hk => by simp only [In, List.mem_cons, List.not_mem_nil, or_false] at hk; omega
  exact HK t w gs rs p h6 ((G4.fr f6 off).mono fun k hk => by omega) ((R4.fr f6 off).mono fun k hk => by omega) (((f3.of_no.trans u4).trans u6).mono fun k hk hk2 => absurd hk2 (by omega))
theorem itx_add {g : List (List Int)} {rs : List Int} (p : Int) (a : Nat) : ∀ b, itx g rs p (a + b) = itx g rs (itx g rs p a) b
  | 0 => rfl
  | b + 1 => by rw [← Nat.add_assoc, itx, itx_add p a b]; rfl
theorem rec_uni {g : List (List Int)} {s : St} (W : WOK g s) (hs : StrongP g) (hd : ∀ p, p < g.length -> degN g p ≠ 0) {n : Nat} (hn : 1 ≤ n) (h : sq g s n = some s) : uniB g s.1 s.2 = true := by
  have hl := all_left W hs hd hn h
  have Ws : WOK g (s.1, s.2) := W
  have hu : ∀ q : Nat, q < g.length -> ∃ k, itx g s.1 q k = s.2 := fun q hq => by
    have hc : cntA g s n q ≠ 0 := by have := hl q hq; have := hd q hq; omega
    obtain ⟨j, j1, j2⟩ := cnt_pos hc
    obtain ⟨k, hk⟩ := uni_back W h n 0 (by omega) j (Nat.zero_le _) j1
    exact ⟨k, by rw [← j2]; exact hk⟩
  have hnx : ∀ q : Int, 0 ≤ q -> q < (g.length : Int) -> 0 ≤ nx g s.1 q /\ nx g s.1 q < (g.length : Int) := fun q h0 h1 => by
    have hne : (g[q.toNat]'(by omega)).length ≠ 0 := by
      have := hd q.toNat (by omega)
      unfold degN at this
      rwa [getD_get (by omega)] at this
    obtain ⟨hr, hm, h2, e⟩ := nx_some Ws h0 h1 hne
    rw [e]
    have := (graph_mem W.graph (List.getElem_mem (show q.toNat < g.length by omega))).2 _ (List.getElem_mem hm)
    omega
  have hit : ∀ (q : Int) k, 0 ≤ q -> q < (g.length : Int) -> 0 ≤ itx g s.1 q k /\ itx g s.1 q k < (g.length : Int) := fun q k h0 h1 => by
    induction k with
    | zero => exact ⟨h0, h1⟩
    | succ k ih => rw [itx]; exact hnx _ ih.1 ih.2
  have w0 := W.lo
  have w1 := W.hi
  obtain ⟨c, hc1, hc⟩ : ∃ c, 1 ≤ c /\ itx g s.1 s.2 c = s.2 := by
    have r := hnx s.2 w0 w1
    obtain ⟨k, hk⟩ := hu (nx g s.1 s.2).toNat (by omega)
    refine ⟨1 + k, by omega, ?_⟩
    rw [itx_add]
    show itx g s.1 (nx g s.1 s.2) k = s.2
    rw [show (((nx g s.1 s.2).toNat : Nat) : Int) = nx g s.1 s.2 by omega] at hk
    exact hk
  have hcm : ∀ m, itx g s.1 s.2 (c * m) = s.2 := fun m => by
    induction m with
    | zero => rfl
    | succ m ih => rw [Nat.mul_succ, itx_add, ih, hc]
  unfold uniB
  refine @decide_eq_true _ (Classical.propDecidable _) ?_
  intro p hp
  refine ⟨(hit p _ (by omega) (by omega)).1, ?_⟩
  obtain ⟨k, hk⟩ := hu p hp
  refine ⟨k + c * g.length, ?_, by rw [itx_add, hk, hcm]⟩
  have : 1 * g.length ≤ c * g.length := Nat.mul_le_mul_right _ hc1
  omega
def pairN (g : List (List Int)) (s : St) (x y : Int) : Nat -> Nat
  | 0 => 0
  | n + 1 => pairN g s x y n + (if posA g s n = x /\ posA g s (n + 1) = y then 1 else 0)
theorem pair_sum {g : List (List Int)} {s : St} (W : WOK g s) {x : Nat} {y : Int} (hx : x < g.length) : ∀ {n : Nat} {t : St}, sq g s n = some t -> pairN g s (x : Int) y n = sumN (fun k => if (g.getD x []).getD k 0 = y then cyN (s.1.getD x 0).toNat (degN g x) (cntA g s n x) k else 0) (degN g x)
  | 0, t, _ => by
    rw [pairN]
    have : ∀ m, sumN (fun k => if (g.getD x []).getD k 0 = y then cyN (s.1.getD x 0).toNat (degN g x) (cntA g s 0 x) k else 0) m = 0 := fun m => by
      induction m with
      | zero => rfl
      | succ m ih => rw [sumN, ih]; simp [cntA, cyN]
    rw [this]
  | n + 1, t', h => by
    rw [sq] at h
    cases hn : sq g s n with
    | none => rw [hn] at h; cases h
    | some t =>
      have hs1 : sq g s (n + 1) = some t' := by rw [sq]; exact h
      rw [hn] at h
      have hst : stepP g t = some t' := h
      rw [pairN, pair_sum W hx hn, posA_eq hn, posA_eq hs1, cntA, posA_eq hn]
      obtain ⟨e0, e1, e2⟩ := step_ex (sq_wok W hn) hst
      by_cases hp : t.2 = (x : Int)
      · have ex : t.2.toNat = x := by omega
        rw [ex] at e0 e2
        have hr := rotE W hn hx e0
        rw [hr, Int.toNat_natCast] at e2
        rw [if_pos hp]
        have ek : (((s.1.getD x 0).toNat + cntA g s n x) % degN g x + 1) % (g.getD x []).length = ((s.1.getD x 0).toNat + cntA g s n x + 1) % degN g x := by
          show (_ % degN g x + 1) % degN g x = _
          rw [Nat.add_mod, Nat.mod_mod, ← Nat.add_mod]
        rw [ek] at e2
        have hlt : ((s.1.getD x 0).toNat + cntA g s n x + 1) % degN g x < degN g x := Nat.mod_lt _ (Nat.pos_of_ne_zero e0)
        have := sumN_one (f := fun k => if (g.getD x []).getD k 0 = y then cyN (s.1.getD x 0).toNat (degN g x) (cntA g s n x) k else 0) (f' := fun k => if (g.getD x []).getD k 0 = y then cyN (s.1.getD x 0).toNat (degN g x) (cntA g s n x + 1) k else 0) (p := ((s.1.getD x 0).toNat + cntA g s n x + 1) % degN g x) (d := if t'.2 = y then 1 else 0) (by
          rw [← e2]
          by_cases hy : t'.2 = y
          · rw [if_pos hy, if_pos hy, if_pos hy, cyN, if_pos rfl]
          · rw [if_neg hy, if_neg hy, if_neg hy]) (fun i hi => by
          rw [cyN, if_neg (Ne.symm hi)]
          rfl) (degN g x)
        rw [this, if_pos hlt]
        by_cases hy : t'.2 = y
        · rw [if_pos ⟨hp, hy⟩, if_pos hy]
        · rw [if_neg fun q => hy q.2, if_neg hy]
      · rw [if_neg hp, if_neg fun q => hp q.1]
        rfl
theorem cyN_full {r d k : Nat} (hk : k < d) : cyN r d d k = 1 := by
  rw [cyN_eq hk, Nat.div_self (by omega), Nat.mod_self, if_neg (by omega)]
theorem pair_full {g : List (List Int)} {s t : St} (W : WOK g s) {x n : Nat} {y : Int} (hx : x < g.length) (h : sq g s n = some t) (hc : cntA g s n x = degN g x) : pairN g s (x : Int) y n = sumN (fun k => if (g.getD x []).getD k 0 = y then 1 else 0) (degN g x) := by
  rw [pair_sum W hx h, hc]
  exact sumN_congr fun k hk => by rw [cyN_full hk]
@[reducible] def hitT (q : Int) : Unit -> St -> Bool × Unit := fun _ s => (decide (s.2 = q), ())
theorem hit_yes {g : List (List Int)} {q : Int} : ∀ (i f : Nat) (n : Int) (s u : St), 0 ≤ n -> i < f -> sq g s i = some u -> u.2 = q -> (∀ j, j < i -> ∀ v, sq g s j = some v -> v.2 ≠ q) -> firstGo g (hitT q) 0 f n () s = (n + i, true)
  | _, 0, _, _, _, _, h, _, _, _ => by omega
  | 0, f + 1, n, s, u, n0, _, hu, hq, _ => by
    simp only [sq, Option.some.injEq] at hu
    subst hu
    rw [firstGo, if_pos n0, if_pos (by simp [hitT, hq])]
    simp
  | i + 1, f + 1, n, s, u, n0, hi, hu, hq, hj => by
    have h0 := hj 0 (by omega) s rfl
    rw [firstGo, if_pos n0, if_neg (by simp [hitT, h0])]
    cases hs : stepP g s with
    | none =>
      have : sq g s 1 = none := by rw [sq, sq]; exact hs
      have := sq_none this i
      rw [Nat.add_comm, hu] at this
      cases this
    | some s' =>
      rw [sq_succ' g hs] at hu
      simp only
      rw [hit_yes i f (n + 1) s' u (by omega) (by omega) hu hq fun j h v hv => hj (j + 1) (by omega) v (by rw [sq_succ' g hs]; exact hv)]
      congr 1
      omega
theorem cov_yes {g : List (List Int)} : ∀ (f : Nat) (n : Int) (met : List Bool) (s : St) (N : Int), WOK g s -> 0 ≤ n -> met.length = g.length -> firstGo g metT 0 f n met s = (N, true) -> ∃ i, i < f /\ N = n + i /\ sq g s i ≠ none /\ (∀ q, q < g.length -> met.getD q false = true ∨ ∃ j u, j ≤ i /\ sq g s j = some u /\ u.2 = (q : Int)) /\ (i = 0 ∨ ∃ q, q < g.length /\ met.getD q false = false /\ ∀ j, j < i -> ∀ u, sq g s j = some u -> u.2 ≠ (q : Int))
  | 0, n, met, s, N, W, n0, hl, h => by simp [firstGo] at h
  | f + 1, n, met, s, N, W, n0, hl, h => by
    have w0 := W.lo
    have w1 := W.hi
    have hset : ∀ q, q < g.length -> (met.set s.2.toNat true).getD q false = if s.2 = (q : Int) then true else met.getD q false := fun q hq => by
      simp only [List.getD, List.getElem?_set]
      by_cases e : s.2.toNat = q
      · rw [if_pos e, if_pos (by omega), if_pos (by omega)]; rfl
      · rw [if_neg e, if_neg (by omega)]
    rw [firstGo, if_pos n0] at h
    cases ht : (metT met s).1 with
    | true =>
      rw [if_pos ht] at h
      refine ⟨0, by omega, by have := congrArg Prod.fst h; simp only at this; omega, by simp [sq], fun q hq => ?_, .inl rfl⟩
      have hq2 := hset q hq
      by_cases e : s.2 = (q : Int)
      · exact .inr ⟨0, s, Nat.le_refl _, rfl, e⟩
      · rw [if_neg e] at hq2
        refine .inl ?_
        rw [← hq2]
        simp only [metT, Bool.not_eq_true', List.any_eq_false, beq_iff_eq] at ht
        have hm : q < (met.set s.2.toNat true).length := by simp; omega
        have := ht _ (List.getElem_mem hm)
        rw [List.getD_eq_getElem?_getD, List.getElem?_eq_getElem hm, Option.getD_some]
        cases hx : (met.set s.2.toNat true)[q] with
        | true => rfl
        | false => rw [hx] at this; exact absurd rfl this
    | false =>
      rw [if_neg (by rw [ht]; simp)] at h
      cases hs : stepP g s with
      | none => rw [hs] at h; simp at h
      | some s' =>
        rw [hs] at h
        simp only at h
        obtain ⟨i, i1, i2, i3, i4, i5⟩ := cov_yes f (n + 1) _ s' N (W.step hs) (by omega) (by show (met.set s.2.toNat true).length = _; simp; exact hl) h
        have sh := sq_succ' g hs
        refine ⟨i + 1, by omega, by omega, by rw [sh]; exact i3, fun q hq => ?_, .inr ?_⟩
        · rcases i4 q hq with hm | ⟨j, u, j1, j2, j3⟩
          · have hm : (met.set s.2.toNat true).getD q false = true := hm
            rw [hset q hq] at hm
            by_cases e : s.2 = (q : Int)
            · exact .inr ⟨0, s, by omega, rfl, e⟩
            · rw [if_neg e] at hm; exact .inl hm
          · exact .inr ⟨j + 1, u, by omega, by rw [sh]; exact j2, j3⟩
        · rcases i5 with rfl | ⟨q, q1, q3, q2⟩
          · simp only [metT, Bool.not_eq_false', List.any_eq_true, beq_iff_eq] at ht
            obtain ⟨b, hb, hb2⟩ := ht
            subst hb2
            obtain ⟨q, hq, hq2⟩ := List.getElem_of_mem hb
            have hq' : q < g.length := by simp at hq; omega
            have hs2 := hset q hq'
            rw [List.getD_eq_getElem?_getD, List.getElem?_eq_getElem hq, Option.getD_some, hq2] at hs2
            have hne : s.2 ≠ (q : Int) := fun e => by rw [if_pos e] at hs2; cases hs2
            rw [if_neg hne] at hs2
            refine ⟨q, hq', hs2.symm, fun j hj u hu => ?_⟩
            have : j = 0 := by omega
            subst this
            simp only [sq, Option.some.injEq] at hu
            subst hu
            exact hne
          · have q3 : (met.set s.2.toNat true).getD q false = false := q3
            rw [hset q q1] at q3
            have hne : s.2 ≠ (q : Int) := fun e => by rw [if_pos e] at q3; cases q3
            rw [if_neg hne] at q3
            refine ⟨q, q1, q3, fun j hj u hu => ?_⟩
            cases j with
            | zero =>
              simp only [sq, Option.some.injEq] at hu
              subst hu
              exact hne
            | succ j => exact q2 j (by omega) u (by rw [sh] at hu; exact hu)
theorem cov_hit {g : List (List Int)} {rs : List Int} {p : Int} (h : (coverP g rs p).2 = true) : 0 ≤ (coverP g rs p).1 /\ (coverP g rs p).1 ≤ 2000 /\ (∀ q : Nat, q < g.length -> ∃ i : Nat, hitP g rs p (q : Int) = ((i : Int), true) /\ (i : Int) ≤ (coverP g rs p).1) /\ ((coverP g rs p).1 = 0 ∨ ∃ q : Nat, q < g.length /\ (hitP g rs p (q : Int)).1 = (coverP g rs p).1) := by
  have hw : walkB g rs p = true := by
    cases hw : walkB g rs p with
    | true => rfl
    | false => unfold coverP at h; rw [hw] at h; cases h
  have W := wok_of hw
  have e : firstGo g metT 0 2001 0 (List.replicate g.length false) (rs, p) = ((coverP g rs p).1, true) := by
    have : coverP g rs p = firstGo g metT 0 2001 0 (List.replicate g.length false) (rs, p) := by unfold coverP; rw [if_pos hw]
    rw [← this]
    exact Prod.ext rfl h
  obtain ⟨i, i1, i2, i3, i4, i5⟩ := cov_yes 2001 0 _ _ _ W (Int.le_refl _) (by simp) e
  have hit : ∀ q : Nat, q < g.length -> hitP g rs p (q : Int) = firstGo g (hitT (q : Int)) 0 2001 0 () (rs, p) := fun q hq => by
    unfold hitP
    rw [hw, W.graph, if_pos]
    rw [Bool.true_and, Bool.true_and, inR_iff]
    omega
  have fst : ∀ q : Nat, q < g.length -> ∃ j u, j ≤ i /\ sq g (rs, p) j = some u /\ u.2 = (q : Int) := fun q hq => by
    rcases i4 q hq with hm | hm
    · rw [List.getD_eq_getElem?_getD, List.getElem?_replicate, if_pos hq, Option.getD_some] at hm
      cases hm
    · exact hm
  have least : ∀ q : Nat, q < g.length -> ∃ j u, j ≤ i /\ sq g (rs, p) j = some u /\ u.2 = (q : Int) /\ ∀ k, k < j -> ∀ v, sq g (rs, p) k = some v -> v.2 ≠ (q : Int) := fun q hq => by
    obtain ⟨j, u, a1, a2, a3⟩ := fst q hq
    induction j using Nat.strongRecOn generalizing u with
    | ind j ih =>
      by_cases hx : ∃ k, k < j /\ ∃ v, sq g (rs, p) k = some v /\ v.2 = (q : Int)
      · obtain ⟨k, hk, v, b1, b2⟩ := hx
        exact ih k hk v (by omega) b1 b2
      · exact ⟨j, u, a1, a2, a3, fun k hk v b1 b2 => hx ⟨k, hk, v, b1, b2⟩⟩
  refine ⟨by omega, by omega, fun q hq => ?_, ?_⟩
  · obtain ⟨j, u, a1, a2, a3, a4⟩ := least q hq
    refine ⟨j, ?_, by omega⟩
    rw [hit q hq, hit_yes j 2001 0 (rs, p) u (Int.le_refl _) (by omega) a2 a3 a4, Int.zero_add]
  · rcases i5 with rfl | ⟨q, q1, _, q2⟩
    · exact .inl (by omega)
    · refine .inr ⟨q, q1, ?_⟩
      obtain ⟨j, u, a1, a2, a3, a4⟩ := least q q1
      have : j = i := by
        by_cases hj : j < i
        · exact absurd a3 (q2 j hj u a2)
        · omega
      rw [hit q q1, hit_yes j 2001 0 (rs, p) u (Int.le_refl _) (by omega) a2 a3 a4, this]
      show (0 : Int) + (i : Int) = _
      omega
theorem first_iff (g : List (List Int)) (P : St -> Bool) (frm : Int) : ∀ (f : Nat) (n : Int) (s : St), (firstGo g (fun (_ : Unit) s => (P s, ())) frm f n () s).2 = true ↔ ∃ i u, i < f /\ frm ≤ n + (i : Int) /\ sq g s i = some u /\ P u = true
  | 0, n, s => by
    rw [firstGo]
    exact ⟨fun h => (by cases h), fun ⟨i, _, h, _⟩ => (by omega)⟩
  | f + 1, n, s => by
    have stepc : (match stepP g s with
        | none => ((0 : Int), false)
        | some s' => firstGo g (fun (_ : Unit) s => (P s, ())) frm f (n + 1) () s').2 = true ↔ ∃ i u, 0 < i /\ i < f + 1 /\ frm ≤ n + (i : Int) /\ sq g s i = some u /\ P u = true := by
      cases hs : stepP g s with
      | none =>
        refine ⟨fun h => (by cases h), fun ⟨i, u, h0, h1, _, h2, _⟩ => ?_⟩
        have : sq g s 1 = none := by rw [sq, sq]; exact hs
        have := sq_none this (i - 1)
        rw [show 1 + (i - 1) = i by omega, h2] at this
        cases this
      | some s' =>
        simp only
        rw [first_iff g P frm f (n + 1) s']
        have sh := sq_succ' g hs
        constructor
        · rintro ⟨i, u, h1, h2, h3, h4⟩
          exact ⟨i + 1, u, by omega, by omega, by omega, by rw [sh]; exact h3, h4⟩
        · rintro ⟨i, u, h0, h1, h2, h3, h4⟩
          refine ⟨i - 1, u, by omega, by omega, ?_, h4⟩
          rw [← sh, show i - 1 + 1 = i by omega]; exact h3
    rw [firstGo]
    by_cases hf : frm ≤ n
    · rw [if_pos hf]
      by_cases hP : P s = true
      · rw [if_pos hP]
        exact ⟨fun _ => ⟨0, s, by omega, by omega, rfl, hP⟩, fun _ => rfl⟩
      · rw [if_neg hP]
        refine stepc.trans ⟨fun ⟨i, u, _, h⟩ => ⟨i, u, h⟩, fun ⟨i, u, h1, h2, h3, h4⟩ => ⟨i, u, ?_, h1, h2, h3, h4⟩⟩
        cases i with
        | zero => simp only [sq, Option.some.injEq] at h3; rw [← h3] at h4; exact absurd h4 hP
        | succ i => omega
    · rw [if_neg hf]
      refine stepc.trans ⟨fun ⟨i, u, _, h⟩ => ⟨i, u, h⟩, fun ⟨i, u, h1, h2, h3, h4⟩ => ⟨i, u, ?_, h1, h2, h3, h4⟩⟩
      cases i with
      | zero => omega
      | succ i => omega
theorem goP_some {g : List (List Int)} : ∀ (n : Nat) (w : Rn) (t : St), sq g w.s n = some t -> ∃ r, goP g n w = some r /\ r.s = t
  | 0, w, t, h => by
    simp only [sq, Option.some.injEq] at h
    exact ⟨w, rfl, h⟩
  | n + 1, w, t, h => by
    rw [goP]
    cases hs : stepP g w.s with
    | none =>
      have : sq g w.s 1 = none := by rw [sq, sq]; exact hs
      have := sq_none this n
      rw [Nat.add_comm, h] at this
      cases this
    | some s' =>
      simp only
      exact goP_some n _ t (by rw [← sq_succ' g hs]; exact h)
theorem run_sq {g : List (List Int)} {rs : List Int} {p : Int} {n : Nat} {t : St} (hw : walkB g rs p = true) (hn : n ≤ 2000) (h : sq g (rs, p) n = some t) : runOfP g rs p (n : Int) = (t, true) := by
  obtain ⟨_, _, e, _⟩ := run_all (n := (n : Int)) hw (inR_iff.2 (by omega))
  obtain ⟨r, hr, rfl⟩ := goP_some n (go0 g (rs, p)) t h
  rw [Int.toNat_natCast, hr] at e
  exact e
theorem rec_iff {g : List (List Int)} {rs : List Int} {p : Int} (hw : walkB g rs p = true) : (recP g rs p).1 = true ↔ ∃ i, 1 ≤ i /\ i ≤ 2000 /\ sq g (rs, p) i = some (rs, p) := by
  unfold recP
  rw [if_pos hw]
  show (firstGo g (fun (_ : Unit) s => (decide (p = s.2 /\ rs = s.1), ())) 1 2001 0 () (rs, p)).2 = true ↔ _
  rw [first_iff g (fun s => decide (p = s.2 /\ rs = s.1))]
  constructor
  · rintro ⟨i, u, h1, h2, h3, h4⟩
    simp only [decide_eq_true_eq] at h4
    refine ⟨i, by omega, by omega, ?_⟩
    rw [h3, h4.1, h4.2]
  · rintro ⟨i, h1, h2, h3⟩
    exact ⟨i, _, by omega, by omega, h3, by simp⟩
theorem tot_step {g : List (List Int)} {s : St} (W : WOK g s) {s' : St} (h : stepP g s = some s') : totR g ≠ 0 := by
  obtain ⟨e0, _, _⟩ := step_ex W h
  intro ht
  rw [← sumN_deg] at ht
  have w0 := W.lo
  have w1 := W.hi
  have h1 := sumN_mono (f := degN g) (m := s.2.toNat + 1) (n := g.length) (by omega)
  rw [ht, sumN] at h1
  exact e0 (show degN g s.2.toNat = 0 by omega)
theorem per_again {g : List (List Int)} {rs : List Int} {p : Int} (h : (perOfP g rs p).2.2 = true) : ∃ (m k : Nat) (x : St), m < k /\ k ≤ 2000 /\ (perOfP g rs p).1 = (m : Int) /\ (perOfP g rs p).2.1 = ((k - m : Nat) : Int) /\ WOK g x /\ runOfP g rs p (m : Int) = (x, true) /\ runOfP g rs p (k : Int) = (x, true) /\ walkB g rs p = true /\ ((recP g rs p).1 = decide ((m : Int) = 0)) /\ (strongB g = true -> balB g = true -> k - m = totR g) /\ (strongB g = true -> uniB g x.1 x.2 = true) := by
  have hw : walkB g rs p = true := by
    cases hw : walkB g rs p with
    | true => rfl
    | false => unfold perOfP at h; rw [hw] at h; cases h
  have W := wok_of hw
  have e : perOfP g rs p = perP g (rs, p) := by unfold perOfP; rw [if_pos hw]
  rw [e] at h ⊢
  obtain ⟨m, k, R, hk, hper⟩ := per_some h
  have hlt := R.lt
  obtain ⟨x, hm⟩ := Option.ne_none_iff_exists'.1 R.some
  have hx : sq g (rs, p) k = some x := by rw [← R.eq]; exact hm
  have Wx := sq_wok W hm
  have ht : totR g ≠ 0 := by
    have := R.all 1
    cases hs : stepP g (rs, p) with
    | none => exact absurd (by rw [sq, sq]; exact hs) this
    | some s' => exact tot_step W hs
  rw [hper]
  refine ⟨m, k, x, hlt, hk, rfl, by simp only; omega, Wx, run_sq hw (by omega) hm, run_sq hw hk hx, hw, ?_, fun hs hb => (eu_facts W.graph hs hb ht W R hm).1, fun hs => ?_⟩
  · rw [Bool.eq_iff_iff, rec_iff hw, decide_eq_true_iff]
    constructor
    · rintro ⟨i, i1, i2, i3⟩
      have := ((R.iff (a := 0) (b := i) (by omega)).1 (by rw [i3]; rfl)).1
      omega
    · intro hz
      have hz : m = 0 := by omega
      subst hz
      exact ⟨k, by omega, hk, by rw [← R.eq]; rfl⟩
  · have hS := strongP_of W.graph hs
    have key : sq g x (k - m) = some x := by
      have := sq_add g (rs, p) m (k - m)
      rw [show m + (k - m) = k by omega, hm, hx] at this
      exact this.symm
    exact rec_uni Wx hS (deg_of hS ht) (n := k - m) (by omega) key
theorem pass_pos {g : List (List Int)} {t : St} : ∀ (n : Nat) (a : Nat) (L0 L : List Int) (s s' : St), sq g t a = some s -> L0.length = a + 1 -> (∀ i, i ≤ a -> L0.getD i 0 = posA g t i) -> runT g passU n L0 s = some (L, s') -> L.length = a + n + 1 /\ ∀ i, i ≤ a + n -> L.getD i 0 = posA g t i
  | 0, a, L0, L, s, s', hs, hl, hp, h => by
    simp only [runT, Option.some.injEq, Prod.mk.injEq] at h
    rw [← h.1]
    exact ⟨hl, hp⟩
  | n + 1, a, L0, L, s, s', hs, hl, hp, h => by
    rw [runT] at h
    cases hst : stepP g s with
    | none => rw [hst] at h; cases h
    | some u =>
      rw [hst] at h
      have hu : sq g t (a + 1) = some u := by rw [sq, hs]; exact hst
      have := pass_pos n (a + 1) (L0 ++ [u.2]) L u s' hu (by simp [hl]) (fun i hi => by
        by_cases e : i = a + 1
        · subst e
          rw [posA_eq hu, List.getD_eq_getElem?_getD, List.getElem?_append_right (by omega), hl]
          simp
        · rw [← hp i (by omega), List.getD_eq_getElem?_getD, List.getD_eq_getElem?_getD, List.getElem?_append_left (by omega)]) h
      exact ⟨by omega, fun i hi => this.2 i (by omega)⟩
theorem tour_all {g : List (List Int)} {p : Int} (h : (eulP g p).2 = true) : graphB g = true /\ (eulP g p).1.length = totR g + 1 /\ (∃ t, WOK g t /\ (∀ i, i ≤ totR g -> (eulP g p).1.getD i 0 = posA g t i) /\ posA g t 0 = p /\ posA g t (totR g) = p /\ ∀ (x : Nat) (y : Int), x < g.length -> pairN g t (x : Int) y (totR g) = sumN (fun k => if (g.getD x []).getD k 0 = y then 1 else 0) (degN g x)) := by
  have hc : eulC g p = true := by
    cases hc : eulC g p with
    | true => rfl
    | false => unfold eulP at h; rw [hc] at h; cases h
  have hp : (perP g (eulS g p)).2.2 = true := by
    cases hp : (perP g (eulS g p)).2.2 with
    | true => rfl
    | false => unfold eulP at h; rw [hc, hp] at h; cases h
  have hc' := hc
  unfold eulC at hc'
  simp only [Bool.and_eq_true, decide_eq_true_eq, inR_iff] at hc'
  obtain ⟨⟨hg, p0, p1⟩, hs, hb, ht⟩ := hc'
  obtain ⟨m, k, R, hk, hper⟩ := per_some hp
  have hlt := R.lt
  obtain ⟨s, hm⟩ := Option.ne_none_iff_exists'.1 R.some
  obtain ⟨Ws, etot, J, t, hJ, hsJ, htp, hmin, L, t', hrun, heul⟩ := eul_yes hc R hk hm
  have Wt := sq_wok Ws hsJ
  have hS := strongP_of hg hs
  have hd := deg_of hS ht
  have hk2 : sq g s (k - m) = some s := by
    have := sq_add g (eulS g p) m (k - m)
    rw [show m + (k - m) = k by omega, hm, ← R.eq, hm] at this
    exact this.symm
  have hT : sq g t (k - m) = some t := by
    have a1 := sq_add g s J (k - m)
    have a2 := sq_add g s (k - m) J
    rw [hsJ] at a1
    rw [hk2] at a2
    rw [Nat.add_comm, a1] at a2
    simp only [Option.bind_some] at a2
    rw [a2]; exact hsJ
  obtain ⟨e1, e2, e3⟩ := euler Wt hS (balP_of hb) hd (n := k - m) (by omega) hT
  rw [sumN_deg] at e1 e2 e3
  rw [heul]
  have h0 : posA g t 0 = p := htp
  obtain ⟨l1, l2⟩ := pass_pos (g := g) (t := t) (totR g) 0 [p] L t t' rfl rfl (fun i hi => by
    have : i = 0 := by omega
    subst this
    rw [h0]; rfl) hrun
  refine ⟨hg, by simp only; omega, t, Wt, fun i hi => l2 i (by omega), h0, by rw [posA_eq e1]; exact htp, fun x y hx => pair_full Wt hx e1 (e3 x hx)⟩
def inA (m : Nat) (xs : List Int) : Prop := ∀ y, y ∈ xs -> 0 ≤ y /\ y < (m : Int)
theorem inA.set {m : Nat} {xs : List Int} (H : inA m xs) (i : Nat) {v : Int} (h0 : 0 ≤ v) (h1 : v < (m : Int)) : inA m (xs.set i v) := fun y hy => by
  rcases List.mem_or_eq_of_mem_set hy with h | h
  · exact H y h
  · subst h; exact ⟨h0, h1⟩
theorem inA.get {m : Nat} {xs : List Int} (H : inA m xs) {i : Nat} (hi : i < xs.length) : 0 ≤ xs[i] /\ xs[i] < (m : Int) := H _ (List.getElem_mem hi)
theorem k_shufB {a n b : Nat} {h : Heap} {c : Sl} {i sd : Int} (V : IsVar h b [c.v, VI i, .int .u64 sd]) (hb : a ≤ b) (D : CurD a n h c i) (hn : n ≤ 1000000000) {m : Nat} (hm : m ≤ 100) (K : Value -> Heap -> Prop) (HK : ∀ (t : Sl) (xs : List Int) (i' sd' : Int) h', OwI h' (fun k => h.size ≤ k) t xs -> xs.length = m -> inA m xs -> IsVar h' b [c.v, VI i', .int .u64 sd'] -> CurD a (n + 200) h' c i' -> Fr (In [b]) h h' -> K t.v h') : callM Tryz.prog 130 #[VP b 0, VI (m : Int)] h K := by
  have lb := V.lt
  refine v130 b c i sd m h K (.cons V (by simp) .nil) ⟨fun n x p h' => 0 ≤ p /\ p + n = (m : Int) /\ (∃ xs, OwI h' (fun k => h.size ≤ k) x xs /\ xs.length = p.toNat /\ inA m xs) /\ Fr No h h', ⟨m, by omega, by omega, ⟨[], Ow.nil _ _ _ _, rfl, fun y hy => by cases hy⟩, Fr.refl _ _⟩, ?_⟩
  rintro n1 x p h1 ⟨p0, p1, ⟨xs, o1, e1, A1⟩, f1⟩ hL1
  have z1 := f1.size
  refine ⟨fun e => ?_, fun e => ?_⟩
  · simp only [decide_eq_true_eq] at e
    refine eop_putI o1 (fun k hk => by omega) hL1 (fun q hq hk => ?_) (by omega) (fun t2 h6 => ∃ m : Nat, m < n1 /\ _) fun y h3 o3 f3 V3 => ?_
    · simp only [List.mem_cons, List.not_mem_nil, or_false] at hq
      subst hq
      simp only at hk
      omega
    · rw [w64_eq _ (by omega) (by omega)]
      refine ⟨n1 - 1, by omega, by omega, by omega, ⟨_, o3, by simp; omega, fun z hz => ?_⟩, f1.fresh f3 fun k hk => by omega⟩
      rcases List.mem_append.mp hz with hz | hz
      · exact A1 z hz
      · simp only [List.mem_cons, List.not_mem_nil, or_false] at hz
        subst hz
        omega
  simp only [decide_eq_false_iff_not] at e
  have xn : x.n = xs.length := RdI.len o1.rdF
  refine ⟨fun n2 j c' i' sd' h' => 0 ≤ j /\ j + n2 = (m : Int) /\ c' = c /\ CurD a (n + 2 * j.toNat) h' c i' /\ (∃ ys, OwI h' (fun k => h.size ≤ k) x ys /\ ys.length = m /\ inA m ys) /\ Fr (In [b]) h h', ⟨m, by omega, by omega, rfl, (D.no f1).up (by omega), ⟨xs, o1, by omega, A1⟩, f1.of_no⟩, ?_⟩
  rintro n2 j c' i4 sd4 h4 ⟨j0, j1, rfl, D4, ⟨ys, o4, e4, A4⟩, f4⟩ hL4
  refine ⟨fun e5 => ?_, fun e5 => ?_⟩
  · simp only [decide_eq_true_eq] at e5
    refine k_pick hL4.head hb D4 (by omega) m _ fun y i5 sd5 h5 y0 y1 V5 D5 f5 => ⟨c', i5, sd5, y, rfl, .cons V5 (by simp) .nil, ?_⟩
    have y1 := y1 (by omega)
    have o5 : OwI h5 (fun k => h.size ≤ k) x ys := Ow.fr o4 f5 fun k hk hk2 => by have := (o4.foot hk).1; simp [In] at hk2; omega
    have R5 : RdI (fun k => h.size ≤ k) h5 x ys := o5.rdF
    have by1 := A4.get (show y.toNat < ys.length by omega)
    have by2 := A4.get (show j.toNat < ys.length by omega)
    obtain ⟨w1, w2, w3⟩ := o5.store1 j0 (by omega) (VI (ys[y.toNat]'(by omega)))
    rw [← List.map_set] at w2
    obtain ⟨u1, u2, u3⟩ := Ow.store1 w2 y0 (by omega) (VI (ys[j.toNat]'(by omega)))
    rw [← List.map_set] at u2
    have w3' : Fr (fun k => h.size ≤ k) h5 _ := w3.mono fun k _ hk => (o5.foot hk).1
    have u3' : Fr (fun k => h.size ≤ k) _ _ := u3.mono fun k _ hk => (w2.foot hk).1
    have off : ∀ q, q ∈ [(b, [c'.v, VI i5, Value.int .u64 sd5])] -> ¬ (h.size ≤ q.1) := fun q hq => by
      simp only [List.mem_cons, List.not_mem_nil, or_false] at hq
      subst hq
      simp only
      omega
    have hL5 : Vars h5 [(b, [c'.v, VI i5, Value.int .u64 sd5])] := .cons V5 (by simp) .nil
    refine ⟨R5.inb j0 (by omega), _, R5.get j0 (by omega), R5.inb y0 (by omega), _, R5.get y0 (by omega), R5.inb j0 (by omega), w1, hL5.fr w3' off, ?_⟩
    rintro h6 rfl hL6
    refine ⟨R5.inb y0 (by omega), u1, hL6.fr u3' off, ?_⟩
    rintro h7 rfl hL7
    rw [w64_eq _ (by omega) (by omega)]
    have zz := f4.size
    have z5 := f5.size
    refine ⟨n2 - 1, by omega, by omega, by omega, rfl, (((D5.fr w3' fun k hk hk2 => by omega).fr u3' fun k hk hk2 => by omega).up (by omega)), ⟨_, u2, by simp [e4], (A4.set _ by1.1 by1.2).set _ by2.1 by2.2⟩, ?_⟩
    exact (f4.trans f5).fresh2 (w3'.trans u3') fun k hk => hk
  · simp only [decide_eq_false_iff_not] at e5
    exact HK x ys i4 sd4 h4 o4 e4 A4 hL4.head (D4.up (by omega)) f4
theorem row_put2 {L : List (Nat × List Value)} {F : Nat -> Prop} {h : Heap} {s si : Sl} {xss : List (List Int)} {i : Int} (A : Heap -> Prop) (hA : ∀ h', Fr F h h' -> A h') (O : OwX h F s xss) (hF : ∀ k, h.size ≤ k -> F k) (h0 : 0 ≤ i) (h1 : i < (xss.length : Int)) (c0 : hcell h (s.at i 1) = some si.v) (hL : Vars h L) (hoff : ∀ p, p ∈ L -> ¬ F p.1) (hb : (xss[i.toNat]'(by omega)).length ≤ 1000000) (x : Int) (R : Heap -> Prop) (HR : ∀ h', OwX h' F s (xss.set i.toNat (xss[i.toNat]'(by omega) ++ [x])) -> Fr F h h' -> Vars h' L -> R h') : eop Tryz.prog (Instr.buildSlice tIs 1 #[(0, VI x)]) h fun rv h1 => ∃ t : Sl, rv = t.v /\ Vars h1 L /\ hcell h1 (s.at i 1) = some si.v /\ A h1 /\ A h1 /\ eop Tryz.prog (appS tIs tIs tIs si.v t.v) h1 fun rv2 h2 => ∃ t2 : Sl, rv2 = t2.v /\ Vars h2 L /\ A h2 /\ A h2 /\ InB s i /\ Writable h2 (s.at i 1) /\ Vars (hset h2 (s.at i 1) t2.v) L /\ ∀ h3, h3 = hset h2 (s.at i 1) t2.v -> Vars h3 L -> R h3 := by
  have Oi : OwX h (fun k => F k /\ k < h.size) s xss := O.mono fun k hk hk2 => ⟨hk2, hk⟩
  obtain ⟨sj, c1, c2, _⟩ := Oi.inner h0 h1
  have : sj = si := slv_inj (c1.symm.trans c0)
  subst this
  refine eop_lit rIs (fun k => h.size ≤ k) (fun _ h => h) 1 (by omega) [VI x] rfl rfl fun t h9 n9 c9 o9 f9 m9 _ => ⟨t, rfl, hL.of_no f9, hcell_fr c1 f9 (fun h => h), hA _ f9.of_no, hA _ f9.of_no, ?_⟩
  have s9 := f9.size
  have O9 := OwR.no Oi f9
  have c2' : OwI h9 F sj (xss[i.toNat]'(by omega)) := (Ow.no c2 f9).mono fun k _ hk => hk.1
  have on := c2'.rd.len
  have tn := o9.rd.len
  simp only [List.length_map, Nat.mul_one, List.length_cons, List.length_nil] at on tn
  refine eop_append rIs c2' (fun k hk => hF k (by omega)) o9.rd (plainVI [x]) (by omega) fun w h10 n10 o10 f10 d10 => ?_
  have g10 : Fr F h9 h10 := f10.mono fun k _ hk => (c2'.foot hk).1
  have V10 : Vars h10 L := (hL.of_no f9).fr g10 hoff
  have o10' : OwI h10 F w (xss[i.toNat]'(by omega) ++ [x]) := by rw [OwI, List.map_append]; exact o10
  obtain ⟨i11, w11, o11, f11⟩ := O9.outer2 h0 h1 (hcell_fr c1 f9 fun h => h) f10 (F' := F) o10' (fun k _ hk => hk.1) fun k hk => (d10 k hk).imp id fun hk2 hk3 => by have := hk3.2; omega
  have g11 : Fr F h10 _ := (O9.ownF f11).mono fun k _ hk => hk.1
  have V11 := V10.fr g11 hoff
  have a10 := hA _ (f9.of_no.trans g10)
  exact ⟨w, rfl, V10, a10, a10, i11, w11, V11, fun h3 e3 V3 => HR h3 (by rw [e3]; exact o11) (by rw [e3]; exact (f9.of_no.trans g10).trans g11) V3⟩
theorem RdR.tl {S : Nat -> Prop} {h : Heap} {s : Sl} {xss : List (List Int)} (H : RdR S h s xss) (h1 : 1 ≤ xss.length) : RdR S h (s.cut 1 1 s.n s.c) xss.tail := by
  obtain ⟨ss, e, V, R⟩ := H.out
  have sn := V.len
  simp only [List.length_map, Nat.mul_one] at sn
  have hc := RdV.cut V (l := 1) (m := s.n) (by omega) (Nat.le_refl _)
  have e2 : ((ss.map Sl.v).drop (1 * 1)).take ((s.n - 1) * 1) = ss.tail.map Sl.v := by
    cases ss with
    | nil => simp
    | cons x ss =>
      simp only [List.length_cons] at sn
      rw [show s.n - 1 = ss.length by omega]; simp [List.take_of_length_le]
  rw [e2] at hc
  refine ⟨ss.tail, by simp [e], hc, fun i a b => ?_⟩
  have := R (i + 1) (by simp at a; omega) (by simp at b; omega)
  simpa using this
theorem cycL_rows (n : Int) (both : Bool) : ∀ p r, r ∈ cycL' n both p -> r.length ≤ 2
  | 0, r, h => by cases h
  | p + 1, r, h => by
    rw [cycL', List.mem_append] at h
    rcases h with h | h
    · exact cycL_rows n both p r h
    · simp only [List.mem_cons, List.not_mem_nil, or_false] at h
      subst h
      unfold cycR
      cases both <;> simp
theorem rows_set {xss : List (List Int)} {B : Nat} (H : ∀ r, r ∈ xss -> r.length ≤ B) (i : Nat) (hi : i < xss.length) (x : Int) : ∀ r, r ∈ xss.set i (xss[i] ++ [x]) -> r.length ≤ B + 1 := fun r hr => by
  rcases List.mem_or_eq_of_mem_set hr with h | h
  · exact Nat.le_succ_of_le (H r h)
  · subst h
    have := H _ (List.getElem_mem hi)
    simp
    omega
theorem k_drbalanced {a n b : Nat} {h : Heap} {c : Sl} {i sd : Int} (V : IsVar h b [c.v, VI i, .int .u64 sd]) (hb : a ≤ b) (D : CurD a n h c i) (hn : n ≤ 1000000) (K : Value -> Heap -> Prop) (HK : ∀ (t : Sl) (gs : List (List Int)) (i' sd' : Int) h', gs.length ≤ 9 -> RdR (fun k => h.size ≤ k) h' t gs -> IsVar h' b [c.v, VI i', .int .u64 sd'] -> CurD a (n + 500) h' c i' -> Fr (In [b]) h h' -> K (.agg #[t.v]) h') : callM Tryz.prog 81 #[VP b 0] h K := by
  have lb := V.lt
  refine v81 b c i sd h K (.cons V (by simp) .nil) fun b2 h1 hb2 f1 hL1 => ?_
  have f1 := f1.in_nil
  have z1 := f1.size
  have l2 : b2 < h1.size := hL1.head.lt
  have fin : ∀ (h' : Heap), Fr (fun k => k = b ∨ h.size ≤ k) h h' -> Fr (In [b]) h h' := fun h' f => f.mono fun k hk hk2 => by
    rcases hk2 with e | e
    · simp [In, e]
    · omega
  have inb : ∀ {x y : Heap}, Fr (In [b]) x y -> Fr (fun k => k = b ∨ h.size ≤ k) x y := fun f => f.mono fun k _ hk => .inl (by simpa [In] using hk)
  refine k_one hL1.tail.head hb (D.no f1) (by omega) 6 _ fun q i2 sd2 h2 V2 D2 f2 => ⟨c, i2, sd2, q, rfl, vcur hL1 1 rfl f2 V2, fun _ => ?_, fun _ => ?_⟩
  · have hL2 := vcur hL1 1 rfl f2 V2
    have z2 := f2.size
    refine k_drgraph9 hL2.tail.head hb D2 (by omega) _ fun t gs i3 sd3 h3 gl G3 V3 D3 f3 => ⟨c, i3, sd3, t, rfl, vcur hL2 1 rfl f3 V3, fun h4 f4 hL4 => ?_⟩
    have g4 : Fr (fun k => k = b ∨ h.size ≤ k) h3 h4 := f4.mono fun k _ hk => .inr (by simp [In] at hk; omega)
    exact HK t gs i3 sd3 h4 gl ((G3.fr f4 fun k hk hk2 => by simp [In] at hk2; omega).mono fun k hk => by omega) hL4.tail.head ((D3.fr f4 fun k hk hk2 => by simp [In] at hk2; omega).up (by omega)) (fin _ (((f1.of_no.trans (inb f2)).trans (inb f3)).trans g4))
  have hL2 := vcur hL1 1 rfl f2 V2
  have z2 := f2.size
  refine k_pick hL2.tail.head hb D2 (by omega) 5 _ fun y i5 sd5 h5 y0 y1 V5 D5 f5 => ⟨c, i5, sd5, y, rfl, vcur hL2 1 rfl f5 V5, ?_⟩
  have y1 := y1 (by omega)
  have hL5 := vcur hL2 1 rfl f5 V5
  have z5 := f5.size
  refine k_one hL5.tail.head hb D5 (by omega) 2 _ fun q2 i6 sd6 h6 V6 D6 f6 => ⟨c, i6, sd6, q2, rfl, vcur hL5 1 rfl f6 V6, ?_⟩
  have hL6 := vcur hL5 1 rfl f6 V6
  have z6 := f6.size
  rw [w64_eq (1 + y) (by omega) (by omega)]
  obtain ⟨N, eN⟩ : ∃ N : Nat, 1 + y = (N : Int) := ⟨(1 + y).toNat, by omega⟩
  rw [eN]
  refine k_grCycle N (by omega) q2 _ fun t h7 o7 f7 => ⟨t, rfl, hL6.of_no f7, fun b3 h9 hb3 f9 hL9 => ?_⟩
  have f9 := f9.in_nil
  have z7 := f7.size
  have z9 := f9.size
  have l3 : b3 < h9.size := hL9.head.lt
  generalize hF : (fun k => (h6.size ≤ k /\ k < h7.size) ∨ h9.size ≤ k) = F
  have F1 : ∀ k, F k -> h6.size ≤ k := fun k hk => by rw [← hF] at hk; rcases hk with a | a <;> omega
  have F2 : ∀ k, h9.size ≤ k -> F k := fun k hk => by rw [← hF]; exact .inr hk
  have F3 : ¬ F b3 := fun hk => by rw [← hF] at hk; rcases hk with a | a <;> omega
  have o9 : OwX h9 F t (cycP N q2) := (OwR.no o7 f9).mono fun k hk hk2 => by rw [← hF]; exact .inl hk2
  have gb : ∀ {X Y : Heap} {w : Sl} {zs : List (List Int)}, OwX X F w zs -> Fr (In [b]) X Y -> OwX Y F w zs := fun O f => OwR.fr O f fun k hk hk2 hk3 => by simp [In] at hk3; have := F1 _ hk2; omega
  have fT : ∀ {x y : Heap}, Fr F x y -> Fr (fun k => k = b ∨ h.size ≤ k) x y := fun f => f.mono fun k _ hk => .inr (by have := F1 _ hk; omega)
  have f09 : Fr (fun k => k = b ∨ h.size ≤ k) h h9 := (((f1.of_no.trans (inb f2)).trans (inb f5)).trans (inb f6)).trans (f7.of_no.trans f9.of_no)
  refine k_pick hL9.tail.tail.head hb ((D6.no f7).no f9) (by omega) 3 _ fun k i10 sd10 h10 k0 k1 V10 D10 f10 => ⟨c, i10, sd10, k, rfl, vcur hL9 2 rfl f10 V10, ?_⟩
  have k1 := k1 (by omega)
  have z10 := f10.size
  refine ⟨fun m k d i' sd' h' => d = c /\ m = k.toNat /\ 0 ≤ k /\ k ≤ 2 /\ CurD a (n + 50 + 210 * (2 - k).toNat) h' c i' /\ (∃ xss, OwX h' F t xss /\ xss.length = N /\ ∀ r, r ∈ xss -> r.length ≤ 2 + 5 * (2 - k).toNat) /\ Fr (fun k => k = b ∨ h.size ≤ k) h h' /\ h9.size ≤ h'.size, ⟨k.toNat, rfl, rfl, k0, by omega, D10.up (by omega), ⟨_, gb o9 f10, cycL_length _ _ _, fun r hr => by have := cycL_rows _ _ _ r hr; omega⟩, f09.trans (inb f10), by omega⟩, ?_⟩
  rintro m k d i11 sd11 h11 ⟨rfl, em, kk0, k2, D11, ⟨xss, o11, e11, r11⟩, f11, z11⟩ hL11
  refine ⟨fun e => ?_, fun e h18 f18 hL18 => ?_⟩
  · simp only [decide_eq_true_eq] at e
    refine k_shufB hL11.tail.tail.head hb D11 (by omega) (m := N) (by omega) _ fun w os i12 sd12 h12 O12 e12 A12 V12 D12 f12 => ⟨d, i12, sd12, w, rfl, vcur hL11 2 rfl f12 V12, ?_⟩
    have hL12 := vcur hL11 2 rfl f12 V12
    have z12 := f12.size
    refine k_pick hL12.tail.tail.head hb D12 (by omega) N _ fun y3 i13 sd13 h13 u0 u1 V13 D13 f13 => ⟨d, i13, sd13, y3, rfl, vcur hL12 2 rfl f13 V13, ?_⟩
    have u1 := u1 (by omega)
    have hL13 := vcur hL12 2 rfl f13 V13
    have z13 := f13.size
    have W13 : RdI (fun k => h11.size ≤ k /\ k < h13.size) h13 w os := by
      have : OwI h13 (fun k => h11.size ≤ k) w os := Ow.fr O12 f13 fun k hk hk2 => by have := (O12.foot hk).1; simp [In] at hk2; omega
      exact (this.mono (F' := fun k => h11.size ≤ k /\ k < h13.size) fun k hk hk2 => ⟨hk2, (this.foot hk).2⟩).rdF
    have o13 : OwX h13 F t xss := gb (gb o11 f12) f13
    have sep : ∀ k, F k /\ k < h11.size ∨ h13.size ≤ k -> F k := fun k hk => by
      rcases hk with hk | hk
      · exact hk.1
      · exact F2 _ (by omega)
    have o13' : OwX h13 (fun k => F k /\ k < h11.size ∨ h13.size ≤ k) t xss := by
      have q1 : OwX h11 (fun k => F k /\ k < h11.size) t xss := o11.mono fun k hk hk2 => ⟨hk2, hk⟩
      have q2 : OwX h12 (fun k => F k /\ k < h11.size) t xss := OwR.fr q1 f12 fun k hk hk2 hk3 => by simp [In] at hk3; have := F1 _ hk2.1; omega
      have q3 : OwX h13 (fun k => F k /\ k < h11.size) t xss := OwR.fr q2 f13 fun k hk hk2 hk3 => by simp [In] at hk3; have := F1 _ hk2.1; omega
      exact q3.mono fun k hk hk2 => .inl hk2
    rw [w64_eq (1 + y3) (by omega) (by omega)]
    refine ⟨fun m2 j h' => 0 ≤ j /\ j ≤ 1 + y3 /\ m2 = (1 + y3 - j).toNat /\ CurD a (n + 50 + 210 * (2 - k).toNat + 202) h' d i13 /\ RdI (fun k => h11.size ≤ k /\ k < h13.size) h' w os /\ (∃ zss, OwX h' (fun k => F k /\ k < h11.size ∨ h13.size ≤ k) t zss /\ zss.length = N /\ ∀ r, r ∈ zss -> r.length ≤ 2 + 5 * (2 - k).toNat + j.toNat) /\ Fr (fun k => k = b ∨ h.size ≤ k) h h' /\ h13.size ≤ h'.size, ⟨(1 + y3).toNat, by omega, by omega, by omega, D13.up (by omega), W13, ⟨xss, o13', e11, fun r hr => by have := r11 r hr; omega⟩, (f11.trans (inb f12)).trans (inb f13), by omega⟩, ?_⟩
    rintro m2 j h14 ⟨j0, j1, em2, D14, W14, ⟨zss, o14, e14, r14⟩, f14, z14⟩ hL14
    refine ⟨fun e2 => ?_, fun e2 => ?_⟩
    · simp only [decide_eq_true_eq] at e2
      rw [w64_eq (j + 1) (by omega) (by omega)]
      have mo0 : 0 ≤ (j + 1).tmod (1 + y3) := Int.tmod_nonneg _ (by omega)
      have mo1 : (j + 1).tmod (1 + y3) < 1 + y3 := Int.tmod_lt_of_pos _ (by omega)
      have aj := A12.get (show j.toNat < os.length by omega)
      generalize hpj : (os[j.toNat]'(by omega)) = pj at aj
      obtain ⟨aj0, aj1⟩ := aj
      have cj : hcell h14 (w.at j 1) = some (VI pj) := by rw [W14.get j0 (by omega), hpj]
      obtain ⟨si, c1, _⟩ := OwR.inner o14 aj0 (show pj < (zss.length : Int) by omega)
      have r14' := OwR.rd o14
      refine ⟨W14.inb j0 (by omega), pj, cj, W14.inb j0 (by omega), pj, cj, r14'.inb aj0 (by omega), si, c1, by omega, W14.inb mo0 (by omega), _, W14.get mo0 (by omega), ?_⟩
      have hin : ∀ h', Fr (fun k => F k /\ k < h11.size ∨ h13.size ≤ k) h14 h' -> RdI (fun k => h11.size ≤ k /\ k < h13.size) h' w os := fun h' f => W14.fr f fun k hk hk2 => by rcases hk2 with hk2 | hk2 <;> omega
      refine row_put2 (A := fun x => hcell x (w.at j 1) = some (VI pj)) (fun h' f => by rw [(hin h' f).get j0 (by omega), hpj]) o14 (fun k hk => .inr (by omega)) aj0 (by omega) c1 hL14 (fun p hp hk => ?_) (by have := r14 _ (List.getElem_mem (show pj.toNat < zss.length by omega)); omega) _ _ fun h17 o17 f17 V17 => ?_
      · have := sep _ hk
        simp only [List.mem_cons, List.not_mem_nil, or_false] at hp
        rcases hp with rfl | rfl | rfl
        · exact F3 this
        · have := F1 _ this; simp only at this; omega
        · have := F1 _ this; simp only at this; omega
      have z17 := f17.size
      refine ⟨m2 - 1, by omega, by omega, by omega, by omega, D14.fr f17 fun k hk hk2 => ?_, hin _ f17, ⟨_, o17, by simp [e14], fun r hr => ?_⟩, f14.trans (f17.mono fun k _ hk => .inr ?_), by omega⟩
      · have := F1 _ (sep _ hk2); omega
      · have := rows_set r14 _ (show pj.toNat < zss.length by omega) _ r hr
        omega
      · have := F1 _ (sep _ hk); omega
    · simp only [decide_eq_false_iff_not] at e2
      rw [w64_eq (k - 1) (by omega) (by omega)]
      exact ⟨m - 1, by omega, rfl, by omega, by omega, by omega, D14.up (by omega), ⟨zss, o14.mono fun k _ hk => sep k hk, e14, fun r hr => by have := r14 r hr; omega⟩, f14, by omega⟩
  · have g18 : Fr (fun k => k = b ∨ h.size ≤ k) h11 h18 := f18.mono fun k _ hk => .inr (by simp [In] at hk; omega)
    have o18 : OwX h18 F t xss := OwR.fr o11 f18 fun k hk hk2 hk3 => by simp [In] at hk3; subst hk3; have := F1 _ hk2; omega
    simp only [decide_eq_false_iff_not] at e
    exact HK t xss i11 sd11 h18 (by omega) ((OwR.rd o18).mono fun k hk => by have := F1 _ hk.1; omega) hL18.tail.tail.head ((D11.fr f18 fun k hk hk2 => by simp [In] at hk2; omega).up (by omega)) (fin _ (f11.trans g18))
theorem k_DrawHitTime {S : Nat -> Prop} {h : Heap} {code : Sl} {vs : List Value} (C : RdV S h 1 code vs) (B : ∀ v, v ∈ vs -> ∃ m : Int, v = Value.int .u8 m /\ 0 ≤ m /\ m ≤ 255) (K : Value -> Heap -> Prop) (HK : ∀ (t w : Sl) (gs : List (List Int)) (rs : List Int) (p q : Int) h', RdR (fun k => h.size ≤ k) h' t gs -> RdI (fun k => h.size ≤ k) h' w rs -> Fr No h h' -> K (.tuple #[.agg #[t.v], .agg #[w.v, VI p], VI q]) h') : callM Tryz.prog 43 #[code.v] h K := by
  refine v43 code h K fun b1 b2 b3 h3 hb1 hb2 hb3 f3 hL3 => ?_
  have f3 := f3.in_nil
  have z3 := f3.size
  have l3 : b3 < h3.size := hL3.head.lt
  have l2 : b2 < h3.size := hL3.tail.head.lt
  have l1 : b1 < h3.size := hL3.tail.tail.head.lt
  have D3 : CurD h.size 0 h3 code 0 := ⟨⟨vs, ((RdV.lt C).mono fun k hk => hk.2).no f3, B⟩, by omega, by omega⟩
  refine k_drwalk hL3.head hb3 D3 (by omega) _ fun t w gs rs p i4 sd4 h4 gl G4 R4 V4 D4 f4 => ⟨code, i4, sd4, t, w, p, rfl, vcur hL3 0 rfl f4 V4, fun b4 b5 h8 hb4 hb5 f8 hL8 => ?_⟩
  have f8 := f8.in_nil
  refine k_drplace hL8.tail.tail.head hb3 (D4.no f8) (by omega) t _ fun q i9 sd9 h9 V9 D9 f9 => ⟨code, i9, sd9, q, rfl, vcur hL8 2 rfl f9 V9, fun h10 f10 hL10 h11 f11 hL11 => ?_⟩
  have o9 : ∀ k, h3.size ≤ k -> ¬ In [b3] k := fun k hk hk2 => by simp [In] at hk2; omega
  have o10 : ∀ k, h3.size ≤ k -> ¬ In [b1] k := fun k hk hk2 => by simp [In] at hk2; omega
  have o11 : ∀ k, h3.size ≤ k -> ¬ In [b2] k := fun k hk hk2 => by simp [In] at hk2; omega
  have u4 : Fr (fun k => h.size ≤ k) h3 h4 := f4.mono fun k _ hk => by simp [In] at hk; omega
  have u9 : Fr (fun k => h.size ≤ k) h8 h9 := f9.mono fun k _ hk => by simp [In] at hk; omega
  have u10 : Fr (fun k => h.size ≤ k) h9 h10 := f10.mono fun k _ hk => by simp [In] at hk; omega
  have u11 : Fr (fun k => h.size ≤ k) h10 h11 := f11.mono fun k _ hk => by simp [In] at hk; omega
  exact HK t w gs rs p q h11 (((((G4.no f8).fr f9 o9).fr f10 o10).fr f11 o11).mono fun k hk => by omega) (((((R4.no f8).fr f9 o9).fr f10 o10).fr f11 o11).mono fun k hk => by omega) ((((((f3.of_no.trans u4).trans f8.of_no).trans u9).trans u10).trans u11).mono fun k hk hk2 => absurd hk2 (by omega))
theorem k_DrawCoverTime {S : Nat -> Prop} {h : Heap} {code : Sl} {vs : List Value} (C : RdV S h 1 code vs) (B : ∀ v, v ∈ vs -> ∃ m : Int, v = Value.int .u8 m /\ 0 ≤ m /\ m ≤ 255) (K : Value -> Heap -> Prop) (HK : ∀ (t w : Sl) (gs : List (List Int)) (rs : List Int) (p : Int) h', RdR (fun k => h.size ≤ k) h' t gs -> RdI (fun k => h.size ≤ k) h' w rs -> Fr No h h' -> K (.tuple #[.agg #[t.v], .agg #[w.v, VI p]]) h') : callM Tryz.prog 46 #[code.v] h K := by
  refine v46 code h K fun b1 b2 h2 hb1 hb2 f2 hL2 => ?_
  have f2 := f2.in_nil
  have z2 := f2.size
  have l2 : b2 < h2.size := hL2.head.lt
  have l1 : b1 < h2.size := hL2.tail.head.lt
  refine k_DrawIsWalk (C.no f2) B _ fun t w gs rs p h3 G3 R3 f3 => ⟨t, w, p, rfl, hL2.of_no f3, fun h5 f5 hL5 => ?_⟩
  have off : ∀ k, h2.size ≤ k -> ¬ In [b2, b1] k := fun k hk hk2 => by simp only [In, List.mem_cons, List.not_mem_nil, or_false] at hk2; omega
  have u5 : Fr (fun k => h.size ≤ k) h3 h5 := f5.mono fun k _ hk => by simp only [In, List.mem_cons, List.not_mem_nil, or_false] at hk; omega
  exact HK t w gs rs p h5 ((G3.fr f5 off).mono fun k hk => by omega) ((R3.fr f5 off).mono fun k hk => by omega) (((f2.trans f3).of_no.trans u5).mono fun k hk hk2 => absurd hk2 (by omega))
theorem k_DrawEulerTour {S : Nat -> Prop} {h : Heap} {code : Sl} {vs : List Value} (C : RdV S h 1 code vs) (B : ∀ v, v ∈ vs -> ∃ m : Int, v = Value.int .u8 m /\ 0 ≤ m /\ m ≤ 255) (K : Value -> Heap -> Prop) (HK : ∀ (t : Sl) (gs : List (List Int)) (p : Int) h', RdR (fun k => h.size ≤ k) h' t gs -> Fr No h h' -> K (.tuple #[.agg #[t.v], VI p]) h') : callM Tryz.prog 40 #[code.v] h K := by
  refine v40 code h K fun b1 b2 h2 hb1 hb2 f2 hL2 => ?_
  have f2 := f2.in_nil
  have z2 := f2.size
  have l2 : b2 < h2.size := hL2.head.lt
  have l1 : b1 < h2.size := hL2.tail.head.lt
  have D2 : CurD h.size 0 h2 code 0 := ⟨⟨vs, ((RdV.lt C).mono fun k hk => hk.2).no f2, B⟩, by omega, by omega⟩
  refine k_drbalanced hL2.head hb2 D2 (by omega) _ fun t gs i3 sd3 h3 gl G3 V3 D3 f3 => ⟨code, i3, sd3, t, rfl, vcur hL2 0 rfl f3 V3, fun b3 h5 hb3 f5 hL5 => ?_⟩
  have f5 := f5.in_nil
  refine k_drplace hL5.tail.head hb2 (D3.no f5) (by omega) t _ fun q i6 sd6 h6 V6 D6 f6 => ⟨code, i6, sd6, q, rfl, vcur hL5 1 rfl f6 V6, fun h7 f7 hL7 => ?_⟩
  have o6 : ∀ k, h2.size ≤ k -> ¬ In [b2] k := fun k hk hk2 => by simp [In] at hk2; omega
  have o7 : ∀ k, h2.size ≤ k -> ¬ In [b1] k := fun k hk hk2 => by simp [In] at hk2; omega
  have u3 : Fr (fun k => h.size ≤ k) h2 h3 := f3.mono fun k _ hk => by simp [In] at hk; omega
  have u6 : Fr (fun k => h.size ≤ k) h5 h6 := f6.mono fun k _ hk => by simp [In] at hk; omega
  have u7 : Fr (fun k => h.size ≤ k) h6 h7 := f7.mono fun k _ hk => by simp [In] at hk; omega
  exact HK t gs q h7 ((((G3.no f5).fr f6 o6).fr f7 o7).mono fun k hk => by omega) (((((f2.of_no.trans u3).trans f5.of_no).trans u6).trans u7).mono fun k hk hk2 => absurd hk2 (by omega))
theorem k_DrawPeriodOf {S : Nat -> Prop} {h : Heap} {code : Sl} {vs : List Value} (C : RdV S h 1 code vs) (B : ∀ v, v ∈ vs -> ∃ m : Int, v = Value.int .u8 m /\ 0 ≤ m /\ m ≤ 255) (K : Value -> Heap -> Prop) (HK : ∀ (t w : Sl) (gs : List (List Int)) (rs : List Int) (p : Int) h', RdR (fun k => h.size ≤ k) h' t gs -> RdI (fun k => h.size ≤ k) h' w rs -> Fr No h h' -> K (.tuple #[.agg #[t.v], .agg #[w.v, VI p]]) h') : callM Tryz.prog 29 #[code.v] h K := by
  refine v29 code h K fun b1 b2 b3 h3 hb1 hb2 hb3 f3 hL3 => ?_
  have f3 := f3.in_nil
  have z3 := f3.size
  have l3 : b3 < h3.size := hL3.head.lt
  have l2 : b2 < h3.size := hL3.tail.head.lt
  have l1 : b1 < h3.size := hL3.tail.tail.head.lt
  have D3 : CurD h.size 0 h3 code 0 := ⟨⟨vs, ((RdV.lt C).mono fun k hk => hk.2).no f3, B⟩, by omega, by omega⟩
  have u3 : ∀ {x y : Heap}, Fr (In [b3]) x y -> Fr (fun k => h.size ≤ k) x y := fun f => f.mono fun k _ hk => by simp [In] at hk; omega
  have u21 : ∀ {x y : Heap}, Fr (In [b2, b1]) x y -> Fr (fun k => h.size ≤ k) x y := fun f => f.mono fun k _ hk => by simp only [In, List.mem_cons, List.not_mem_nil, or_false] at hk; omega
  have o3 : ∀ k, h3.size ≤ k -> ¬ In [b3] k := fun k hk hk2 => by simp [In] at hk2; omega
  have o21 : ∀ k, h3.size ≤ k -> ¬ In [b2, b1] k := fun k hk hk2 => by simp only [In, List.mem_cons, List.not_mem_nil, or_false] at hk2; omega
  have fin : ∀ {y : Heap}, Fr (fun k => h.size ≤ k) h3 y -> Fr No h y := fun f => (f3.of_no.trans f).mono fun k hk hk2 => absurd hk2 (by omega)
  refine ⟨fun c i sd h' => c = code /\ CurD h.size 2000 h' code i /\ Fr (fun k => h.size ≤ k) h3 h', ?_, ?_⟩
  · refine k_one hL3.head hb3 D3 (by omega) 2 _ fun x i4 sd4 h4 V4 D4 f4 => ?_
    have hL4 := vcur hL3 0 rfl f4 V4
    refine ⟨code, i4, sd4, x, rfl, hL4, fun _ => ?_, fun _ => ⟨rfl, D4.up (by omega), u3 f4⟩⟩
    refine k_drbalanced hL4.head hb3 D4 (by omega) _ fun t gs i5 sd5 h5 gl G5 V5 D5 f5 => ⟨code, i5, sd5, t, rfl, vcur hL4 0 rfl f5 V5, fun b4 h7 hb4 f7 hL7 => ?_⟩
    have f7 := f7.in_nil
    have z4 := f4.size
    refine k_spec_grGood (G5.no f7) _ fun h8 f8 => ⟨_, rfl, hL7.of_no f8, fun _ => ?_, fun _ => ⟨rfl, ((D5.no f7).no f8).up (by omega), (((u3 f4).trans (u3 f5)).trans f7.of_no).trans f8.of_no⟩⟩
    have hL8 := hL7.of_no f8
    have z8 := (f5.trans (f7.of_no.trans f8.of_no)).size
    have G8 := (G5.no f7).no f8
    refine k_sureWalk hL8.tail.head hb3 ((D5.no f7).no f8) (by omega) G8 (by omega) (by omega) _ fun w rs p i9 sd9 h9 O9 el V9 D9 f9 => ⟨code, i9, sd9, w, p, rfl, vcur hL8 1 rfl f9 V9, fun h11 f11 hL11 => ?_⟩
    have W9 : RdI (Iv h8.size h9.size) h9 w rs := O9.rdF
    have z9 := f9.size
    refine HK t w gs rs p h11 (((G8.fr f9 fun k hk => o3 k (by omega)).fr f11 fun k hk => o21 k (by omega)).mono fun k hk => by omega) ((W9.fr f11 fun k hk => o21 k (by have := hk.1; omega)).mono fun k hk => by have := hk.1; omega) (fin ((((((u3 f4).trans (u3 f5)).trans f7.of_no).trans f8.of_no).trans (u3 f9)).trans (u21 f11)))
  · rintro c i sd h12 ⟨rfl, D12, f12⟩ hL12
    refine k_drwalk hL12.head hb3 D12 (by omega) _ fun t w gs rs p i13 sd13 h13 gl G13 R13 V13 D13 f13 => ⟨c, i13, sd13, t, w, p, rfl, vcur hL12 0 rfl f13 V13, fun h15 f15 hL15 => ?_⟩
    have z12 := f12.size
    refine HK t w gs rs p h15 ((G13.fr f15 fun k hk => o21 k (by omega)).mono fun k hk => by omega) ((R13.fr f15 fun k hk => o21 k (by omega)).mono fun k hk => by omega) (fin ((f12.trans (u3 f13)).trans (u21 f15)))
theorem k_IsUnicycle {S S' : Nat -> Prop} {h : Heap} {g w : Sl} {xss : List (List Int)} {rs : List Int} (G : RdR S h g xss) (H : RdI S' h w rs) (p : Int) (K : Value -> Heap -> Prop) (HK : ∀ h', Fr No h h' -> K (.tuple #[VB (walkB xss rs p && uniB xss rs p), VB (walkB xss rs p)]) h') : callM Tryz.prog 39 #[.agg #[g.v], .agg #[w.v, VI p]] h K := by
  refine v39 g w p h K fun b1 b2 h2 hb1 hb2 f2 hL2 => ?_
  have f2 := f2.in_nil
  refine k_isWalk (G.no f2) (H.no f2) p _ fun h3 f3 => ⟨_, rfl, hL2.of_no f3, fun e => ?_, fun e => ?_⟩
  · rw [not_t e] at HK
    exact HK h3 (f2.trans f3)
  · rw [not_f e] at HK
    have f03 := f2.trans f3
    refine k_isUnicycle (G.no f03) (H.no f03) (wok_of (not_f e)) _ fun h4 f4 => ⟨_, rfl, (hL2.of_no f3).of_no f4, ?_⟩
    rw [Bool.true_and] at HK
    exact HK h4 (f03.trans f4)
def w4_1 (P : Program) (t67_1 : Sl) (t137_1 : Sl) (t137_2 : Int) (h_20 : Heap) (b_4 : Nat) (t146_1 : Sl) (t146_2 : Int) (b_3 : Nat) (b_2 : Nat) (t67_2 : Sl) (t67_3 : Int) (b_1 : Nat) (J_1 : Heap -> Prop) (K : Value -> Heap -> Prop) : Prop :=
  callM P 39 #[(Value.agg #[(Sl.v t67_1)]), (Value.agg #[(Sl.v t137_1), (VI t137_2)])] h_20 fun rv_13 h_21 => ∃ t206_1 : Bool, ∃ t206_2 : Bool, rv_13 = (Value.tuple #[(VB t206_1), (VB t206_2)]) /\ Vars h_21 [(b_4, [(Sl.v t146_1), (VI t146_2)]), (b_3, [(Sl.v t137_1), (VI t137_2)]), (b_2, [(Sl.v t67_2), (VI t67_3)]), (b_1, [(Sl.v t67_1)])] ∧
  ((!t206_2) = true →
  K (VB false) h_21) ∧
  ((!t206_2) = false →
  ((!t206_1) = true →
  K (VB false) h_21) ∧
  ((!t206_1) = false →
  J_1  h_21))
def w4_2 (P : Program) (J_1 : Heap -> Prop) (b_2 : Nat) (t67_2 : Sl) (t67_3 : Int) (b_1 : Nat) (t67_1 : Sl) (more1_1 : Sl) (K : Value -> Heap -> Prop) : Prop :=
  ∀ (h_24 : Heap), J_1  h_24 -> Vars h_24 [(b_2, [(Sl.v t67_2), (VI t67_3)]), (b_1, [(Sl.v t67_1)])] →
  callM P 40 #[(Sl.v more1_1)] h_24 fun rv_16 h_25 => ∃ t220_1 : Sl, ∃ t220_2 : Int, rv_16 = (Value.tuple #[(Value.agg #[(Sl.v t220_1)]), (VI t220_2)]) /\ Vars h_25 [(b_2, [(Sl.v t67_2), (VI t67_3)]), (b_1, [(Sl.v t67_1)])] ∧
  ∀ (b_5 : Nat) (h_27 : Heap), h_25.size ≤ b_5 -> Fr (In []) h_25 h_27 -> Vars h_27 [(b_5, [(Sl.v t220_1)]), (b_2, [(Sl.v t67_2), (VI t67_3)]), (b_1, [(Sl.v t67_1)])] →
  callM P 41 #[(Value.agg #[(Sl.v t220_1)]), (VI t220_2)] h_27 fun rv_17 h_28 => ∃ t226_1 : Sl, ∃ t226_2 : Bool, rv_17 = (Value.tuple #[(Sl.v t226_1), (VB t226_2)]) /\ Vars h_28 [(b_5, [(Sl.v t220_1)]), (b_2, [(Sl.v t67_2), (VI t67_3)]), (b_1, [(Sl.v t67_1)])] ∧
  callM P 42 #[(Value.agg #[(Sl.v t220_1)]), (VI t220_2)] h_28 fun rv_18 h_29 => ∃ t232_1 : Sl, ∃ t232_2 : Bool, rv_18 = (Value.tuple #[(Sl.v t232_1), (VB t232_2)]) /\ Vars h_29 [(b_5, [(Sl.v t220_1)]), (b_2, [(Sl.v t67_2), (VI t67_3)]), (b_1, [(Sl.v t67_1)])] ∧
  ((!(t226_2 == t232_2)) = true →
  K (VB false) h_29) ∧
  ((!(t226_2 == t232_2)) = false →
  callM P 16 #[(Sl.v t226_1), (Sl.v t232_1)] h_29 fun rv_19 h_30 => ∃ t241_1 : Bool, rv_19 = (VB t241_1) /\ Vars h_30 [(b_5, [(Sl.v t220_1)]), (b_2, [(Sl.v t67_2), (VI t67_3)]), (b_1, [(Sl.v t67_1)])] ∧
  ((!t241_1) = true →
  K (VB false) h_30) ∧
  ((!t241_1) = false →
  ∃ J_2 : Heap -> Prop, ((t226_2 = true →
  callM P 37 #[(Value.agg #[(Sl.v t220_1)])] h_30 fun rv_20 h_31 => ∃ t247_1 : Int, ∃ t247_2 : Bool, rv_20 = (Value.tuple #[(VI t247_1), (VB t247_2)]) /\ Vars h_31 [(b_5, [(Sl.v t220_1)]), (b_2, [(Sl.v t67_2), (VI t67_3)]), (b_1, [(Sl.v t67_1)])] ∧
  ((!t247_2) = true →
  K (VB false) h_31) ∧
  ((!t247_2) = false →
  ((!decide ((t226_1.n : Int) = (w64 (t247_1 + 1)))) = true →
  K (VB false) h_31) ∧
  ((!decide ((t226_1.n : Int) = (w64 (t247_1 + 1)))) = false →
  InB t226_1 0 ∧
  ∃ t262_1 : Int, hcell h_31 (Sl.at t226_1 0 1) = some (VI t262_1) ∧
  ((!decide (t262_1 = t220_2)) = true →
  K (VB false) h_31) ∧
  ((!decide (t262_1 = t220_2)) = false →
  InB t226_1 t247_1 ∧
  ∃ t270_1 : Int, hcell h_31 (Sl.at t226_1 t247_1 1) = some (VI t270_1) ∧
  ((!decide (t270_1 = t220_2)) = true →
  K (VB false) h_31) ∧
  ((!decide (t270_1 = t220_2)) = false →
  ∃ J_3 : Nat -> Int -> Heap -> Prop, (∃ n0 : Nat, J_3 n0 0 h_31) ∧
  ∀ (n_1 : Nat) (t277_1 : Int) (h_32 : Heap), J_3 n_1 t277_1 h_32 -> Vars h_32 [(b_5, [(Sl.v t220_1)]), (b_2, [(Sl.v t67_2), (VI t67_3)]), (b_1, [(Sl.v t67_1)])] →
  ((decide (t277_1 < (t220_1.n : Int))) = true →
  InB t220_1 t277_1 ∧
  ∃ t281_1 : Sl, hcell h_32 (Sl.at t220_1 t277_1 1) = some (Sl.v t281_1) ∧
  ∃ J_4 : Nat -> Int -> Heap -> Prop, (∃ n0 : Nat, J_4 n0 0 h_32) ∧
  ∀ (n_2 : Nat) (t285_1 : Int) (h_33 : Heap), J_4 n_2 t285_1 h_33 -> Vars h_33 [(b_5, [(Sl.v t220_1)]), (b_2, [(Sl.v t67_2), (VI t67_3)]), (b_1, [(Sl.v t67_1)])] →
  ((decide (t285_1 < (t220_1.n : Int))) = true →
  ∃ J_5 : Nat -> Int -> Int -> Heap -> Prop, (∃ n0 : Nat, J_5 n0 0 0 h_33) ∧
  ∀ (n_3 : Nat) (due40_1 : Int) (t290_1 : Int) (h_34 : Heap), J_5 n_3 due40_1 t290_1 h_34 -> Vars h_34 [(b_5, [(Sl.v t220_1)]), (b_2, [(Sl.v t67_2), (VI t67_3)]), (b_1, [(Sl.v t67_1)])] →
  ((decide (t290_1 < (t281_1.n : Int))) = true →
  InB t281_1 t290_1 ∧
  ∃ t293_1 : Int, hcell h_34 (Sl.at t281_1 t290_1 1) = some (VI t293_1) ∧
  ((decide (t293_1 = t285_1)) = true →
  ∃ m : Nat, m < n_3 /\ J_5 m (w64 (due40_1 + 1)) (w64 (t290_1 + 1)) h_34) ∧
  ((decide (t293_1 = t285_1)) = false →
  ∃ m : Nat, m < n_3 /\ J_5 m due40_1 (w64 (t290_1 + 1)) h_34)) ∧
  ((decide (t290_1 < (t281_1.n : Int))) = false →
  ∃ J_6 : Nat -> Int -> Int -> Heap -> Prop, (∃ n0 : Nat, J_6 n0 0 1 h_34) ∧
  ∀ (n_4 : Nat) (n41_1 : Int) (i44_1 : Int) (h_35 : Heap), J_6 n_4 n41_1 i44_1 h_35 -> Vars h_35 [(b_5, [(Sl.v t220_1)]), (b_2, [(Sl.v t67_2), (VI t67_3)]), (b_1, [(Sl.v t67_1)])] →
  ((decide (i44_1 < (t226_1.n : Int))) = true →
  ∃ J_7 : Int -> Heap -> Prop, (InB t226_1 (w64 (i44_1 - 1)) ∧
  ∃ t310_1 : Int, hcell h_35 (Sl.at t226_1 (w64 (i44_1 - 1)) 1) = some (VI t310_1) ∧
  ((decide (t310_1 = t277_1)) = true →
  InB t226_1 i44_1 ∧
  ∃ t317_1 : Int, hcell h_35 (Sl.at t226_1 i44_1 1) = some (VI t317_1) ∧
  ((decide (t317_1 = t285_1)) = true →
  J_7 (w64 (n41_1 + 1)) h_35) ∧
  ((decide (t317_1 = t285_1)) = false →
  J_7 n41_1 h_35)) ∧
  ((decide (t310_1 = t277_1)) = false →
  J_7 n41_1 h_35)) ∧
  ∀ (x_1 : Int) (h_36 : Heap), J_7 x_1 h_36 -> Vars h_36 [(b_5, [(Sl.v t220_1)]), (b_2, [(Sl.v t67_2), (VI t67_3)]), (b_1, [(Sl.v t67_1)])] →
  ∃ m : Nat, m < n_4 /\ J_6 m x_1 (w64 (i44_1 + 1)) h_36) ∧
  ((decide (i44_1 < (t226_1.n : Int))) = false →
  ((!decide (n41_1 = due40_1)) = true →
  K (VB false) h_35) ∧
  ((!decide (n41_1 = due40_1)) = false →
  ∃ m : Nat, m < n_2 /\ J_4 m (w64 (t285_1 + 1)) h_35)))) ∧
  ((decide (t285_1 < (t220_1.n : Int))) = false →
  ∃ m : Nat, m < n_1 /\ J_3 m (w64 (t277_1 + 1)) h_33)) ∧
  ((decide (t277_1 < (t220_1.n : Int))) = false →
  J_2  h_32)))))) ∧
  (t226_2 = false →
  J_2  h_30)) ∧
  ∀ (h_37 : Heap), J_2  h_37 -> Vars h_37 [(b_5, [(Sl.v t220_1)]), (b_2, [(Sl.v t67_2), (VI t67_3)]), (b_1, [(Sl.v t67_1)])] →
  callM P 43 #[(Sl.v more1_1)] h_37 fun rv_21 h_38 => ∃ t330_1 : Sl, ∃ t330_2 : Sl, ∃ t330_3 : Int, ∃ t330_4 : Int, rv_21 = (Value.tuple #[(Value.agg #[(Sl.v t330_1)]), (Value.agg #[(Sl.v t330_2), (VI t330_3)]), (VI t330_4)]) /\ Vars h_38 [(b_5, [(Sl.v t220_1)]), (b_2, [(Sl.v t67_2), (VI t67_3)]), (b_1, [(Sl.v t67_1)])] ∧
  ∀ (b_6 : Nat) (b_7 : Nat) (h_42 : Heap), h_38.size ≤ b_6 -> h_38.size ≤ b_7 -> Fr (In []) h_38 h_42 -> Vars h_42 [(b_7, [(Sl.v t330_2), (VI t330_3)]), (b_6, [(Sl.v t330_1)]), (b_5, [(Sl.v t220_1)]), (b_2, [(Sl.v t67_2), (VI t67_3)]), (b_1, [(Sl.v t67_1)])] →
  callM P 44 #[(Value.agg #[(Sl.v t330_1)]), (Value.agg #[(Sl.v t330_2), (VI t330_3)]), (VI t330_4)] h_42 fun rv_22 h_43 => ∃ t338_1 : Int, ∃ t338_2 : Bool, rv_22 = (Value.tuple #[(VI t338_1), (VB t338_2)]) /\ Vars h_43 [(b_7, [(Sl.v t330_2), (VI t330_3)]), (b_6, [(Sl.v t330_1)]), (b_5, [(Sl.v t220_1)]), (b_2, [(Sl.v t67_2), (VI t67_3)]), (b_1, [(Sl.v t67_1)])] ∧
  callM P 45 #[(Value.agg #[(Sl.v t330_1)]), (Value.agg #[(Sl.v t330_2), (VI t330_3)]), (VI t330_4)] h_43 fun rv_23 h_44 => ∃ t345_1 : Int, ∃ t345_2 : Bool, rv_23 = (Value.tuple #[(VI t345_1), (VB t345_2)]) /\ Vars h_44 [(b_7, [(Sl.v t330_2), (VI t330_3)]), (b_6, [(Sl.v t330_1)]), (b_5, [(Sl.v t220_1)]), (b_2, [(Sl.v t67_2), (VI t67_3)]), (b_1, [(Sl.v t67_1)])] ∧
  callM P 46 #[(Sl.v more1_1)] h_44 fun rv_24 h_45 => ∃ t350_1 : Sl, ∃ t350_2 : Sl, ∃ t350_3 : Int, rv_24 = (Value.tuple #[(Value.agg #[(Sl.v t350_1)]), (Value.agg #[(Sl.v t350_2), (VI t350_3)])]) /\ Vars h_45 [(b_7, [(Sl.v t330_2), (VI t330_3)]), (b_6, [(Sl.v t330_1)]), (b_5, [(Sl.v t220_1)]), (b_2, [(Sl.v t67_2), (VI t67_3)]), (b_1, [(Sl.v t67_1)])] ∧
  ∀ (b_8 : Nat) (b_9 : Nat) (h_49 : Heap), h_45.size ≤ b_8 -> h_45.size ≤ b_9 -> Fr (In []) h_45 h_49 -> Vars h_49 [(b_9, [(Sl.v t350_2), (VI t350_3)]), (b_8, [(Sl.v t350_1)]), (b_7, [(Sl.v t330_2), (VI t330_3)]), (b_6, [(Sl.v t330_1)]), (b_5, [(Sl.v t220_1)]), (b_2, [(Sl.v t67_2), (VI t67_3)]), (b_1, [(Sl.v t67_1)])] →
  callM P 47 #[(Value.agg #[(Sl.v t350_1)]), (Value.agg #[(Sl.v t350_2), (VI t350_3)])] h_49 fun rv_25 h_50 => ∃ t356_1 : Int, ∃ t356_2 : Bool, rv_25 = (Value.tuple #[(VI t356_1), (VB t356_2)]) /\ Vars h_50 [(b_9, [(Sl.v t350_2), (VI t350_3)]), (b_8, [(Sl.v t350_1)]), (b_7, [(Sl.v t330_2), (VI t330_3)]), (b_6, [(Sl.v t330_1)]), (b_5, [(Sl.v t220_1)]), (b_2, [(Sl.v t67_2), (VI t67_3)]), (b_1, [(Sl.v t67_1)])] ∧
  callM P 48 #[(Value.agg #[(Sl.v t350_1)]), (Value.agg #[(Sl.v t350_2), (VI t350_3)])] h_50 fun rv_26 h_51 => ∃ t362_1 : Int, ∃ t362_2 : Bool, rv_26 = (Value.tuple #[(VI t362_1), (VB t362_2)]) /\ Vars h_51 [(b_9, [(Sl.v t350_2), (VI t350_3)]), (b_8, [(Sl.v t350_1)]), (b_7, [(Sl.v t330_2), (VI t330_3)]), (b_6, [(Sl.v t330_1)]), (b_5, [(Sl.v t220_1)]), (b_2, [(Sl.v t67_2), (VI t67_3)]), (b_1, [(Sl.v t67_1)])] ∧
  ((!(t338_2 == t345_2)) = true →
  K (VB false) h_51) ∧
  ((!(t338_2 == t345_2)) = false →
  ((!decide (t338_1 = t345_1)) = true →
  K (VB false) h_51) ∧
  ((!decide (t338_1 = t345_1)) = false →
  ((!(t356_2 == t362_2)) = true →
  K (VB false) h_51) ∧
  ((!(t356_2 == t362_2)) = false →
  ((!decide (t356_1 = t362_1)) = true →
  K (VB false) h_51) ∧
  ((!decide (t356_1 = t362_1)) = false →
  (t356_2 = true →
  ∃ J_8 : Nat -> Int -> Int -> Heap -> Prop, (∃ n0 : Nat, J_8 n0 0 0 h_51) ∧
  ∀ (n_9 : Nat) (most58_1 : Int) (t387_1 : Int) (h_52 : Heap), J_8 n_9 most58_1 t387_1 h_52 -> Vars h_52 [(b_9, [(Sl.v t350_2), (VI t350_3)]), (b_8, [(Sl.v t350_1)]), (b_7, [(Sl.v t330_2), (VI t330_3)]), (b_6, [(Sl.v t330_1)]), (b_5, [(Sl.v t220_1)]), (b_2, [(Sl.v t67_2), (VI t67_3)]), (b_1, [(Sl.v t67_1)])] →
  ((decide (t387_1 < (t350_1.n : Int))) = true →
  callM P 44 #[(Value.agg #[(Sl.v t350_1)]), (Value.agg #[(Sl.v t350_2), (VI t350_3)]), (VI t387_1)] h_52 fun rv_27 h_53 => ∃ t394_1 : Int, ∃ t394_2 : Bool, rv_27 = (Value.tuple #[(VI t394_1), (VB t394_2)]) /\ Vars h_53 [(b_9, [(Sl.v t350_2), (VI t350_3)]), (b_8, [(Sl.v t350_1)]), (b_7, [(Sl.v t330_2), (VI t330_3)]), (b_6, [(Sl.v t330_1)]), (b_5, [(Sl.v t220_1)]), (b_2, [(Sl.v t67_2), (VI t67_3)]), (b_1, [(Sl.v t67_1)])] ∧
  ((!t394_2) = true →
  K (VB false) h_53) ∧
  ((!t394_2) = false →
  ((decide (t356_1 < t394_1)) = true →
  K (VB false) h_53) ∧
  ((decide (t356_1 < t394_1)) = false →
  ((decide (most58_1 < t394_1)) = true →
  ∃ m : Nat, m < n_9 /\ J_8 m t394_1 (w64 (t387_1 + 1)) h_53) ∧
  ((decide (most58_1 < t394_1)) = false →
  ∃ m : Nat, m < n_9 /\ J_8 m most58_1 (w64 (t387_1 + 1)) h_53)))) ∧
  ((decide (t387_1 < (t350_1.n : Int))) = false →
  ((!decide (most58_1 = t356_1)) = true →
  K (VB false) h_52) ∧
  ((!decide (most58_1 = t356_1)) = false →
  K (VB true) h_52))) ∧
  (t356_2 = false →
  K (VB true) h_51)))))))
def w4 (P : Program) (code0_1 : Sl) (more1_1 : Sl) (h : Heap) (K : Value -> Heap -> Prop) : Prop :=
  callM P 5 #[(Sl.v code0_1), (Sl.v more1_1)] h fun rv_1 h_1 => ∃ t64_1 : Bool, rv_1 = (VB t64_1) /\ Vars h_1 [] ∧
  (t64_1 = true →
  K (VB true) h_1) ∧
  (t64_1 = false →
  callM P 29 #[(Sl.v code0_1)] h_1 fun rv_2 h_2 => ∃ t67_1 : Sl, ∃ t67_2 : Sl, ∃ t67_3 : Int, rv_2 = (Value.tuple #[(Value.agg #[(Sl.v t67_1)]), (Value.agg #[(Sl.v t67_2), (VI t67_3)])]) /\ Vars h_2 [] ∧
  ∀ (b_1 : Nat) (b_2 : Nat) (h_6 : Heap), h_2.size ≤ b_1 -> h_2.size ≤ b_2 -> Fr (In []) h_2 h_6 -> Vars h_6 [(b_2, [(Sl.v t67_2), (VI t67_3)]), (b_1, [(Sl.v t67_1)])] →
  callM P 30 #[(Value.agg #[(Sl.v t67_1)]), (Value.agg #[(Sl.v t67_2), (VI t67_3)])] h_6 fun rv_3 h_7 => ∃ t73_1 : Int, ∃ t73_2 : Int, ∃ t73_3 : Bool, rv_3 = (Value.tuple #[(VI t73_1), (VI t73_2), (VB t73_3)]) /\ Vars h_7 [(b_2, [(Sl.v t67_2), (VI t67_3)]), (b_1, [(Sl.v t67_1)])] ∧
  callM P 31 #[(Value.agg #[(Sl.v t67_1)]), (Value.agg #[(Sl.v t67_2), (VI t67_3)])] h_7 fun rv_4 h_8 => ∃ t80_1 : Int, ∃ t80_2 : Int, ∃ t80_3 : Bool, rv_4 = (Value.tuple #[(VI t80_1), (VI t80_2), (VB t80_3)]) /\ Vars h_8 [(b_2, [(Sl.v t67_2), (VI t67_3)]), (b_1, [(Sl.v t67_1)])] ∧
  callM P 32 #[(Value.agg #[(Sl.v t67_1)]), (Value.agg #[(Sl.v t67_2), (VI t67_3)])] h_8 fun rv_5 h_9 => ∃ t87_1 : Bool, ∃ t87_2 : Bool, rv_5 = (Value.tuple #[(VB t87_1), (VB t87_2)]) /\ Vars h_9 [(b_2, [(Sl.v t67_2), (VI t67_3)]), (b_1, [(Sl.v t67_1)])] ∧
  callM P 33 #[(Value.agg #[(Sl.v t67_1)]), (Value.agg #[(Sl.v t67_2), (VI t67_3)])] h_9 fun rv_6 h_10 => ∃ t93_1 : Bool, ∃ t93_2 : Bool, rv_6 = (Value.tuple #[(VB t93_1), (VB t93_2)]) /\ Vars h_10 [(b_2, [(Sl.v t67_2), (VI t67_3)]), (b_1, [(Sl.v t67_1)])] ∧
  ((!(t73_3 == t80_3)) = true →
  K (VB false) h_10) ∧
  ((!(t73_3 == t80_3)) = false →
  ((!decide (t73_1 = t80_1)) = true →
  K (VB false) h_10) ∧
  ((!decide (t73_1 = t80_1)) = false →
  ((!decide (t73_2 = t80_2)) = true →
  K (VB false) h_10) ∧
  ((!decide (t73_2 = t80_2)) = false →
  ((!(t87_2 == t93_2)) = true →
  K (VB false) h_10) ∧
  ((!(t87_2 == t93_2)) = false →
  ((!(t87_1 == t93_1)) = true →
  K (VB false) h_10) ∧
  ((!(t87_1 == t93_1)) = false →
  (t73_3 = true →
  ((!t87_2) = true →
  K (VB false) h_10) ∧
  ((!t87_2) = false →
  ((!(t87_1 == (decide (t73_1 = 0)))) = true →
  K (VB false) h_10) ∧
  ((!(t87_1 == (decide (t73_1 = 0)))) = false →
  ∃ J_1 : Heap -> Prop, (callM P 34 #[(Value.agg #[(Sl.v t67_1)]), (Value.agg #[(Sl.v t67_2), (VI t67_3)]), (VI t73_1)] h_10 fun rv_7 h_11 => ∃ t137_1 : Sl, ∃ t137_2 : Int, ∃ t137_3 : Bool, rv_7 = (Value.tuple #[(Value.agg #[(Sl.v t137_1), (VI t137_2)]), (VB t137_3)]) /\ Vars h_11 [(b_2, [(Sl.v t67_2), (VI t67_3)]), (b_1, [(Sl.v t67_1)])] ∧
  ∀ (b_3 : Nat) (h_13 : Heap), h_11.size ≤ b_3 -> Fr (In []) h_11 h_13 -> Vars h_13 [(b_3, [(Sl.v t137_1), (VI t137_2)]), (b_2, [(Sl.v t67_2), (VI t67_3)]), (b_1, [(Sl.v t67_1)])] →
  callM P 34 #[(Value.agg #[(Sl.v t67_1)]), (Value.agg #[(Sl.v t67_2), (VI t67_3)]), (VI (w64 (t73_1 + t73_2)))] h_13 fun rv_8 h_14 => ∃ t146_1 : Sl, ∃ t146_2 : Int, ∃ t146_3 : Bool, rv_8 = (Value.tuple #[(Value.agg #[(Sl.v t146_1), (VI t146_2)]), (VB t146_3)]) /\ Vars h_14 [(b_3, [(Sl.v t137_1), (VI t137_2)]), (b_2, [(Sl.v t67_2), (VI t67_3)]), (b_1, [(Sl.v t67_1)])] ∧
  ∀ (b_4 : Nat) (h_16 : Heap), h_14.size ≤ b_4 -> Fr (In []) h_14 h_16 -> Vars h_16 [(b_4, [(Sl.v t146_1), (VI t146_2)]), (b_3, [(Sl.v t137_1), (VI t137_2)]), (b_2, [(Sl.v t67_2), (VI t67_3)]), (b_1, [(Sl.v t67_1)])] →
  callM P 35 #[(Value.agg #[(Sl.v t67_1)])] h_16 fun rv_9 h_17 => ∃ t151_1 : Bool, ∃ t151_2 : Bool, rv_9 = (Value.tuple #[(VB t151_1), (VB t151_2)]) /\ Vars h_17 [(b_4, [(Sl.v t146_1), (VI t146_2)]), (b_3, [(Sl.v t137_1), (VI t137_2)]), (b_2, [(Sl.v t67_2), (VI t67_3)]), (b_1, [(Sl.v t67_1)])] ∧
  callM P 36 #[(Value.agg #[(Sl.v t67_1)])] h_17 fun rv_10 h_18 => ∃ t156_1 : Bool, ∃ t156_2 : Bool, rv_10 = (Value.tuple #[(VB t156_1), (VB t156_2)]) /\ Vars h_18 [(b_4, [(Sl.v t146_1), (VI t146_2)]), (b_3, [(Sl.v t137_1), (VI t137_2)]), (b_2, [(Sl.v t67_2), (VI t67_3)]), (b_1, [(Sl.v t67_1)])] ∧
  callM P 37 #[(Value.agg #[(Sl.v t67_1)])] h_18 fun rv_11 h_19 => ∃ t161_1 : Int, ∃ t161_2 : Bool, rv_11 = (Value.tuple #[(VI t161_1), (VB t161_2)]) /\ Vars h_19 [(b_4, [(Sl.v t146_1), (VI t146_2)]), (b_3, [(Sl.v t137_1), (VI t137_2)]), (b_2, [(Sl.v t67_2), (VI t67_3)]), (b_1, [(Sl.v t67_1)])] ∧
  ((!t137_3) = true →
  K (VB false) h_19) ∧
  ((!t137_3) = false →
  ((!t146_3) = true →
  K (VB false) h_19) ∧
  ((!t146_3) = false →
  callM P 38 #[(Value.agg #[(Sl.v t137_1), (VI t137_2)]), (Value.agg #[(Sl.v t146_1), (VI t146_2)])] h_19 fun rv_12 h_20 => ∃ t173_1 : Bool, rv_12 = (VB t173_1) /\ Vars h_20 [(b_4, [(Sl.v t146_1), (VI t146_2)]), (b_3, [(Sl.v t137_1), (VI t137_2)]), (b_2, [(Sl.v t67_2), (VI t67_3)]), (b_1, [(Sl.v t67_1)])] ∧
  ((!t173_1) = true →
  K (VB false) h_20) ∧
  ((!t173_1) = false →
  ((!t151_2) = true →
  K (VB false) h_20) ∧
  ((!t151_2) = false →
  ((!t156_2) = true →
  K (VB false) h_20) ∧
  ((!t156_2) = false →
  ((!t161_2) = true →
  K (VB false) h_20) ∧
  ((!t161_2) = false →
  ((decide (t73_2 < 1)) = true →
  K (VB false) h_20) ∧
  ((decide (t73_2 < 1)) = false →
  (t151_1 = true →
  (t156_1 = true →
  ((!decide (t73_2 = t161_1)) = true →
  K (VB false) h_20) ∧
  ((!decide (t73_2 = t161_1)) = false →
  w4_1 P t67_1 t137_1 t137_2 h_20 b_4 t146_1 t146_2 b_3 b_2 t67_2 t67_3 b_1 J_1 K)) ∧
  (t156_1 = false →
  w4_1 P t67_1 t137_1 t137_2 h_20 b_4 t146_1 t146_2 b_3 b_2 t67_2 t67_3 b_1 J_1 K)) ∧
  (t151_1 = false →
  callM P 39 #[(Value.agg #[(Sl.v t67_1)]), (Value.agg #[(Sl.v t137_1), (VI t137_2)])] h_20 fun rv_15 h_23 => ∃ t206_5 : Bool, ∃ t206_6 : Bool, rv_15 = (Value.tuple #[(VB t206_5), (VB t206_6)]) /\ Vars h_23 [(b_4, [(Sl.v t146_1), (VI t146_2)]), (b_3, [(Sl.v t137_1), (VI t137_2)]), (b_2, [(Sl.v t67_2), (VI t67_3)]), (b_1, [(Sl.v t67_1)])] ∧
  J_1  h_23))))))))) ∧
  w4_2 P J_1 b_2 t67_2 t67_3 b_1 t67_1 more1_1 K))) ∧
  (t73_3 = false →
  ∃ J_9 : Heap -> Prop, (J_9  h_10) ∧
  w4_2 P J_9 b_2 t67_2 t67_3 b_1 t67_1 more1_1 K)))))))
theorem x4 (code0_1 : Sl) (more1_1 : Sl) (h : Heap) (K : Value -> Heap -> Prop) (H : w4 Tryz.prog code0_1 more1_1 h K) : callM Tryz.prog 4 #[(Sl.v code0_1), (Sl.v more1_1)] h K := v4 code0_1 more1_1 h K H
theorem pairN_le (g : List (List Int)) (s : St) (x y : Int) : ∀ n, pairN g s x y n ≤ n
  | 0 => Nat.le_refl _
  | n + 1 => by
    rw [pairN]
    have := pairN_le g s x y n
    split <;> omega
theorem cnt_le {f : Nat -> Nat} (hf : ∀ i, f i ≤ 1) : ∀ n, sumN f n ≤ n
  | 0 => Nat.le_refl _
  | n + 1 => by
    rw [sumN]
    have := cnt_le hf n
    have := hf n
    omega
set_option maxHeartbeats 4000000 in
theorem ca_tail2 {h0 : Heap} {S1 : Nat -> Prop} {s1 : Sl} {x1 : List Value} (G1 : RdV S1 h0 1 s1 x1) (B1 : ∀ v, v ∈ x1 -> ∃ m : Int, v = Value.int .u8 m /\ 0 ≤ m /\ m ≤ 255) (J : Heap -> Prop) (HJ : ∀ h', J h' -> Fr No h0 h') (b2 : Nat) (u2 : Sl) (q2 : Int) (b1 : Nat) (u1 : Sl) {K : Value -> Heap -> Prop} (HK : ∀ h', Fr No h0 h' -> K (VB true) h') : w4_2 Tryz.prog J b2 u2 q2 b1 u1 s1 K := by
  unfold w4_2
  intro h24 hJ hL24
  have f24 := HJ _ hJ
  refine k_DrawEulerTour (G1.no f24) B1 _ fun t gs p h25 G25 f25 => ⟨t, p, rfl, hL24.of_no f25, fun b5 h27 _ f27 hL27 => ?_⟩
  have f27 := f27.in_nil
  have G27 := G25.no f27
  refine k_EulerTour G27 p _ fun tr h28 o28 f28 => ⟨tr, _, rfl, hL27.of_no f28, ?_⟩
  refine k_spec_EulerTour (G27.no f28) p _ fun tr' h29 o29 f29 => ⟨tr', _, rfl, (hL27.of_no f28).of_no f29, fun e => by simp at e, fun _ => ?_⟩
  have hL29 := (hL27.of_no f28).of_no f29
  have T29 : RdI _ h29 tr _ := RdI.no o28.rdF f29
  have T29' : RdI _ h29 tr' _ := o29
  have fa := f28.no_trans f29
  have G29 := G27.no fa
  have f029 : Fr No h0 h29 := f24.no_trans (f25.no_trans (f27.no_trans fa))
  refine k_wSame T29 T29' _ ⟨_, rfl, hL29, fun e => by simp at e, fun _ => ⟨fun h' => Fr No h29 h', ⟨fun e => ?_, fun _ => Fr.refl _ _⟩, ?_⟩⟩
  · obtain ⟨hg, tl, s, W, tp, t0, tn, pf⟩ := tour_all e
    refine k_CountExits G29 _ fun h31 f31 => ⟨_, _, rfl, hL29.of_no f31, fun e2 => (by rw [hg] at e2; cases e2), fun _ => ?_⟩
    rw [if_pos hg]
    have tot := graph_tot hg
    have gl := graph_len hg
    have T31 := T29.no f31
    have G31 := G29.no f31
    have tn' := T31.len
    have gn := G31.len
    have val : ∀ i : Int, 0 ≤ i -> i ≤ (totR gs : Int) -> InB tr i /\ hcell h31 (Sl.at tr i 1) = some (VI (posA gs s i.toNat)) := fun i a b => by
      have hi : i < ((eulP gs p).1.length : Int) := by omega
      refine ⟨T31.inb a hi, ?_⟩
      rw [T31.get a hi, ← tp i.toNat (by omega), getD_getI (by omega)]
    rw [w64_eq _ (by omega) (by omega)]
    have v0 := val 0 (by omega) (by omega)
    have vn := val (totR gs) (by omega) (by omega)
    rw [show (0 : Int).toNat = 0 by rfl, t0] at v0
    rw [Int.toNat_natCast, tn] at vn
    refine ⟨fun e2 => by simp only [Bool.not_eq_true', decide_eq_false_iff_not] at e2; omega, fun _ => ⟨v0.1, _, v0.2, fun e2 => by simp at e2, fun _ => ⟨vn.1, _, vn.2, fun e2 => by simp at e2, fun _ => ?_⟩⟩⟩
    refine ⟨fun m x h' => 0 ≤ x /\ x + m = (gs.length : Int) /\ h' = h31, ⟨gs.length, by omega, by omega, rfl⟩, ?_⟩
    rintro m x h32 ⟨x0, x1, rfl⟩ hL32
    refine ⟨fun e2 => ?_, fun _ => f31⟩
    have hx := G31.lt e2
    have hx2 : x.toNat < gs.length := by omega
    obtain ⟨si, c1, r1⟩ := G31.get x0 hx
    have sn := r1.len
    have dn : gs[x.toNat].length = degN gs x.toNat := by unfold degN; rw [getD_get hx2]
    have dl := (graph_mem hg (List.getElem_mem hx2)).1
    refine ⟨G31.inb x0 hx, si, c1, fun m2 y h' => 0 ≤ y /\ y + m2 = (gs.length : Int) /\ h' = h32, ⟨gs.length, by omega, by omega, rfl⟩, ?_⟩
    rintro m2 y h33 ⟨y0, y1, rfl⟩ hL33
    refine ⟨fun e3 => ?_, fun e3 => ⟨m - 1, by omega, by rw [w64_eq _ (by omega) (by omega)]; omega, by rw [w64_eq _ (by omega) (by omega)]; omega, rfl⟩⟩
    simp only [decide_eq_true_eq] at e3
    have one : ∀ j : Nat, (if (gs.getD x.toNat []).getD j 0 = y then 1 else 0) ≤ 1 := fun j => by split <;> omega
    refine ⟨fun m3 d k h' => 0 ≤ k /\ k + m3 = (degN gs x.toNat : Int) /\ d = ((sumN (fun j => if (gs.getD x.toNat []).getD j 0 = y then 1 else 0) k.toNat : Nat) : Int) /\ h' = h33, ⟨degN gs x.toNat, by omega, by omega, rfl, rfl⟩, ?_⟩
    rintro m3 d k h34 ⟨k0, k1, rfl, rfl⟩ hL34
    have cl := cnt_le one k.toNat
    refine ⟨fun e4 => ?_, fun e4 => ?_⟩
    · have hk := r1.lt e4
      have hk2 : k.toNat < gs[x.toNat].length := by omega
      have ek : (k + 1).toNat = k.toNat + 1 := by omega
      refine ⟨r1.inb k0 hk, _, r1.get k0 hk, ?_⟩
      rw [w64_eq (k + 1) (by omega) (by omega), w64_eq (_ + 1) (by omega) (by omega)]
      have eq : (gs.getD x.toNat []).getD k.toNat 0 = gs[x.toNat][k.toNat] := by rw [getD_get hx2, getD_getI hk2]
      refine ⟨fun e5 => ⟨m3 - 1, by omega, by omega, by omega, ?_, rfl⟩, fun e5 => ⟨m3 - 1, by omega, by omega, by omega, ?_, rfl⟩⟩
      · simp only [decide_eq_true_eq] at e5
        rw [ek, sumN, eq, if_pos e5]; omega
      · simp only [decide_eq_false_iff_not] at e5
        rw [ek, sumN, eq, if_neg e5]; omega
    · have hk := r1.ge e4
      rw [show k.toNat = degN gs x.toNat by omega] at cl ⊢
      have pfx := pf x.toNat y hx2
      rw [show ((x.toNat : Nat) : Int) = x by omega] at pfx
      rw [← pfx]
      refine ⟨fun m4 n i h' => 1 ≤ i /\ i + m4 = (totR gs : Int) + 1 /\ n = ((pairN gs s x y (i - 1).toNat : Nat) : Int) /\ h' = h34, ⟨totR gs, by omega, by omega, rfl, rfl⟩, ?_⟩
      rintro m4 n i h35 ⟨i0, i1, rfl, rfl⟩ hL35
      have pl := pairN_le gs s x y (i - 1).toNat
      refine ⟨fun e5 => ?_, fun e5 => ?_⟩
      · simp only [decide_eq_true_eq] at e5
        have v1 := val (i - 1) (by omega) (by omega)
        have v2 := val i (by omega) (by omega)
        have ei : i.toNat = (i - 1).toNat + 1 := by omega
        rw [w64_eq (i - 1) (by omega) (by omega), w64_eq (_ + 1) (by omega) (by omega)]
        refine ⟨fun v h' => v = ((pairN gs s x y i.toNat : Nat) : Int) /\ h' = h35, ⟨v1.1, _, v1.2, fun e6 => ⟨v2.1, _, v2.2, fun e7 => ⟨?_, rfl⟩, fun e7 => ⟨?_, rfl⟩⟩, fun e6 => ⟨?_, rfl⟩⟩, ?_⟩
        · simp only [decide_eq_true_eq] at e6 e7
          rw [ei] at e7 ⊢
          rw [pairN, if_pos ⟨e6, e7⟩]; omega
        · simp only [decide_eq_true_eq, decide_eq_false_iff_not] at e6 e7
          rw [ei] at e7 ⊢
          rw [pairN, if_neg fun q => e7 q.2]; rfl
        · simp only [decide_eq_false_iff_not] at e6
          rw [ei, pairN, if_neg fun q => e6 q.1]; rfl
        · rintro v h36 ⟨rfl, rfl⟩ hL36
          rw [w64_eq (i + 1) (by omega) (by omega)]
          exact ⟨m4 - 1, by omega, by omega, by omega, by rw [show (i + 1 - 1).toNat = i.toNat by omega], rfl⟩
      · simp only [decide_eq_false_iff_not] at e5
        rw [show (i - 1).toNat = totR gs by omega]
        refine ⟨fun e6 => by simp at e6, fun _ => ⟨m2 - 1, by omega, by rw [w64_eq _ (by omega) (by omega)]; omega, by rw [w64_eq _ (by omega) (by omega)]; omega, rfl⟩⟩
  · intro h37 f37 hL37
    have f037 := f029.no_trans f37
    refine k_DrawHitTime (G1.no f037) B1 _ fun a w gz rs q z h38 GA HA f38 => ⟨a, w, q, z, rfl, hL37.of_no f38, fun b6 b7 h42 _ _ f42 hL42 => ?_⟩
    have f42 := f42.in_nil
    have GA := GA.no f42
    have HA := HA.no f42
    refine k_HitTime GA HA q z _ fun h43 f43 => ⟨_, _, rfl, hL42.of_no f43, ?_⟩
    refine k_spec_HitTime (GA.no f43) (HA.no f43) q z _ fun h44 f44 => ⟨_, _, rfl, (hL42.of_no f43).of_no f44, ?_⟩
    have f044 := f037.no_trans (f38.no_trans (f42.no_trans (f43.no_trans f44)))
    refine k_DrawCoverTime (G1.no f044) B1 _ fun y u ys us r h45 GY HY f45 => ⟨y, u, r, rfl, ((hL42.of_no f43).of_no f44).of_no f45, fun b8 b9 h49 _ _ f49 hL49 => ?_⟩
    have f49 := f49.in_nil
    have GY := GY.no f49
    have HY := HY.no f49
    refine k_CoverTime GY HY r _ fun h50 f50 => ⟨_, _, rfl, hL49.of_no f50, ?_⟩
    have f051 := f044.no_trans (f45.no_trans (f49.no_trans f50))
    refine k_spec_CoverTime (GY.no f50) (HY.no f50) r _ fun h51 f51 => ⟨_, _, rfl, (hL49.of_no f50).of_no f51, fun e => by simp at e, fun _ => ⟨fun e => by simp at e, fun _ => ⟨fun e => by simp at e, fun _ => ⟨fun e => by simp at e, fun _ => ⟨fun e => ?_, fun _ => HK h51 (f051.no_trans f51)⟩⟩⟩⟩⟩
    obtain ⟨c0, c1, c2, c3⟩ := cov_hit e
    have f5051 := f50.no_trans f51
    have GY := GY.no f5051
    have HY := HY.no f5051
    have yn := GY.len
    have yl : ys.length ≤ 1000000 := by
      by_cases hz : ys.length = 0
      · omega
      · have hw : walkB ys us r = true := by
          cases hw : walkB ys us r with
          | true => rfl
          | false => unfold coverP at e; rw [hw] at e; cases e
        have := graph_len (wok_of hw).graph
        omega
    refine ⟨fun m mo i h' => 0 ≤ i /\ i + m = (ys.length : Int) /\ 0 ≤ mo /\ mo ≤ (coverP ys us r).1 /\ (∀ k : Nat, k < i.toNat -> (hitP ys us r (k : Int)).1 ≤ mo) /\ Fr No h51 h', ⟨ys.length, by omega, by omega, by omega, by omega, fun k hk => by simp at hk, Fr.refl _ _⟩, ?_⟩
    rintro m mo i h52 ⟨i0, i1, m0, m1, hm, f52⟩ hL52
    refine ⟨fun e2 => ?_, fun e2 => ?_⟩
    · have hi := (GY.no f52).lt e2
      obtain ⟨j, hj, hj2⟩ := c2 i.toNat (by omega)
      rw [show ((i.toNat : Nat) : Int) = i by omega] at hj
      refine k_HitTime (GY.no f52) (HY.no f52) r i _ fun h53 f53 => ⟨_, _, rfl, hL52.of_no f53, fun e3 => (by rw [hj] at e3; cases e3), fun _ => ⟨fun e3 => ?_, fun _ => ?_⟩⟩
      · rw [hj] at e3
        simp only [decide_eq_true_eq] at e3
        omega
      · rw [hj, w64_eq (i + 1) (by omega) (by omega)]
        have ei : (i + 1).toNat = i.toNat + 1 := by omega
        refine ⟨fun e4 => ⟨m - 1, by omega, by omega, by omega, by simp only; omega, hj2, fun k hk => ?_, f52.no_trans f53⟩, fun e4 => ⟨m - 1, by omega, by omega, by omega, m0, m1, fun k hk => ?_, f52.no_trans f53⟩⟩
        · simp only [decide_eq_true_eq] at e4
          by_cases h : k = i.toNat
          · rw [h, show ((i.toNat : Nat) : Int) = i by omega, hj]; exact Int.le_refl _
          · have := hm k (by omega)
            simp only
            omega
        · simp only [decide_eq_false_iff_not] at e4
          by_cases h : k = i.toNat
          · rw [h, show ((i.toNat : Nat) : Int) = i by omega, hj]; simp only; omega
          · exact hm k (by omega)
    · have hi := (GY.no f52).ge e2
      refine ⟨fun e3 => ?_, fun _ => HK h52 ((f051.no_trans f51).no_trans f52)⟩
      simp only [Bool.not_eq_true', decide_eq_false_iff_not] at e3
      rcases c3 with c3 | ⟨k, k1, k2⟩
      · omega
      · have := hm k (by omega)
        omega
theorem ca_tail1 {X : Heap} {S S' : Nat -> Prop} {g w xs y : Sl} {xss : List (List Int)} {x : St} {pp q4 : Int} (G : RdR S X g xss) (H : RdI S' X xs x.1) (W : WOK xss x) (hu : uniB xss x.1 x.2 = true) (J : Heap -> Prop) {K : Value -> Heap -> Prop} (HJ : ∀ h', Fr No X h' -> J h') {b4 b3 b2 b1 : Nat} (hL : Vars X [(b4, [y.v, VI q4]), (b3, [xs.v, VI x.2]), (b2, [w.v, VI pp]), (b1, [g.v])]) : w4_1 Tryz.prog g xs x.2 X b4 y q4 b3 b2 w pp b1 J K := by
  unfold w4_1
  have hw : walkB xss x.1 x.2 = true := walk_to2 W
  refine k_IsUnicycle G H x.2 _ fun h21 f21 => ⟨_, _, rfl, hL.of_no f21, fun e => ?_, fun _ => ⟨fun e => ?_, fun _ => HJ h21 f21⟩⟩
  · rw [hw] at e; cases e
  · rw [hw, hu] at e; cases e
set_option maxHeartbeats 4000000 in
theorem k_lawWalksComeAgain {h : Heap} {S0 S1 : Nat -> Prop} {s0 s1 : Sl} {x0 x1 : List Value} (G0 : RdV S0 h 1 s0 x0) (B0 : ∀ v, v ∈ x0 -> ∃ m : Int, v = Value.int .u8 m /\ 0 ≤ m /\ m ≤ 255) (G1 : RdV S1 h 1 s1 x1) (B1 : ∀ v, v ∈ x1 -> ∃ m : Int, v = Value.int .u8 m /\ 0 ≤ m /\ m ≤ 255) : Ret Tryz.prog 4 #[s0.v, s1.v] h (VB true) := by
  intro K HK
  refine x4 s0 s1 h K ?_
  unfold w4
  refine k_big s0 s1 h _ fun b0 => ⟨b0, rfl, .nil, fun _ => HK h (Fr.refl _ _), fun _ => ?_⟩
  refine k_DrawPeriodOf G0 B0 _ fun t w gs rs p h2 G2 H2 f2 => ⟨t, w, p, rfl, .nil, fun b1 b2 h6 _ _ f6 hL6 => ?_⟩
  have f6 := f6.in_nil
  have F6 := f2.no_trans f6
  have G6 := G2.no f6
  have H6 := H2.no f6
  refine k_PeriodOf G6 H6 p _ fun h7 f7 => ⟨_, _, _, rfl, hL6.of_no f7, ?_⟩
  refine k_spec_PeriodOf (G6.no f7) (H6.no f7) p _ fun h8 f8 => ⟨_, _, _, rfl, (hL6.of_no f7).of_no f8, ?_⟩
  have f68 := f7.no_trans f8
  refine k_IsRecurrent (G6.no f68) (H6.no f68) p _ fun h9 f9 => ⟨_, _, rfl, ((hL6.of_no f7).of_no f8).of_no f9, ?_⟩
  have f69 := f68.no_trans f9
  refine k_spec_IsRecurrent (G6.no f69) (H6.no f69) p _ fun h10 f10 => ⟨_, _, rfl, (((hL6.of_no f7).of_no f8).of_no f9).of_no f10, fun e => by simp at e, fun _ => ⟨fun e => by simp at e, fun _ => ⟨fun e => by simp at e, fun _ => ⟨fun e => by simp at e, fun _ => ⟨fun e => by simp at e, fun _ => ⟨fun e => ?_, fun _ => ?_⟩⟩⟩⟩⟩⟩
  all_goals have hL10 := (((hL6.of_no f7).of_no f8).of_no f9).of_no f10
  all_goals have f610 := f69.no_trans f10
  all_goals have f010 := F6.no_trans f610
  · obtain ⟨m, k, x, hlt, hk, e1, e2, Wx, r1, r2, hw, hrec, heu, huni⟩ := per_again e
    have hg := Wx.graph
    have hr2 : (recP gs rs p).2 = true := by unfold recP; rw [if_pos hw]
    refine ⟨fun e3 => (by rw [hr2] at e3; cases e3), fun _ => ⟨fun e3 => (by rw [hrec, e1] at e3; simp at e3), fun _ => ⟨fun h' => Fr No h10 h', ?_, ca_tail2 (G1.no f010) B1 _ (fun h' f => f) _ _ _ _ _ fun h' f => HK h' (f010.no_trans f)⟩⟩⟩
    rw [e1, e2]
    have G10 := G6.no f610
    have H10 := H6.no f610
    refine k_RunOf G10 H10 p m _ fun xs h11 o11 f11 => ⟨xs, _, _, rfl, hL10.of_no f11, fun b3 h13 _ f13 hL13 => ?_⟩
    have f13 := f13.in_nil
    have f1013 := f11.no_trans f13
    rw [w64_eq _ (by omega) (by omega), show (m : Int) + ((k - m : Nat) : Int) = (k : Int) by omega]
    refine k_RunOf (G10.no f1013) (H10.no f1013) p k _ fun ys h14 o14 f14 => ⟨ys, _, _, rfl, hL13.of_no f14, fun b4 h16 _ f16 hL16 => ?_⟩
    have f16 := f16.in_nil
    rw [r1] at o11 hL16 ⊢
    rw [r2] at o14 hL16 ⊢
    simp only at o11 o14 hL16
    have f1016 := f1013.no_trans (f14.no_trans f16)
    have G16 := G10.no f1016
    refine k_IsStrong G16 _ fun h17 f17 => ⟨_, _, rfl, hL16.of_no f17, ?_⟩
    refine k_IsBalanced (G16.no f17) _ fun h18 f18 => ⟨_, _, rfl, (hL16.of_no f17).of_no f18, ?_⟩
    have f1618 := f17.no_trans f18
    refine k_CountExits (G16.no f1618) _ fun h19 f19 => ⟨_, _, rfl, ((hL16.of_no f17).of_no f18).of_no f19, fun e3 => by simp at e3, fun _ => ⟨fun e3 => by simp at e3, fun _ => ?_⟩⟩
    have f1619 := f1618.no_trans f19
    have hL19 := ((hL16.of_no f17).of_no f18).of_no f19
    have X19 : RdI _ h19 xs x.1 := RdI.no o11.rdF (f13.no_trans (f14.no_trans (f16.no_trans f1619)))
    have Y19 : RdI _ h19 ys x.1 := RdI.no o14.rdF (f16.no_trans f1619)
    refine k_wWalk X19 Y19 _ _ _ fun h20 f20 => ⟨_, rfl, hL19.of_no f20, fun e3 => by simp at e3, fun _ => ⟨fun e3 => (by rw [hg] at e3; cases e3), fun _ => ⟨fun e3 => (by rw [hg] at e3; cases e3), fun _ => ⟨fun e3 => (by rw [hg] at e3; cases e3), fun _ => ⟨fun e3 => ?_, fun _ => ?_⟩⟩⟩⟩⟩
    · simp only [decide_eq_true_eq] at e3; omega
    have f1620 := f1619.no_trans f20
    have f1020 := f1016.no_trans f1620
    have G20 := G16.no f1620
    have X20 := X19.no f20
    have hL20 := hL19.of_no f20
    rw [hg, Bool.true_and, Bool.true_and, if_pos rfl]
    refine ⟨fun hs => ⟨fun hb => ⟨fun e3 => ?_, fun _ => ca_tail1 G20 X20 Wx (huni hs) _ (fun h' f => f1020.no_trans f) hL20⟩, fun _ => ca_tail1 G20 X20 Wx (huni hs) _ (fun h' f => f1020.no_trans f) hL20⟩, fun _ => ?_⟩
    · rw [heu hs hb] at e3; simp at e3
    · refine k_IsUnicycle G20 X20 x.2 _ fun h23 f23 => ⟨_, _, rfl, hL20.of_no f23, f1020.no_trans f23⟩
  · exact ⟨fun h' => Fr No h10 h', Fr.refl _ _, ca_tail2 (G1.no f010) B1 _ (fun h' f => f) _ _ _ _ _ fun h' f => HK h' (f010.no_trans f)⟩
end Go.Proofs.YtkjkfjkapbpgiaaGreatDoor
