/-
  What each function that the law 'FnExactStepsByWalks' comes to does: the contracts.
-/
import Derived.Test.YtkjkfjkapbpgiaaStepsByWalksK0
set_option linter.unusedVariables false
set_option linter.unusedSimpArgs false
namespace Go.Proofs.Ytkjkfjkapbpgiaa
open Go Go.Mx
/-! Sorted lists of places. -/
def SrtTo (ys : List Int) (i : Nat) : Prop := ∀ a b, a < b → b < i → ys.getD a 0 ≤ ys.getD b 0
def namesB (xs : List Int) (n : Int) : Bool := decide ((xs.length : Int) = n) && (xs.all (inR 0 (n - 1)) && decide xs.Nodup)
theorem getD_set' (ys : List Int) (j : Nat) (v : Int) (hj : j < ys.length) (b : Nat) : (ys.set j v).getD b 0 = if b = j then v else ys.getD b 0 := by
  rw [List.getD_eq_getElem?_getD, List.getElem?_set, List.getD_eq_getElem?_getD]
  by_cases h : j = b
  · subst h; rw [if_pos rfl, if_pos rfl]; simp [hj]
  · rw [if_neg h, if_neg (fun e => h e.symm)]

/-- In order up to i but for what stands at j, which is no more than what follows. -/
structure SrtAt (ys : List Int) (j i : Nat) : Prop where
  rest : ∀ a b, a < b → b ≤ i → a ≠ j → b ≠ j → ys.getD a 0 ≤ ys.getD b 0
  low : ∀ b, j < b → b ≤ i → ys.getD j 0 ≤ ys.getD b 0
theorem SrtTo.start {ys : List Int} {i : Nat} (h : SrtTo ys i) : SrtAt ys i i := ⟨fun a b h1 h2 h3 h4 => h a b h1 (by omega), fun b h1 h2 => by omega⟩
theorem SrtAt.stop {ys : List Int} {j i : Nat} (h : SrtAt ys j i) (hj : j = 0 ∨ ys.getD (j - 1) 0 ≤ ys.getD j 0) : SrtTo ys (i + 1) := by
  intro a b h1 h2
  by_cases ha : a = j
  · subst ha; exact h.low b h1 (by omega)
  by_cases hb : b = j
  · subst hb
    rcases hj with hj | hj
    · omega
    · by_cases e : a = b - 1
      · subst e; exact hj
      · have := h.rest a (b - 1) (by omega) (by omega) ha (by omega); omega
  · exact h.rest a b h1 (by omega) ha hb
theorem SrtAt.swap {ys : List Int} {j i : Nat} (h : SrtAt ys j i) (hj : 0 < j) (hl : j < ys.length) (hi : j ≤ i) (e : ys.getD j 0 < ys.getD (j - 1) 0) : SrtAt ((ys.set j (ys.getD (j - 1) 0)).set (j - 1) (ys.getD j 0)) (j - 1) i := by
  have g : ∀ b, ((ys.set j (ys.getD (j - 1) 0)).set (j - 1) (ys.getD j 0)).getD b 0 = if b = j - 1 then ys.getD j 0 else if b = j then ys.getD (j - 1) 0 else ys.getD b 0 := fun b => by
    rw [getD_set' _ _ _ (by simp; omega), getD_set' _ _ _ hl]
  refine ⟨fun a b h1 h2 h3 h4 => ?_, fun b h1 h2 => ?_⟩
  · rw [g, g, if_neg h3, if_neg h4]
    by_cases ha : a = j
    · subst ha
      rw [if_pos rfl, if_neg (by omega)]
      exact h.rest (a - 1) b (by omega) h2 (by omega) (by omega)
    · by_cases hb : b = j
      · subst hb
        rw [if_neg ha, if_pos rfl]
        exact h.rest a (b - 1) (by omega) (by omega) ha (by omega)
      · rw [if_neg ha, if_neg hb]; exact h.rest a b h1 h2 ha hb
  · rw [g, g, if_pos rfl, if_neg (by omega)]
    by_cases hb : b = j
    · subst hb; rw [if_pos rfl]; omega
    · rw [if_neg hb]; exact h.low b (by omega) h2

theorem k_LessI (x y : Int) (h : Heap) (K : Value → Heap → Prop) (HK : K (VB (decide (x < y))) h) : callM Try.prog 150 #[VI x, VI y] h K := by
  refine v150 x y h K (v162 x h _ ⟨_, rfl, .nil, fun e => ?_, fun _ => HK⟩)
  simp at e

theorem k_insertionSort {F : Nat → Prop} {h : Heap} {s : Sl} {xs : List Int} (H : OwI h F s xs) (hn : xs.length ≤ 12) (K : Value → Heap → Prop) (HK : ∀ h' ys, ys.Perm xs → SrtTo ys xs.length → OwI h' F s ys → Fr F h h' → K (.tuple #[]) h') : callM Try.prog 144 #[s.v, VI 0, VI (s.n : Int)] h K := by
  have hl : s.n = xs.length := RdI.len H.rdF
  refine v144 s 0 s.n h K ?_
  have hw : w64 (0 + 1) = 1 := w64_eq _ (by omega) (by omega)
  refine ⟨fun n i h' => ∃ ys, 1 ≤ i ∧ (i ≤ xs.length ∨ xs.length = 0) ∧ (n : Int) = 13 - i ∧ ys.Perm xs ∧ SrtTo ys i.toNat ∧ OwI h' F s ys ∧ Fr F h h', ⟨12, by rw [hw]; exact ⟨xs, by omega, by omega, by omega, .refl _, fun a b _ hb => by simp at hb; omega, H, Fr.refl _ _⟩⟩, ?_⟩
  rintro n i h1 ⟨ys, i0, i1, i2, p, so, o, f⟩ hL
  have yl := p.length_eq
  refine ⟨fun e => ?_, fun e => ?_⟩
  · simp only [decide_eq_true_eq] at e
    have hi : i < (xs.length : Int) := by omega
    refine ⟨fun m j h' => ∃ zs, 0 ≤ j ∧ j ≤ i ∧ (m : Int) = j ∧ zs.Perm xs ∧ SrtAt zs j.toNat i.toNat ∧ OwI h' F s zs ∧ Fr F h h', ⟨i.toNat, ys, by omega, by omega, by omega, p, so.start, o, f⟩, ?_⟩
    rintro m j h2 ⟨zs, j0, j1, j2, q, sa, o2, f2⟩ hL2
    have zl := q.length_eq
    have done : SrtTo zs (i.toNat + 1) → ∃ m, m < n ∧ (fun (n : Nat) (i : Int) (h' : Heap) => ∃ ys, 1 ≤ i ∧ (i ≤ xs.length ∨ xs.length = 0) ∧ (n : Int) = 13 - i ∧ ys.Perm xs ∧ SrtTo ys i.toNat ∧ OwI h' F s ys ∧ Fr F h h') m (w64 (i + 1)) h2 := fun hs => by
      rw [w64_eq _ (by omega) (by omega)]
      exact ⟨n - 1, by omega, zs, by omega, by omega, by omega, q, by rw [toNat_succ (by omega)]; exact hs, o2, f2⟩
    refine ⟨fun e2 => ?_, fun e2 => ?_⟩
    · simp only [decide_eq_true_eq] at e2
      rw [w64_eq _ (by omega) (by omega)]
      have R : RdI F h2 s zs := o2.rdF
      have hj : j < (zs.length : Int) := by omega
      refine ⟨R.inb j0 hj, _, R.get j0 hj, R.inb (by omega) (by omega), _, R.get (by omega) (by omega), k_LessI _ _ _ _ ⟨_, rfl, hL2, fun e3 => ?_, fun e3 => done (sa.stop (.inr ?_))⟩⟩
      · simp only [decide_eq_true_eq] at e3
        obtain ⟨w1, w2, w3⟩ := o2.store1 j0 (by omega) (VI (zs[(j - 1).toNat]'(by omega)))
        rw [← List.map_set] at w2
        obtain ⟨x1, x2, x3⟩ := Ow.store1 w2 (i := j - 1) (by omega) (by omega) (VI (zs[j.toNat]'(by omega)))
        rw [← List.map_set] at x2
        refine ⟨R.inb (by omega) (by omega), _, R.get (by omega) (by omega), R.inb j0 hj, _, R.get j0 hj, R.inb j0 hj, w1, .nil, ?_⟩
        rintro h4 rfl hL4
        refine ⟨R.inb (by omega) (by omega), x1, .nil, ?_⟩
        rintro h5 rfl hL5
        have g1 := getD_getI (xs := zs) (i := j.toNat) (by omega)
        have g2 := getD_getI (xs := zs) (i := (j - 1).toNat) (by omega)
        have ej : (j - 1).toNat = j.toNat - 1 := by omega
        refine ⟨m - 1, by omega, _, by omega, by omega, by omega, (List.set_set_perm (i := j.toNat) (j := (j - 1).toNat) (by omega) (by omega)).trans q, ?_, x2, f2.trans ((w3.trans x3).mono fun k _ hk => (o2.foot hk).1)⟩
        have := sa.swap (by omega) (by omega) (by omega) (by rw [← ej, g1, g2]; exact e3)
        rw [← ej, g1, g2] at this
        exact this
      · simp only [decide_eq_false_iff_not] at e3
        have g1 := getD_getI (xs := zs) (i := j.toNat) (by omega)
        have g2 := getD_getI (xs := zs) (i := (j - 1).toNat) (by omega)
        have ej : (j - 1).toNat = j.toNat - 1 := by omega
        rw [← ej, g1, g2]
        omega
    · simp only [decide_eq_false_iff_not] at e2
      exact done (sa.stop (.inl (by omega)))
  · simp only [decide_eq_false_iff_not] at e
    exact HK h1 ys p (fun a b h1 h2 => so a b h1 (by omega)) o f

theorem k_pdqsort {F : Nat → Prop} {h : Heap} {s : Sl} {xs : List Int} (H : OwI h F s xs) (hn : xs.length ≤ 12) (l : Int) (K : Value → Heap → Prop) (HK : ∀ h' ys, ys.Perm xs → SrtTo ys xs.length → OwI h' F s ys → Fr F h h' → K (.tuple #[]) h') : callM Try.prog 137 #[s.v, VI 0, VI (s.n : Int), VI l] h K := by
  have hl : s.n = xs.length := RdI.len H.rdF
  refine v137 s 0 s.n l h K ⟨fun n a b c d e h' => n = 0 ∧ a = 0 ∧ b = s.n ∧ h' = h, ⟨0, rfl, rfl, rfl, rfl⟩, ?_⟩
  rintro n a b c d e h' ⟨rfl, rfl, rfl, rfl⟩ hL
  refine ⟨fun _ => k_insertionSort H hn _ fun h' ys p q o f => ⟨.nil, HK h' ys p q o f⟩, fun e => ?_⟩
  rw [w64_eq _ (by omega) (by omega)] at e
  simp only [decide_eq_false_iff_not] at e
  omega

theorem pop_sidx {P : Program} {t : TypeId} (ht : P.underlying t = some .string) {K : Value → Prop} (k : IntKind) (s : ByteArray) (i : Int) (h0 : 0 ≤ i) (h1 : i.toNat < s.size) (H : K (.int .u8 (s[i.toNat]'h1).toNat)) : pop P (Instr.index t (.string s) (.int k i)) K :=
  .mk' (fun w => by
    have hu := run_underlying' ht w
    have e : s[i.toNat]? = some (s[i.toNat]'h1) := by simp [getElem?_pos s i.toNat h1]
    unfold Instr.index
    simp [asIntOf, go_sem, hu, h0, e]) H
set_option maxRecDepth 100000 in
theorem k_Len64 (x : Int) (h0 : 0 ≤ x) (h1 : x ≤ 12) (h : Heap) (K : Value → Heap → Prop) (HK : ∀ n, K (VI n) h) : callM Try.prog 154 #[Value.int .u64 x] h K := by
  refine v154 x h K ⟨fun a b h' => x = a ∧ h = h', ⟨fun e => by simp at e; omega, fun _ => ⟨rfl, rfl⟩⟩, ?_⟩
  rintro a b h1' ⟨rfl, rfl⟩ hL
  refine ⟨fun a b h' => x = a ∧ h = h', ⟨fun e => by simp at e; omega, fun _ => ⟨rfl, rfl⟩⟩, ?_⟩
  rintro a b h1' ⟨rfl, rfl⟩ hL
  refine ⟨fun a b h' => x = a ∧ h = h', ⟨fun e => by simp at e; omega, fun _ => ⟨rfl, rfl⟩⟩, ?_⟩
  rintro a b h1' ⟨rfl, rfl⟩ hL
  refine rop_conv (k := .u64) (k' := .u8) (by kernel_rfl) (by kernel_rfl) _ ⟨_, rfl, ?_⟩
  have hw : IntKind.u8.wrap x = x := by simp [IntKind.wrap, IntKind.bits, IntKind.signed]; omega
  rw [hw]
  refine pop_sidx (by kernel_rfl) _ _ x h0 (by show x.toNat < 256; omega) ⟨_, rfl, rop_conv (k := .u8) (k' := .i64) (by kernel_rfl) (by kernel_rfl) _ ⟨_, rfl, HK _⟩⟩

theorem k_SortI {F : Nat → Prop} {h : Heap} {s : Sl} {xs : List Int} (H : OwI h F s xs) (hn : xs.length ≤ 12) (K : Value → Heap → Prop) (HK : ∀ h' ys, ys.Perm xs → SrtTo ys xs.length → OwI h' F s ys → Fr F h h' → K (.tuple #[]) h') : callM Try.prog 123 #[s.v] h K := by
  have hl : s.n = xs.length := RdI.len H.rdF
  refine v123 s h K (rop_conv (k := .i64) (k' := .u64) (by kernel_rfl) (by kernel_rfl) _ ⟨_, rfl, ?_⟩)
  have hw : IntKind.u64.wrap (s.n : Int) = s.n := by simp [IntKind.wrap, IntKind.bits, IntKind.signed]; omega
  rw [hw]
  refine v138 _ h _ (k_Len64 _ (by omega) (by omega) _ _ fun n => ⟨n, rfl, .nil, n, rfl, .nil, ?_⟩)
  exact k_pdqsort H hn n _ fun h' ys p q o f => ⟨.nil, HK h' ys p q o f⟩

theorem k_SortedI {S : Nat → Prop} {h : Heap} {s : Sl} {xs : List Int} (H : RdI S h s xs) (hn : xs.length ≤ 12) (K : Value → Heap → Prop) (HK : ∀ t h' ys, ys.Perm xs → SrtTo ys xs.length → OwI h' (Iv h.size h'.size) t ys → Fr No h h' → K t.v h') {b : Nat} (V : IsVar h b [s.v]) : callM Try.prog 105 #[.func (.func 124) #[] #[VP b 0]] h K := by
  refine v105 _ h K (v122 _ h _ (k_AppendSeq V H (by omega) _ fun t h1 o1 f1 => ⟨t, rfl, .nil, t, rfl, .nil, ?_⟩))
  refine k_SortI o1 hn _ fun h2 ys p q o2 f2 => ⟨.nil, HK t h2 ys p q ?_ (f1.ivFresh f2 (Nat.le_refl _))⟩
  have := f2.size
  exact Ow.ivs o2 (Nat.le_refl _) this

theorem srt_ge {ys : List Int} (hs : SrtTo ys ys.length) (hnd : ys.Nodup) (h0 : ∀ y, y ∈ ys → 0 ≤ y) : ∀ i, i < ys.length → (i : Int) ≤ ys.getD i 0 := by
  intro i
  induction i with
  | zero => intro hi; exact h0 _ (by rw [getD_getI hi]; exact List.getElem_mem hi)
  | succ i ih =>
    intro hi
    have h1 := ih (by omega)
    have h2 := hs i (i + 1) (by omega) hi
    have h3 : ys.getD i 0 ≠ ys.getD (i + 1) 0 := fun e => by
      rw [getD_getI (by omega), getD_getI hi] at e
      unfold List.Nodup at hnd
      rw [List.pairwise_iff_getElem] at hnd
      exact hnd i (i + 1) (by omega) hi (by omega) e
    omega
theorem srt_le {ys : List Int} {n : Nat} (hn : ys.length = n) (hs : SrtTo ys ys.length) (hnd : ys.Nodup) (h0 : ∀ y, y ∈ ys → y ≤ (n : Int) - 1) : ∀ d i, i + d + 1 = n → ys.getD i 0 ≤ (i : Int) := by
  intro d
  induction d with
  | zero =>
    intro i hi
    have := h0 (ys.getD i 0) (by rw [getD_getI (by omega)]; exact List.getElem_mem _)
    omega
  | succ d ih =>
    intro i hi
    have h1 := ih (i + 1) (by omega)
    have h2 := hs i (i + 1) (by omega) (by omega)
    have h3 : ys.getD i 0 ≠ ys.getD (i + 1) 0 := fun e => by
      rw [getD_getI (by omega), getD_getI (by omega)] at e
      unfold List.Nodup at hnd
      rw [List.pairwise_iff_getElem] at hnd
      exact hnd i (i + 1) (by omega) (by omega) (by omega) e
    omega
theorem names_srt {xs ys : List Int} (p : ys.Perm xs) (hs : SrtTo ys xs.length) : (∀ i, i < ys.length → ys.getD i 0 = (i : Int)) ↔ (xs.all (inR 0 ((xs.length : Int) - 1)) && decide xs.Nodup) = true := by
  have hl := p.length_eq
  rw [← hl] at hs
  rw [Bool.and_eq_true, decide_eq_true_eq, List.all_eq_true]
  constructor
  · intro h
    refine ⟨fun x hx => ?_, p.nodup_iff.1 ?_⟩
    · obtain ⟨i, hi, e⟩ := List.getElem_of_mem (p.mem_iff.2 hx)
      have := h i hi
      rw [getD_getI hi, e] at this
      rw [inR_iff]
      omega
    · unfold List.Nodup
      rw [List.pairwise_iff_getElem]
      intro i j hi hj hij e
      have h1 := h i hi
      have h2 := h j hj
      rw [getD_getI hi] at h1
      rw [getD_getI hj] at h2
      omega
  · rintro ⟨h1, h2⟩ i hi
    have hnd := p.nodup_iff.2 h2
    have hr : ∀ y, y ∈ ys → 0 ≤ y ∧ y ≤ (xs.length : Int) - 1 := fun y hy => by
      have := h1 y (p.mem_iff.1 hy)
      rwa [inR_iff] at this
    have a := srt_ge hs hnd (fun y hy => (hr y hy).1) i hi
    have b := srt_le hl hs hnd (fun y hy => (hr y hy).2) (xs.length - 1 - i) i (by omega)
    omega
theorem k_areNames {S S' : Nat → Prop} {h : Heap} {g s : Sl} {xss : List (List Int)} {xs : List Int} (G : RdR S h g xss) (H : RdI S' h s xs) (hg : xss.length ≤ 12) (K : Value → Heap → Prop) (HK : ∀ h', Fr No h h' → K (VB (namesB xs xss.length)) h') : callM Try.prog 57 #[.agg #[g.v], s.v] h K := by
  refine v57 g s h K ⟨fun e b1 h1 hb1 f1 hL1 => ?_, fun e b1 h1 hb1 f1 hL1 => ?_⟩
  · have := HK h1 f1.in_nil
    rw [namesB, decide_eq_false, Bool.false_and] at this
    · exact this
    · have := not_t e; rw [G.len, H.len] at this; simpa using this
  have hl : xs.length = xss.length := by have := not_f e; rw [G.len, H.len] at this; simp at this; omega
  have f1 := f1.in_nil
  refine v106 s h1 _ fun b2 h2 hb2 f2 hL2 => ⟨_, rfl, hL1.of_no f2.in_nil, ?_⟩
  have f2 := f2.in_nil
  refine k_SortedI ((H.no f1).no f2) (by omega) _ (fun t h3 ys p q o3 f3 => ⟨t, rfl, (hL1.of_no f2).of_no f3, ?_⟩) hL2.head
  have f03 := (f1.no_trans f2).no_trans f3
  have pl := p.length_eq
  have R : RdI (Iv h2.size h3.size) h3 t ys := o3.rdF
  have key := names_srt p q
  have hkn : namesB xs xss.length = (xs.all (inR 0 ((xs.length : Int) - 1)) && decide xs.Nodup) := by
    rw [namesB, decide_eq_true (by omega), Bool.true_and, hl]
  refine ⟨fun n i h' => h' = h3 ∧ 0 ≤ i ∧ i + n = (ys.length : Int) ∧ ∀ j : Nat, (j : Int) < i → ys.getD j 0 = (j : Int), ⟨ys.length, rfl, by omega, by omega, fun j hj => by omega⟩, ?_⟩
  rintro n i h4 ⟨rfl, i0, i1, i2⟩ hL
  refine ⟨fun e => ?_, fun e => ?_⟩
  · have hi := R.lt e
    refine ⟨R.inb i0 hi, _, R.get i0 hi, fun e2 => ?_, fun e2 => ?_⟩
    · have := HK h4 f03
      rw [hkn] at this
      cases hb : (xs.all (inR 0 ((xs.length : Int) - 1)) && decide xs.Nodup) with
      | false => rw [hb] at this; exact this
      | true =>
        have := (key.2 hb) i.toNat (by omega)
        rw [getD_getI (by omega)] at this
        have e3 := not_t e2
        simp only [decide_eq_false_iff_not] at e3
        omega
    · have e3 := not_f e2
      simp only [decide_eq_true_eq] at e3
      rw [R.succ i0 hi]
      refine ⟨n - 1, by omega, rfl, by omega, by omega, fun j hj => ?_⟩
      by_cases h5 : (j : Int) < i
      · exact i2 j h5
      · have : j = i.toNat := by omega
        subst this
        rw [getD_getI (by omega)]
        omega
  · have hi := R.ge e
    have := HK h4 f03
    rw [hkn, key.1 fun j hj => i2 j (by omega)] at this
    exact this

theorem k_grNames {S : Nat → Prop} {h : Heap} {s : Sl} {xs : List Int} (H : RdI S h s xs) (n : Int) (h0 : 0 ≤ n) (h1 : n ≤ 1000) (K : Value → Heap → Prop) (HK : K (VB (namesB xs n)) h) : callM Try.prog 52 #[s.v, VI n] h K := by
  unfold namesB at HK
  refine v52 s n h K ⟨fun e => ?_, fun e => ?_⟩
  · have := not_t e; rw [H.len] at this
    simp only [decide_eq_false_iff_not] at this
    rw [decide_eq_false this, Bool.false_and] at HK; exact HK
  have e := not_f e
  rw [H.len] at e
  simp only [decide_eq_true_eq] at e
  rw [decide_eq_true e, Bool.true_and] at HK
  rw [w64_eq _ (by omega) (by omega)]
  refine k_spec_l1All H _ _ _ ⟨_, rfl, .nil, fun e2 => ?_, fun e2 => ?_⟩
  · rw [not_t e2, Bool.false_and] at HK; exact HK
  rw [not_f e2, Bool.true_and] at HK
  refine ⟨fun m i h' => h' = h ∧ 0 ≤ i ∧ i + m = (xs.length : Int) ∧ (xs.take i.toNat).Nodup, ⟨xs.length, rfl, by omega, by omega, by simp⟩, ?_⟩
  rintro m i h2 ⟨rfl, i0, i1, i2⟩ hL
  refine ⟨fun e3 => ?_, fun e3 => ?_⟩
  · have hi := H.lt e3
    have hnl := H.len
    have hnc := RdV.cap H
    refine ⟨H.inb i0 hi, _, H.get i0 hi, ?_⟩
    refine pop_cut_h rIs .i64 i0 (by omega) ⟨_, rfl, ?_⟩
    have c := RdI.cut H (l := 0) (m := i.toNat) (by omega) (by omega)
    simp only [List.drop_zero, Nat.sub_zero] at c
    refine k_l1Has c _ _ ⟨_, rfl, hL, fun e4 => ?_, fun e4 => ?_⟩
    · rw [decide_eq_false] at HK
      · exact HK
      · simp only [decide_eq_true_eq] at e4
        intro hnd
        obtain ⟨j, hj, ej⟩ := List.getElem_of_mem e4
        simp only [List.length_take] at hj
        rw [List.getElem_take] at ej
        unfold List.Nodup at hnd
        rw [List.pairwise_iff_getElem] at hnd
        exact hnd j i.toNat (by omega) (by omega) (by omega) ej
    · simp only [decide_eq_false_iff_not] at e4
      rw [H.succ i0 hi]
      refine ⟨m - 1, by omega, rfl, by omega, by omega, ?_⟩
      rw [take_snoc xs i0 hi, List.nodup_append]
      exact ⟨i2, by simp, fun a ha b hb e5 => by simp only [List.mem_cons, List.not_mem_nil, or_false] at hb; rw [hb] at e5; exact e4 (e5 ▸ ha)⟩
  · have hi := H.ge e3
    rw [List.take_of_length_le (by omega)] at i2
    rw [decide_eq_true i2] at HK
    exact HK

theorem Red.snoc {g T : List (List Int)} {c : List Int} (hc : Cyc g T c) : ∀ {n : Nat} {S : List (List Int)}, Red g n S T → Red g (n + 1) S (popP T c)
  | 0, S, h => by rw [show S = T from h]; exact ⟨c, hc, rfl⟩
  | n + 1, S, h => by obtain ⟨d, hd, hr⟩ := h; exact ⟨d, hd, Red.snoc hc hr⟩
theorem Red.along {g E T : List (List Int)} (hE : ∀ c, ¬ Cyc g E c) : ∀ {a n : Nat} {S : List (List Int)}, Red g n S E → Red g a S T → ∃ m, n = a + m ∧ Red g m T E
  | 0, n, S, h, ht => by rw [← show S = T from ht]; exact ⟨n, by omega, h⟩
  | a + 1, n, S, h, ht => by
    obtain ⟨c, hc, hr⟩ := ht
    obtain ⟨m, e, hm⟩ := h.after hE hc
    obtain ⟨k, e2, hk⟩ := Red.along hE hm hr
    exact ⟨k, by omega, hk⟩
theorem names_all {xs : List Int} {n : Nat} (h : namesB xs n = true) : xs.length = n ∧ (∀ x, x ∈ xs → 0 ≤ x ∧ x < (n : Int)) ∧ xs.Nodup ∧ ∀ i : Nat, i < n → (i : Int) ∈ xs := by
  unfold namesB at h
  rw [Bool.and_eq_true, decide_eq_true_eq] at h
  obtain ⟨hl, h2⟩ := h
  have hl : xs.length = n := by omega
  have h3 := h2
  rw [Bool.and_eq_true, decide_eq_true_eq, List.all_eq_true] at h3
  refine ⟨hl, fun x hx => ?_, h3.2, fun i hi => ?_⟩
  · have := h3.1 x hx
    rw [inR_iff] at this
    omega
  · have p := List.mergeSort_perm xs (fun a b => decide (a ≤ b))
    have q := List.pairwise_mergeSort (le := fun a b : Int => decide (a ≤ b)) (fun a b c => by simp; omega) (fun a b => by simp; omega) xs
    have so : SrtTo (xs.mergeSort fun a b => decide (a ≤ b)) xs.length := fun a b h1 h2 => by
      rw [List.pairwise_iff_getElem] at q
      have hb : b < (xs.mergeSort fun a b => decide (a ≤ b)).length := by rw [p.length_eq]; exact h2
      have := q a b (by omega) hb h1
      rw [getD_getI (by omega), getD_getI hb]
      simpa using this
    have hm := (names_srt p so).2 (by rw [hl]; exact h2) i (by rw [p.length_eq]; omega)
    have hi2 : i < (xs.mergeSort fun a b => decide (a ≤ b)).length := by rw [p.length_eq]; omega
    rw [getD_getI hi2] at hm
    rw [← hm]
    exact p.mem_iff.1 (List.getElem_mem hi2)

theorem nodup_le {xs : List Int} {n : Nat} (hn : xs.Nodup) (hr : ∀ x, x ∈ xs → 0 ≤ x ∧ x < (n : Int)) : xs.length ≤ n := by
  refine Nat.not_lt.1 fun h => ?_
  have hg : ∀ i, i ≤ n → xs.getD i 0 ∈ xs := fun i hi => getD_mem (by omega)
  obtain ⟨a, b, hab, hb, e⟩ := php n (fun i => (xs.getD i 0).toNat) fun i hi => by
    have := hr _ (hg i hi)
    (try simp only)
    omega
  have h1 := hr _ (hg a (by omega))
  have h2 := hr _ (hg b hb)
  have := nodup_getD hn (i := a) (j := b) (by omega) (by omega) (by (try simp only at e); omega)
  omega
theorem markL_snoc (x : Int) : ∀ (w : List Int) (I : List Bool), markL I (w ++ [x]) = (markL I w).set x.toNat true
  | [], I => rfl
  | y :: r, I => by rw [List.cons_append, markL, markL, markL_snoc x r]

theorem k_skPlace {S : Nat → Prop} {h : Heap} {s : Sl} {xs : List Int} (H : RdI S h s xs) (v : Int) (K : Value → Heap → Prop) (HN : v ∉ xs → K (VI (-1)) h) (HS : ∀ i : Nat, i < xs.length → xs.getD i 0 = v → K (VI i) h) : callM Try.prog 101 #[s.v, VI v] h K := by
  refine v101 s v h K ⟨fun n i h' => h' = h ∧ 0 ≤ i ∧ i + n = (xs.length : Int) ∧ ∀ j : Nat, (j : Int) < i → xs.getD j 0 ≠ v, ⟨xs.length, rfl, by omega, by omega, fun j hj => by omega⟩, ?_⟩
  rintro n i h1 ⟨rfl, i0, i1, i2⟩ hL
  refine ⟨fun e => ?_, fun e => ?_⟩
  · have hi := H.lt e
    refine ⟨H.inb i0 hi, _, H.get i0 hi, fun e2 => ?_, fun e2 => ?_⟩
    · simp only [decide_eq_true_eq] at e2
      have := HS i.toNat (by omega) (by rw [getD_getI (by omega)]; exact e2)
      rwa [show ((i.toNat : Nat) : Int) = i by omega] at this
    · simp only [decide_eq_false_iff_not] at e2
      rw [H.succ i0 hi]
      refine ⟨n - 1, by omega, rfl, by omega, by omega, fun j hj => ?_⟩
      by_cases h5 : (j : Int) < i
      · exact i2 j h5
      · have : j = i.toNat := by omega
        subst this
        rw [getD_getI (by omega)]
        exact e2
  · have hi := H.ge e
    refine HN fun hm => ?_
    obtain ⟨j, hj, e⟩ := List.getElem_of_mem hm
    exact i2 j (by omega) (by rw [getD_getI hj]; exact e)

set_option maxHeartbeats 4000000 in
theorem k_skWalks {S S' S2 : Nat → Prop} {h : Heap} {g s o : Sl} {xss ls : List (List Int)} {ord : List Int} {sink : Int} (G : RdR S h g xss) (H : RdR S' h s ls) (O : RdI S2 h o ord) (hB : stackB xss sink ls = true) (hN : namesB ord xss.length = true) (hE : (endP xss sink [] 201 0 ls).2.2 = true) (K : Value → Heap → Prop)
    (HK : ∀ t h', OwI h' (Iv h.size h'.size) t (topsP sink (endP xss sink [] 201 0 ls).1).1 → Fr No h h' → K (.tuple #[t.v, VI ((lenS ls xss.length : Int) - lenS (endP xss sink [] 201 0 ls).1 xss.length + xss.length - 1), VB true]) h') :
    callM Try.prog 54 #[.agg #[g.v], VI sink, .agg #[s.v], o.v] h K := by
  obtain ⟨W, hs0, hs1, hsl⟩ := stack_of hB
  obtain ⟨nl, nr, nd, na⟩ := names_all hN
  obtain ⟨kE, hk, hRE, _, hcE, htE⟩ := endP_red (cs := []) (by simp) 201 0 ls W hE
  have hWE := (endP_ok 201 0 ls W hE).1
  generalize hEE : (endP xss sink [] 201 0 ls).1 = E at *
  have hnE := normal_of hWE hcE
  have hgl := graph_len W.graph
  have hgn : xss.length ≤ 8 := by omega
  have hl := W.len
  have htot := W.tot
  refine v54 g sink s o h K fun b1 b2 h2 hb1 hb2 f2 hL2 => ?_
  have f2 := f2.in_nil
  have l2 : b2 < h2.size := hL2.head.lt
  have l1 : b1 < h2.size := hL2.tail.head.lt
  have z2 := f2.size
  refine k_skPop (H.no f2) (cyc := nilSl) (cs := []) (S' := No) (RdV.nil No h2 1) (by omega) (by simp) _ fun t h3 o3 f3 => ⟨t, rfl, hL2.of_no f3, fun h4 f4 hL4 => ?_⟩
  rw [popP_nil] at o3
  have f4 := f4.inIv (lo := h.size) (hi := h2.size) ⟨⟨hb2, l2⟩, trivial⟩
  have z3 := f3.size
  have z4 := f4.size
  have o4 := o3.iv f4 (.inr (Nat.le_refl _))
  have f04 : Fr No h h4 := (f2.no_trans f3).ivFresh f4 (Nat.le_refl _)
  refine eop_make rBs (fun k => h4.size ≤ k) (fun _ h => h) .i64 .i64 g.n g.n (Nat.le_refl _) (by rw [G.len]; omega) fun inn h5 n5 c5 o5 f5 m5 _ => ⟨inn, rfl, hL4.of_no f5, ?_⟩
  have o5 : Ow h5 (Iv h4.size h5.size) tB 1 inn ((List.replicate xss.length false).map VB) := by
    have e : (List.replicate g.n [VB false]).flatten = (List.replicate xss.length false).map VB := by rw [G.len]; simp [List.flatten_replicate_singleton]
    rw [e] at o5; exact Ow.toIv o5
  have z5 := f5.size
  have gl := G.len
  have hin : inn.n = xss.length := by omega
  obtain ⟨w1, w2, w3⟩ := o5.store1 hs0 (by omega) (VB true)
  have w3 : Fr (Iv h4.size h5.size) h5 _ := w3.mono fun k _ hk => (o5.foot hk).1
  rw [← List.map_set] at w2
  refine ⟨o5.inb hs0 (by omega), w1, (hL4.of_no f5).iv w3 ⟨.inl (by omega), .inl (by omega), trivial⟩, ?_⟩
  rintro h6 rfl hL6
  generalize hh6 : hset h5 (Sl.at inn sink 1) (VB true) = h6 at *
  have z6 := w3.size
  have f06 : Fr No h h6 := (f04.no_trans f5).ivFresh w3 (by omega)
  have iget : ∀ {h' : Heap} {I : List Bool}, Ow h' (Iv h4.size h5.size) tB 1 inn (I.map VB) → I.length = xss.length → ∀ {p : Int}, 0 ≤ p → p < (xss.length : Int) → InB inn p ∧ hcell h' (inn.at p 1) = some (VB (I.getD p.toNat false)) := fun {h' I} hI hIl {p} h0 h1 => by
    refine ⟨hI.inb h0 (by omega), ?_⟩
    rw [bget hI.rdF h0 (by omega), List.getD_eq_getElem?_getD, List.getElem?_eq_getElem (by omega)]
    rfl
  refine ⟨fun n st i x h' => ∃ (T : List (List Int)) (I : List Bool) (c : Nat) (Ex : Nat → Prop), 0 ≤ i ∧ i + n = (ord.length : Int) ∧ RdR Ex h' x T ∧ (∀ k, Ex k → ((h2.size ≤ k ∧ k < h4.size) ∨ h5.size ≤ k) ∧ k < h'.size) ∧ SOK xss T ∧ Red xss c ls T ∧ InOK xss T sink I ∧ I.length = xss.length ∧ Ow h' (Iv h4.size h5.size) tB 1 inn (I.map VB) ∧ I.getD sink.toNat false = true ∧ (∀ j : Nat, (j : Int) < i → I.getD (ord.getD j 0).toNat false = true) ∧ st = (lenS ls xss.length : Int) - lenS T xss.length + cntI I xss.length - 1 ∧ Fr No h h' ∧ h6.size ≤ h'.size,
    ⟨ord.length, ls, (List.replicate xss.length false).set sink.toNat true, 0, Iv h2.size h3.size, by omega, by omega, ((o4.no f5).iv w3 (.inl (by omega))).rdI, fun k hk => ⟨.inl ⟨hk.1, by have := hk.2; omega⟩, by have := hk.2; omega⟩, W, rfl, ?_, by simp, w2, ?_, fun j hj => by omega, ?_, f06, Nat.le_refl _⟩, ?_⟩
  · intro x h0 hx
    rw [set_getB] at hx
    have hf : (List.replicate xss.length false).getD x.toNat false = false := by
      rw [List.getD_eq_getElem?_getD, List.getElem?_replicate]; split <;> rfl
    rw [hf, Bool.false_or, Bool.and_eq_true, decide_eq_true_eq] at hx
    have ex : x = sink := by omega
    subst ex
    refine ⟨0, rfl, fun j hj => ?_⟩
    obtain rfl : j = 0 := by omega
    refine ⟨h0, ?_⟩
    show ((List.replicate xss.length false).set x.toNat true).getD x.toNat false = true
    rw [set_getB, hf, Bool.false_or, decide_eq_true rfl, Bool.true_and]
    exact hx.2
  · rw [set_getB, decide_eq_true rfl, Bool.true_and, decide_eq_true (by simp; omega), Bool.or_true]
  · have hf : ∀ m, cntI (List.replicate xss.length false) m = 0 := by
      intro m
      induction m with
      | zero => rfl
      | succ m ih => rw [cntI, ih, if_neg]; rw [List.getD_eq_getElem?_getD, List.getElem?_replicate]; split <;> simp
    rw [cntI_set (by rw [List.getD_eq_getElem?_getD, List.getElem?_replicate]; split <;> rfl) (by simp; omega), hf, if_pos (by omega)]
    omega
  rintro n st i x h7 ⟨T, I, c, Ex, i0, i1, rx, hEx, WT, hR, hI, hIl, oI, hIs, hIo, hst, f7, z7⟩ hL7
  have lenE := lenS_le (n := xss.length) (S := ls) (by omega)
  refine ⟨fun e => ?_, fun e => ?_⟩
  · have O7 := O.no f7
    have hi := O7.lt e
    have hp := nr _ (List.getElem_mem (show i.toNat < ord.length by omega))
    obtain ⟨ib, ic⟩ := iget oI hIl hp.1 hp.2
    refine ⟨O7.inb i0 hi, _, O7.get i0 hi, ib, _, ic, fun e2 => ?_, fun e2 => ?_⟩
    · rw [O7.succ i0 hi]
      refine ⟨n - 1, by omega, T, I, c, Ex, by omega, by omega, rx, hEx, WT, hR, hI, hIl, oI, hIs, fun j hj => ?_, hst, f7, z7⟩
      by_cases h5 : (j : Int) < i
      · exact hIo j h5
      · obtain rfl : j = i.toNat := by omega
        rw [getD_getI (by omega)]; exact e2
    generalize hst0 : ord[i.toNat]'(by omega) = start at *
    refine eop_lit rIs (fun k => h7.size ≤ k) (fun _ h => h) 1 (by omega) [VI start] rfl rfl fun way h8 n8 c8 o8 f8 m8 _ => ⟨way, rfl, hL7.of_no f8, ?_⟩
    have o8 : OwI h8 (fun k => h7.size ≤ k) way [start] := o8
    have z8 := f8.size
    refine ⟨fun m st2 way p x h' => ∃ (T2 : List (List Int)) (wy : List Int) (c2 : Nat) (Ex : Nat → Prop), RdR Ex h' x T2 ∧ (∀ k, Ex k → ((h2.size ≤ k ∧ k < h4.size) ∨ h5.size ≤ k) ∧ k < h'.size ∧ ¬ way.own k) ∧ SOK xss T2 ∧ Red xss c2 ls T2 ∧ InOK xss T2 sink I ∧ WayOK xss T2 I wy ∧ p = wy.getD (wy.length - 1) 0 ∧ wy.getD 0 0 = start ∧ OwI h' (fun k => h5.size ≤ k) way wy ∧ Ow h' (Iv h4.size h5.size) tB 1 inn (I.map VB) ∧ st2 = (lenS ls xss.length : Int) - lenS T2 xss.length + cntI I xss.length - 1 + (wy.length - 1) ∧ Fr No h h' ∧ h6.size ≤ h'.size ∧ m = lenS T2 xss.length * 20 + (20 - wy.length),
      ⟨_, T, [start], c, Ex, rx.no f8, fun k hk => ⟨(hEx k hk).1, by have := (hEx k hk).2; omega, fun hk2 => by have := (hEx k hk).2; have := (o8.foot hk2).1; omega⟩, WT, hR, hI, ⟨by simp, by simp, fun x hx => by simp only [List.mem_cons, List.not_mem_nil, or_false] at hx; rw [hx]; exact hp, fun i hi => by simp at hi, fun i hi => by simp at hi⟩, rfl, rfl, o8.mono fun k _ hk => by omega, Ow.no oI f8, by simp; omega, f7.no_trans f8, by omega, rfl⟩, ?_⟩
    rintro m st2 way p x h9 ⟨T2, wy, c2, Ex, rx, hEx, WT2, hR2, hI2, hW, hpe, hw0, oW, oI, hst2, f9, z9, hm⟩ hL9
    have wpos : 0 < wy.length := List.length_pos_iff.2 hW.ne
    have hpr := hW.rng _ (getD_mem (xs := wy) (i := wy.length - 1) (by omega))
    rw [← hpe] at hpr
    obtain ⟨ib, ic⟩ := iget oI hIl hpr.1 hpr.2
    have wlen : wy.length ≤ xss.length := by
      have := nodup_le hW.nodup hW.rng
      exact this
    have lenT : lenS T2 xss.length ≤ lenS ls xss.length := by have := (red_len W hR2).1; omega
    have cI := cntI_le I xss.length
    refine ⟨ib, _, ic, fun e3 => ?_, fun e3 => ?_⟩
    · have e3 := not_t e3
      have G9 := G.no f9
      refine k_skNext G9 rx WT2 hpr.1 hpr.2 _ fun h10 f10 => ⟨_, rfl, hL9.of_no f10, fun e4 => ?_, fun e4 => ?_⟩
      · -- a place without a top: it can't be
        exfalso
        simp only [decide_eq_true_eq] at e4
        obtain ⟨m', _, hm'⟩ := Red.along hnE hRE hR2
        have hne : (E.getD p.toNat []).length ≠ 0 := by
          have hl' := hWE.len
          refine ((tops_get htE).2 p.toNat (by omega)).2 fun e5 => ?_
          have : p = sink := by omega
          rw [this, hIs] at e3; cases e3
        obtain ⟨_, _, hm2, _, e5⟩ := sx_some WT2 hpr.1 hpr.2 (hm'.tops hne)
        have := ((graph_mem WT2.graph (List.getElem_mem (show p.toNat < xss.length by omega))).2 _ (List.getElem_mem hm2)).1
        omega
      simp only [decide_eq_false_iff_not] at e4
      generalize hq : sx xss T2 p = q at *
      have hq1 := (sx_lt WT2 hpr.2).2
      rw [hq] at hq1
      have z10 := f10.size
      have oW10 := Ow.no oW f10
      have oI10 := Ow.no oI f10
      have rx10 := rx.no f10
      have hpI : I.getD (wy.getD (wy.length - 1) 0).toNat false = false := by rw [← hpe]; exact e3
      have wn : way.n = wy.length := RdI.len oW.rdF
      refine k_skPlace (S := way.own) oW10.rd q _ (fun hnm => ⟨-1, rfl, hL9.of_no f10, fun e5 => by simp at e5, fun _ => ?_⟩) fun k hk hkq => ⟨_, rfl, hL9.of_no f10, fun _ => ?_, fun e5 => by simp at e5⟩
      · -- the way goes on
        refine eop_lit rIs (fun k => h10.size ≤ k) (fun _ h => h) 1 (by omega) [VI q] rfl rfl fun u h15 n15 c15 o15 f15 m15 _ => ⟨u, rfl, (hL9.of_no f10).of_no f15, ?_⟩
        have z15 := f15.size
        have o15 : RdI u.own h15 u [q] := o15.rd
        have un : u.n = 1 := o15.len
        refine eop_append rIs (Ow.no oW10 f15) (fun k hk => by omega) o15 (plainVI _) (by omega) fun y h16 n16 o16 f16 d16 => ?_
        rw [← List.map_append] at o16
        have z16 := f16.size
        have f16' : Fr (fun k => h5.size ≤ k) h15 h16 := f16.mono fun k _ hk => (oW.foot hk).1
        have wgrow := hW.grow hpI (by rw [← hpe]; exact hq) (by omega) hq1 hnm
        have wl2 := nodup_le wgrow.nodup wgrow.rng
        simp only [List.length_append, List.length_cons, List.length_nil] at wl2
        rw [w64_eq _ (by omega) (by omega)]
        refine ⟨y, rfl, ((hL9.of_no f10).of_no f15).fr f16' (fun p hp hk => by simp only [List.mem_cons, List.not_mem_nil, or_false] at hp; rcases hp with rfl | rfl <;> simp only at hk <;> omega), m - 1, by omega, T2, wy ++ [q], c2, Ex, ?_, fun k hk => ⟨(hEx k hk).1, by have := (hEx k hk).2.1; omega, fun hk2 => ?_⟩, WT2, hR2, hI2, wgrow, ?_, ?_, o16, ?_, by simp; omega, ?_, by omega, by simp; omega⟩
        · exact (rx10.no f15).fr f16 fun k hk hk2 => (hEx k hk).2.2 hk2
        · rcases d16 k hk2 with h1 | h1
          · exact (hEx k hk).2.2 h1
          · have := (hEx k hk).2.1; omega
        · rw [getD_getI (by simp)]; simp
        · rw [← hw0, getD_getI (by simp), getD_getI wpos, List.getElem_append_left]
        · exact (Ow.no oI10 f15).fr f16' fun k hk hk2 => by have := (oI10.foot hk).1.2; omega
        · exact ((f9.no_trans f10).no_trans f15).fresh f16' fun k hk => by omega
      · -- the way closes
        have hcy := hW.cyc hk (by rw [← hpe, hq, hkq])
        have hdn : (wy.drop k).Nodup := hW.nodup.sublist (List.drop_sublist _ _)
        have htop : ∀ x, x ∈ wy.drop k → 0 ≤ x ∧ x < (xss.length : Int) ∧ (T2.getD x.toNat []).length ≠ 0 := fun x hx => ⟨(hW.rng x (List.mem_of_mem_drop hx)).1, (hW.rng x (List.mem_of_mem_drop hx)).2, hcy.top hx⟩
        have hpop := lenS_pop hdn htop
        have hdl : (wy.drop k).length = wy.length - k := by simp
        have hT2l := WT2.len
        have cut1 := RdI.cut (S := way.own) oW10.rd (l := k) (m := wy.length) (by omega) (Nat.le_refl _)
        rw [show wy.length - k = (wy.drop k).length by omega, List.take_length] at cut1
        have wc : way.n ≤ way.c := (oW.cap).1
        refine pop_cut_l rIs .i64 (by omega) (by omega) ⟨_, rfl, ?_⟩
        rw [show ((k : Int)).toNat = k by omega, wn]
        refine k_skPop rx10 cut1 (by have := WT2.tot; omega) (fun x hx => by rw [hT2l]; exact htop x hx) _ fun t h12 o12 f12 => ⟨t, rfl, (hL9.of_no f10).of_no f12, ?_⟩
        rw [w64_eq ((k : Int) + 1) (by omega) (by omega)]
        refine pop_cut_h rIs .i64 (by omega) (by omega) ⟨_, rfl, fun h13 f13 hL13 => ?_⟩
        rw [show ((k : Int) + 1).toNat = k + 1 by omega]
        have f13 := f13.inIv (lo := h.size) (hi := h2.size) ⟨⟨hb2, l2⟩, trivial⟩
        have z12 := f12.size
        have z13 := f13.size
        have oW13 := (Ow.no oW10 f12).fr f13 fun k hk hk2 => by have := (oW.foot hk).1; have := hk2.2; omega
        have cut2 := RdI.cut (S := way.own) oW13.rd (l := 0) (m := k + 1) (by omega) (by omega)
        simp only [List.drop_zero, Nat.sub_zero] at cut2
        refine k_l1Own cut2 (by simp; omega) _ fun v h14 o14 f14 => ⟨v, rfl, hL13.of_no f14, ?_⟩
        have z14 := f14.size
        rw [w64_eq _ (by omega) (by omega)]
        have tl : (wy.take (k + 1)).length = k + 1 := by rw [List.length_take]; omega
        refine ⟨lenS (popP T2 (wy.drop k)) xss.length * 20 + (20 - (k + 1)), by omega, popP T2 (wy.drop k), wy.take (k + 1), c2 + 1, Iv h10.size h12.size, ((o12.iv f13 (by omega)).no f14).rdI, fun k hk => ⟨.inr (by have := hk.1; omega), by have := hk.2; omega, fun hk2 => by have := (o14.foot hk2).1.1; have := hk.2; omega⟩, WT2.pop _, hR2.snoc hcy, hI2.keep fun x hx => ?_, hW.close hk, ?_, ?_, o14.mono fun k _ hk => by have := hk.1; omega, ?_, by omega, ?_, by omega, by omega⟩
        · obtain ⟨j, hj, ej⟩ := List.getElem_of_mem hx
          rw [List.length_drop] at hj
          rw [List.getElem_drop] at ej
          by_cases h5 : k + j + 1 < wy.length
          · have := hW.out (k + j) h5
            rw [getD_getI (by omega), ej] at this
            exact this
          · have : k + j = wy.length - 1 := by omega
            have h6 : wy.getD (wy.length - 1) 0 = x := by rw [← this, getD_getI (by omega), ej]
            rw [← h6]; exact hpI
        · rw [tl, Nat.add_sub_cancel, getD_getI (by omega), List.getElem_take, ← getD_getI (xs := wy) (i := k) (by omega), hkq]
        · rw [← hw0, getD_getI (by omega), getD_getI wpos, List.getElem_take]
        · exact ((Ow.no oI10 f12).iv f13 (by omega)).no f14
        · exact ((((f9.no_trans f10).no_trans f12).ivFresh f13 (Nat.le_refl _)).no_trans f14)
    · -- the way is in
      have e3 := not_f e3
      have hpI : I.getD (wy.getD (wy.length - 1) 0).toNat false = true := by rw [← hpe]; exact e3
      have wn : way.n = wy.length := RdI.len oW.rdF
      refine ⟨fun m i h' => 0 ≤ i ∧ i + m = (wy.length : Int) ∧ Ow h' (Iv h4.size h5.size) tB 1 inn ((markL I (wy.take i.toNat)).map VB) ∧ Fr (Iv h4.size h5.size) h9 h', ⟨wy.length, by omega, by omega, by simpa [markL] using oI, Fr.refl _ _⟩, ?_⟩
      rintro m3 j h17 ⟨j0, j1, oJ, f17⟩ hL17
      have oW17 : OwI h17 (fun k => h5.size ≤ k) way wy := Ow.fr oW f17 fun k hk hk2 => by have := (oW.foot hk).1; have := hk2.2; omega
      have RW : RdI (fun k => h5.size ≤ k) h17 way wy := oW17.rdF
      have ml := markL_length (wy.take j.toNat) I
      refine ⟨fun e4 => ?_, fun e4 => ?_⟩
      · have hj := RW.lt e4
        have hr := hW.rng _ (List.getElem_mem (show j.toNat < wy.length by omega))
        obtain ⟨y1, y2, y3⟩ := oJ.store1 hr.1 (by omega) (VB true)
        have y3' : Fr (Iv h4.size h5.size) h17 _ := y3.mono fun k _ hk => (oJ.foot hk).1
        rw [← List.map_set] at y2
        refine ⟨RW.inb j0 hj, _, RW.get j0 hj, oJ.inb hr.1 (by omega), y1, hL17.iv y3' ⟨.inl (by omega), .inl (by omega), trivial⟩, ?_⟩
        rintro h18 rfl hL18
        rw [RW.succ j0 hj]
        refine ⟨m3 - 1, by omega, by omega, by omega, ?_, f17.trans y3'⟩
        rw [take_snoc wy j0 hj, markL_snoc]
        exact y2
      · have hj := RW.ge e4
        rw [List.take_of_length_le (by omega)] at oJ
        have ml := markL_length wy I
        have hmc := markL_cnt (n := xss.length) wy I hW.nodup hIl hW.rng hW.out hW.ne hpI
        have hm2 := markL_get wy I
        have zz := f17.size
        have hi' : i < (ord.length : Int) := by omega
        rw [w64_succ i0 hi' (by have := loopI O; simp only [maxLen] at *; omega)]
        have keep : ∀ p : Int, 0 ≤ p → p < (xss.length : Int) → I.getD p.toNat false = true → (markL I wy).getD p.toNat false = true := fun p h0 h1 hp => (hm2 p.toNat (fun x hx => (hW.rng x hx).1) (by omega)).2 (.inl hp)
        refine ⟨n - 1, by omega, T2, markL I wy, c2, Ex, by omega, by omega, rx.fr f17 fun k hk hk2 => ?_, fun k hk => ⟨(hEx k hk).1, by have := (hEx k hk).2.1; omega⟩, WT2, hR2, hI2.mark hW hIl hpI, by omega, oJ, keep _ hs0 hs1 hIs, fun a ha => ?_, by omega, f9.ivFresh f17 (by omega), by omega⟩
        · have h1 := hk2.1
          have h2 := hk2.2
          have := (hEx k hk).1
          omega
        · by_cases h5 : (a : Int) < i
          · have hr := nr _ (getD_mem (xs := ord) (i := a) (by omega))
            exact keep _ hr.1 hr.2 (hIo a h5)
          · obtain rfl : a = i.toNat := by omega
            rw [getD_getI (by omega), hst0]
            refine (hm2 start.toNat (fun x hx => (hW.rng x hx).1) (by omega)).2 (.inr ?_)
            rw [show ((start.toNat : Nat) : Int) = start by omega, ← hw0]
            exact getD_mem wpos
  · -- all are in
    have hi := (O.no f7).ge e
    have hall : ∀ i, i < xss.length → I.getD i false = true := fun k hk => by
      obtain ⟨j, hj, ej⟩ := List.getElem_of_mem (na k hk)
      have := hIo j (by omega)
      rw [getD_getI hj, ej] at this
      simpa using this
    have hTl := WT.len
    have hno := hI.done (by
      obtain ⟨_, b⟩ := hR.rest
      obtain ⟨k, ek⟩ := b sink.toNat
      rw [ek, List.length_drop]; omega) hall
    obtain ⟨_, eT⟩ := hRE.same hnE hR hno
    subst eT
    rw [cntI_all hall] at hst
    refine k_skTops (G.no f7) rx WT.len (by omega) sink _ fun u h8 o8 f8 => ⟨u, _, rfl, hL7.of_no f8, ?_⟩
    rw [htE, hst]
    have z8 := f8.size
    have := f7.size
    have := HK u h8 (o8.ivs (by omega) (Nat.le_refl _)) (f7.no_trans f8)
    rwa [show (lenS ls xss.length : Int) - lenS E xss.length + xss.length - 1 = (lenS ls xss.length : Int) - lenS E xss.length + xss.length - 1 from rfl] at this

/-! What walks make of stacks. -/
def walkTP (g : List (List Int)) (sink : Int) (S : List (List Int)) (ord : List Int) : List Int × Bool := if namesB ord g.length then treeP g sink S else ([], false)
def walkSP (g : List (List Int)) (sink : Int) (S : List (List Int)) (ord : List Int) : Int × Bool := if namesB ord g.length && (popsP g sink S).2 then ((popsP g sink S).1.sum + g.length - 1, true) else (0, false)
theorem walkTP_len (g : List (List Int)) (sink : Int) (S : List (List Int)) (ord : List Int) : (walkTP g sink S ord).1.length ≤ 104 := by
  unfold walkTP
  split
  · exact treeP_len g sink S
  · simp
theorem popped_no {g : List (List Int)} {sink : Int} {S : List (List Int)} (h : stackB g sink S = false) : poppedP g sink S [] = ([], 0, false) := by rw [popped_nil, h]; rfl
theorem popped_yes {g : List (List Int)} {sink : Int} {S : List (List Int)} (h : stackB g sink S = true) : poppedP g sink S [] = endP g sink [] 201 0 S := by rw [popped_nil, h]; rfl
theorem stackB_graph {g : List (List Int)} {sink : Int} {S : List (List Int)} (h : graphB g = false) : stackB g sink S = false := by unfold stackB; rw [h]; rfl
theorem diff_sum (S E : List (List Int)) : ∀ n, n ≤ S.length → n ≤ E.length → (diffL S E n).sum = (lenS S n : Int) - lenS E n
  | 0, _, _ => rfl
  | n + 1, h1, h2 => by
    rw [diffL, List.sum_append, diff_sum S E n (by omega) (by omega), lenS, lenS, getD_get (by omega), getD_get (by omega)]
    simp
    omega
theorem pops_sum {g : List (List Int)} {sink : Int} {S : List (List Int)} (hB : stackB g sink S = true) (hE : (endP g sink [] 201 0 S).2.2 = true) : (popsP g sink S).2 = true ∧ (popsP g sink S).1.sum = (lenS S g.length : Int) - lenS (endP g sink [] 201 0 S).1 g.length := by
  obtain ⟨W, _⟩ := stack_of hB
  have hW := (endP_ok 201 0 S W hE).1
  have h1 := W.len
  have h2 := hW.len
  unfold popsP
  rw [popped_yes hB, hE]
  simp only [if_true]
  rw [h1]
  exact ⟨trivial, diff_sum _ _ _ (by omega) (by omega)⟩

theorem k_spec_StepsByWalks {S S' S2 : Nat → Prop} {h : Heap} {g s o : Sl} {xss ls : List (List Int)} {ord : List Int} (G : RdR S h g xss) (H : RdR S' h s ls) (O : RdI S2 h o ord) (sink : Int) (K : Value → Heap → Prop) (HK : ∀ h', Fr No h h' → K (.tuple #[VI (walkSP xss sink ls ord).1, VB (walkSP xss sink ls ord).2]) h') : callM Try.prog 21 #[.agg #[g.v], VI sink, .agg #[s.v], o.v] h K := by
  refine v21 g sink s o h K fun b1 b2 h2 hb1 hb2 f2 hL2 => ?_
  have f2 := f2.in_nil
  have no : ∀ h', Fr No h h' → walkSP xss sink ls ord = (0, false) → K (.tuple #[VI 0, VB false]) h' := fun h' f e => by
    have := HK h' f
    rw [e] at this; exact this
  refine k_skGood (G.no f2) (H.no f2) sink _ fun h3 f3 => ⟨_, rfl, hL2.of_no f3, fun e => ?_, fun e => ?_⟩
  · refine no _ (f2.no_trans f3) ?_
    unfold walkSP popsP
    rw [popped_no (not_t e)]
    simp
  have hB := not_f e
  obtain ⟨W, _⟩ := stack_of hB
  have hgl := graph_len W.graph
  have f03 := f2.no_trans f3
  rw [G.len]
  refine k_grNames (O.no f03) _ (by omega) (by omega) _ ⟨_, rfl, hL2.of_no f3, fun e2 => ?_, fun e2 => ?_⟩
  · refine no _ f03 ?_
    unfold walkSP
    rw [not_t e2]; rfl
  have hN := not_f e2
  refine k_skEnd (G.no f03) (H.no f03) (ch := nilSl) (cs := []) (S2 := No) (RdV.nil No h3 1) W (by simp) sink _ fun x n h5 hx f5 => ⟨x, n, _, rfl, (hL2.of_no f3).of_no f5, fun e3 b3 h7 hb3 f7 hL7 => ?_, fun e3 b3 h7 hb3 f7 hL7 => ?_⟩
  · refine no _ ((f03.no_trans f5).no_trans f7.in_nil) ?_
    unfold walkSP popsP
    rw [popped_yes hB, not_t e3]
    simp
  have f7 := f7.in_nil
  have f07 := (f03.no_trans f5).no_trans f7
  have hE := not_f e3
  refine k_skWalks (G.no f07) (H.no f07) (O.no f07) hB hN hE _ fun t h8 o8 f8 => ⟨t, _, _, rfl, hL7.of_no f8, fun e4 => by simp at e4, fun _ => ?_⟩
  obtain ⟨p1, p2⟩ := pops_sum hB hE
  have hw : walkSP xss sink ls ord = ((lenS ls xss.length : Int) - lenS (endP xss sink [] 201 0 ls).1 xss.length + xss.length - 1, true) := by
    unfold walkSP
    rw [hN, p1, p2]; rfl
  have := HK h8 (f07.no_trans f8)
  rw [hw] at this
  exact this

theorem k_StepsByWalks {S S' S2 : Nat → Prop} {h : Heap} {g s o : Sl} {xss ls : List (List Int)} {ord : List Int} (G : RdR S h g xss) (H : RdR S' h s ls) (O : RdI S2 h o ord) (sink : Int) (K : Value → Heap → Prop) (HK : ∀ h', Fr No h h' → K (.tuple #[VI (walkSP xss sink ls ord).1, VB (walkSP xss sink ls ord).2]) h') : callM Try.prog 22 #[.agg #[g.v], VI sink, .agg #[s.v], o.v] h K := by
  refine v22 g sink s o h K fun b1 b2 h2 hb1 hb2 f2 hL2 => ?_
  have f2 := f2.in_nil
  have no : ∀ h', Fr No h h' → walkSP xss sink ls ord = (0, false) → K (.tuple #[VI 0, VB false]) h' := fun h' f e => by
    have := HK h' f
    rw [e] at this; exact this
  refine k_isGraph (G.no f2) _ fun h3 f3 => ⟨_, rfl, hL2.of_no f3, fun e => ?_, fun e => ?_⟩
  · refine no _ (f2.no_trans f3) ?_
    unfold walkSP popsP
    rw [popped_no (stackB_graph (not_t e))]
    simp
  have hgl := graph_len (not_f e)
  have f03 := f2.no_trans f3
  refine k_areNames (G.no f03) (O.no f03) (by omega) _ fun h4 f4 => ⟨_, rfl, (hL2.of_no f3).of_no f4, fun e2 => ?_, fun e2 => ?_⟩
  · refine no _ (f03.no_trans f4) ?_
    unfold walkSP
    rw [not_t e2]; rfl
  have hN := not_f e2
  have f04 := f03.no_trans f4
  refine k_PopsOf (G.no f04) (H.no f04) sink _ fun t h5 o5 f5 => ⟨t, _, rfl, ((hL2.of_no f3).of_no f4).of_no f5, fun e3 => ?_, fun e3 => ?_⟩
  · refine no _ (f04.no_trans f5) ?_
    unfold walkSP
    rw [not_t e3]; simp
  have hP := not_f e3
  have hB : stackB xss sink ls = true := by
    cases hb : stackB xss sink ls with
    | true => rfl
    | false => unfold popsP at hP; rw [popped_no hb] at hP; simp at hP
  have hE : (endP xss sink [] 201 0 ls).2.2 = true := by
    cases hb : (endP xss sink [] 201 0 ls).2.2 with
    | true => rfl
    | false => unfold popsP at hP; rw [popped_yes hB, hb] at hP; simp at hP
  obtain ⟨W, _⟩ := stack_of hB
  have hW := (endP_ok 201 0 ls W hE)
  have h1 := W.len
  have h2 := hW.1.len
  have hpe : (popsP xss sink ls).1 = diffL ls (endP xss sink [] 201 0 ls).1 ls.length := by unfold popsP; rw [popped_yes hB, hE]; rfl
  have hd : ∀ n, n ≤ ls.length → ∀ x, x ∈ diffL ls (endP xss sink [] 201 0 ls).1 n → 0 ≤ x ∧ x ≤ 20 := by
    intro n
    induction n with
    | zero => intro _ x hx; simp [diffL] at hx
    | succ n ih =>
      intro hn x hx
      rw [diffL, List.mem_append, List.mem_singleton] at hx
      rcases hx with hx | hx
      · exact ih (by omega) x hx
      · have a := hW.2.2 n (by omega) (by omega)
        have b := W.short n (by omega)
        rw [getD_get (by omega), getD_get (by omega)] at hx
        omega
  have hl := popsP_len xss sink ls
  refine k_sum o5.rdF (by rw [hpe]; exact hd _ (Nat.le_refl _)) (by omega) _ ⟨_, rfl, (((hL2.of_no f3).of_no f4).of_no f5), ?_⟩
  obtain ⟨p1, p2⟩ := pops_sum hB hE
  have htot := W.tot
  have hle : lenS ls xss.length ≤ 104 := by rw [lenS_le (by omega)]; omega
  have hle2 : lenS (endP xss sink [] 201 0 ls).1 xss.length ≤ 104 := by have := hW.1.tot; rw [lenS_le (by omega)]; omega
  have hw : walkSP xss sink ls ord = ((popsP xss sink ls).1.sum + xss.length - 1, true) := by
    unfold walkSP
    rw [hN, hP]; rfl
  have := HK h5 (f04.no_trans f5)
  rw [hw] at this
  rw [G.len, w64_eq ((popsP xss sink ls).1.sum + xss.length) (by omega) (by omega), w64_eq _ (by omega) (by omega)]
  exact this

set_option maxHeartbeats 4000000 in
theorem k_lawStepsByWalks {h : Heap} {S0 : Nat → Prop} {s0 : Sl} {x0 : List (List Int)} (G0 : RdR S0 h s0 x0) {S2 : Nat → Prop} {s2 : Sl} {x2 : List (List Int)} (G2 : RdR S2 h s2 x2) {S3 : Nat → Prop} {s3 : Sl} {x3 : List Int} (G3 : RdI S3 h s3 x3) (n1 : Int) : Ret Try.prog 4 #[.agg #[s0.v], VI n1, .agg #[s2.v], s3.v] h (VB true) := by
  intro K HK
  replace G0 := RdR.toIv G0
  replace G2 := RdR.toIv G2
  replace G3 := RdI.toIv G3
  have hlen_G3 := RdI.len G3
  have fz : Fr No h h := Fr.refl _ _
  refine v4 s0 n1 s2 s3 h K ?_
  have hL : Vars h [] := .nil
  refine ⟨fun e => ?_, fun e => ?_⟩
  · intro b_1 b_2 h' _ _ ff _; exact HK _ (fz.no_trans ff.in_nil)
  (try simp only [decide_eq_false_iff_not] at e)
  intro b_1 b_2 h_2 hb_b_1 hb_b_2 f1 hL
  have lt_b_1 : b_1 < h_2.size := (hL.tail).head.lt
  have lt_b_2 : b_2 < h_2.size := (hL).head.lt
  replace f1 := f1.in_nil
  have z_f1 := f1.size
  replace G0 := RdR.no G0 f1
  replace G2 := RdR.no G2 f1
  replace G3 := RdI.no G3 f1
  replace fz := fz.no_trans f1
  refine g_szGraph G0 _ (by omega) (by omega) _ fun h_3 r2 f2 hr2 => ⟨r2, rfl, hL.of_no f2, ?_⟩
  replace hL := hL.of_no f2
  have z_f2 := f2.size
  replace G0 := RdR.no G0 f2
  replace G2 := RdR.no G2 f2
  replace G3 := RdI.no G3 f2
  replace fz := fz.no_trans f2
  refine ⟨fun e => ?_, fun e => ?_⟩
  · exact HK _ fz
  (try simp only [decide_eq_false_iff_not] at e)
  refine g_szStacks G2 _ (by omega) (by omega) _ fun h_4 r3 f3 hr3 => ⟨r3, rfl, hL.of_no f3, ?_⟩
  replace hL := hL.of_no f3
  have z_f3 := f3.size
  replace G0 := RdR.no G0 f3
  replace G2 := RdR.no G2 f3
  replace G3 := RdI.no G3 f3
  replace fz := fz.no_trans f3
  refine ⟨fun e => ?_, fun e => ?_⟩
  · exact HK _ fz
  (try simp only [decide_eq_false_iff_not] at e)
  refine g_toGraph G0 (by omega) _ fun u4_0 h_5 O4_0 f4 => ⟨u4_0, rfl, hL.of_no f4, ?_⟩
  replace hL := hL.of_no f4
  have z_f4 := f4.size
  replace G0 := RdR.no G0 f4
  replace G2 := RdR.no G2 f4
  replace G3 := RdI.no G3 f4
  replace fz := fz.no_trans f4
  refine g_toStacks G2 (by omega) _ fun u5_0 h_6 O5_0 f5 => ⟨u5_0, rfl, hL.of_no f5, ?_⟩
  replace hL := hL.of_no f5
  have z_f5 := f5.size
  replace G0 := RdR.no G0 f5
  replace G2 := RdR.no G2 f5
  replace G3 := RdI.no G3 f5
  replace O4_0 := OwR.no O4_0 f5
  replace fz := fz.no_trans f5
  refine g_toIntS G3 (by omega) _ fun u6_0 h_7 O6_0 f6 => ⟨u6_0, rfl, hL.of_no f6, ?_⟩
  replace hL := hL.of_no f6
  have z_f6 := f6.size
  replace G0 := RdR.no G0 f6
  replace G2 := RdR.no G2 f6
  replace G3 := RdI.no G3 f6
  replace O4_0 := OwR.no O4_0 f6
  replace O5_0 := OwR.no O5_0 f6
  replace fz := fz.no_trans f6
  refine k_spec_StepsByWalks (OwR.rdI O4_0) (OwR.rdI O5_0) (Ow.rdI O6_0) _ _ fun  h_8  f7 => ⟨_, _, rfl, hL.of_no f7, ?_⟩
  replace hL := hL.of_no f7
  have z_f7 := f7.size
  replace G0 := RdR.no G0 f7
  replace G2 := RdR.no G2 f7
  replace G3 := RdI.no G3 f7
  replace O4_0 := OwR.no O4_0 f7
  replace O5_0 := OwR.no O5_0 f7
  replace O6_0 := Ow.no O6_0 f7
  replace fz := fz.no_trans f7
  refine g_toGraph G0 (by omega) _ fun u8_0 h_9 O8_0 f8 => ⟨u8_0, rfl, hL.of_no f8, ?_⟩
  replace hL := hL.of_no f8
  have z_f8 := f8.size
  replace G0 := RdR.no G0 f8
  replace G2 := RdR.no G2 f8
  replace G3 := RdI.no G3 f8
  replace O4_0 := OwR.no O4_0 f8
  replace O5_0 := OwR.no O5_0 f8
  replace O6_0 := Ow.no O6_0 f8
  replace fz := fz.no_trans f8
  intro b_3 h_11 hb_b_3 f9 hL
  have lt_b_3 : b_3 < h_11.size := (hL).head.lt
  replace f9 := f9.in_nil
  have z_f9 := f9.size
  replace G0 := RdR.no G0 f9
  replace G2 := RdR.no G2 f9
  replace G3 := RdI.no G3 f9
  replace O4_0 := OwR.no O4_0 f9
  replace O5_0 := OwR.no O5_0 f9
  replace O6_0 := Ow.no O6_0 f9
  replace O8_0 := OwR.no O8_0 f9
  replace fz := fz.no_trans f9
  refine g_toStacks G2 (by omega) _ fun u10_0 h_12 O10_0 f10 => ⟨u10_0, rfl, hL.of_no f10, ?_⟩
  replace hL := hL.of_no f10
  have z_f10 := f10.size
  replace G0 := RdR.no G0 f10
  replace G2 := RdR.no G2 f10
  replace G3 := RdI.no G3 f10
  replace O4_0 := OwR.no O4_0 f10
  replace O5_0 := OwR.no O5_0 f10
  replace O6_0 := Ow.no O6_0 f10
  replace O8_0 := OwR.no O8_0 f10
  replace fz := fz.no_trans f10
  intro b_4 h_14 hb_b_4 f11 hL
  have lt_b_4 : b_4 < h_14.size := (hL).head.lt
  replace f11 := f11.in_nil
  have z_f11 := f11.size
  replace G0 := RdR.no G0 f11
  replace G2 := RdR.no G2 f11
  replace G3 := RdI.no G3 f11
  replace O4_0 := OwR.no O4_0 f11
  replace O5_0 := OwR.no O5_0 f11
  replace O6_0 := Ow.no O6_0 f11
  replace O8_0 := OwR.no O8_0 f11
  replace O10_0 := OwR.no O10_0 f11
  replace fz := fz.no_trans f11
  refine g_toIntS G3 (by omega) _ fun u12_0 h_15 O12_0 f12 => ⟨u12_0, rfl, hL.of_no f12, ?_⟩
  replace hL := hL.of_no f12
  have z_f12 := f12.size
  replace G0 := RdR.no G0 f12
  replace G2 := RdR.no G2 f12
  replace G3 := RdI.no G3 f12
  replace O4_0 := OwR.no O4_0 f12
  replace O5_0 := OwR.no O5_0 f12
  replace O6_0 := Ow.no O6_0 f12
  replace O8_0 := OwR.no O8_0 f12
  replace O10_0 := OwR.no O10_0 f12
  replace fz := fz.no_trans f12
  refine k_StepsByWalks (OwR.rdI O8_0) (OwR.rdI O10_0) (Ow.rdI O12_0) _ _ fun  h_16  f13 => ⟨_, _, rfl, hL.of_no f13, ?_⟩
  replace hL := hL.of_no f13
  have z_f13 := f13.size
  replace G0 := RdR.no G0 f13
  replace G2 := RdR.no G2 f13
  replace G3 := RdI.no G3 f13
  replace O4_0 := OwR.no O4_0 f13
  replace O5_0 := OwR.no O5_0 f13
  replace O6_0 := Ow.no O6_0 f13
  replace O8_0 := OwR.no O8_0 f13
  replace O10_0 := OwR.no O10_0 f13
  replace O12_0 := Ow.no O12_0 f13
  replace fz := fz.no_trans f13
  refine ⟨fun e => ?_, fun e => ?_⟩
  · first | (simp at e; done) | (simp only [decide_eq_true_eq] at e; omega)
  (try simp only [decide_eq_false_iff_not] at e)
  refine ⟨fun e => ?_, fun e => ?_⟩
  · first | (simp at e; done) | (simp only [decide_eq_true_eq] at e; omega)
  (try simp only [decide_eq_false_iff_not] at e)
  refine g_toGraph G0 (by omega) _ fun u14_0 h_17 O14_0 f14 => ⟨u14_0, rfl, hL.of_no f14, ?_⟩
  replace hL := hL.of_no f14
  have z_f14 := f14.size
  replace G0 := RdR.no G0 f14
  replace G2 := RdR.no G2 f14
  replace G3 := RdI.no G3 f14
  replace O4_0 := OwR.no O4_0 f14
  replace O5_0 := OwR.no O5_0 f14
  replace O6_0 := Ow.no O6_0 f14
  replace O8_0 := OwR.no O8_0 f14
  replace O10_0 := OwR.no O10_0 f14
  replace O12_0 := Ow.no O12_0 f14
  replace fz := fz.no_trans f14
  refine g_eqGraph (OwR.rdI O8_0) (OwR.rdI O14_0) _ fun h_18 f15 => ⟨_, rfl, hL.of_no f15, ?_⟩
  replace hL := hL.of_no f15
  have z_f15 := f15.size
  replace G0 := RdR.no G0 f15
  replace G2 := RdR.no G2 f15
  replace G3 := RdI.no G3 f15
  replace O4_0 := OwR.no O4_0 f15
  replace O5_0 := OwR.no O5_0 f15
  replace O6_0 := Ow.no O6_0 f15
  replace O8_0 := OwR.no O8_0 f15
  replace O10_0 := OwR.no O10_0 f15
  replace O12_0 := Ow.no O12_0 f15
  replace O14_0 := OwR.no O14_0 f15
  replace fz := fz.no_trans f15
  refine ⟨fun e => ?_, fun e => ?_⟩
  · first | (simp at e; done) | (simp only [decide_eq_true_eq] at e; omega)
  (try simp only [decide_eq_false_iff_not] at e)
  refine g_toStacks G2 (by omega) _ fun u16_0 h_19 O16_0 f16 => ⟨u16_0, rfl, hL.of_no f16, ?_⟩
  replace hL := hL.of_no f16
  have z_f16 := f16.size
  replace G0 := RdR.no G0 f16
  replace G2 := RdR.no G2 f16
  replace G3 := RdI.no G3 f16
  replace O4_0 := OwR.no O4_0 f16
  replace O5_0 := OwR.no O5_0 f16
  replace O6_0 := Ow.no O6_0 f16
  replace O8_0 := OwR.no O8_0 f16
  replace O10_0 := OwR.no O10_0 f16
  replace O12_0 := Ow.no O12_0 f16
  replace O14_0 := OwR.no O14_0 f16
  replace fz := fz.no_trans f16
  refine g_eqStacks (OwR.rdI O10_0) (OwR.rdI O16_0) _ fun h_20 f17 => ⟨_, rfl, hL.of_no f17, ?_⟩
  replace hL := hL.of_no f17
  have z_f17 := f17.size
  replace G0 := RdR.no G0 f17
  replace G2 := RdR.no G2 f17
  replace G3 := RdI.no G3 f17
  replace O4_0 := OwR.no O4_0 f17
  replace O5_0 := OwR.no O5_0 f17
  replace O6_0 := Ow.no O6_0 f17
  replace O8_0 := OwR.no O8_0 f17
  replace O10_0 := OwR.no O10_0 f17
  replace O12_0 := Ow.no O12_0 f17
  replace O14_0 := OwR.no O14_0 f17
  replace O16_0 := OwR.no O16_0 f17
  replace fz := fz.no_trans f17
  refine ⟨fun e => ?_, fun e => ?_⟩
  · first | (simp at e; done) | (simp only [decide_eq_true_eq] at e; omega)
  (try simp only [decide_eq_false_iff_not] at e)
  refine g_toIntS G3 (by omega) _ fun u18_0 h_21 O18_0 f18 => ⟨u18_0, rfl, hL.of_no f18, ?_⟩
  replace hL := hL.of_no f18
  have z_f18 := f18.size
  replace G0 := RdR.no G0 f18
  replace G2 := RdR.no G2 f18
  replace G3 := RdI.no G3 f18
  replace O4_0 := OwR.no O4_0 f18
  replace O5_0 := OwR.no O5_0 f18
  replace O6_0 := Ow.no O6_0 f18
  replace O8_0 := OwR.no O8_0 f18
  replace O10_0 := OwR.no O10_0 f18
  replace O12_0 := Ow.no O12_0 f18
  replace O14_0 := OwR.no O14_0 f18
  replace O16_0 := OwR.no O16_0 f18
  replace fz := fz.no_trans f18
  refine g_eqIntS (Ow.rdI O12_0) (Ow.rdI O18_0) _ fun h_22 f19 => ⟨_, rfl, hL.of_no f19, ?_⟩
  replace hL := hL.of_no f19
  have z_f19 := f19.size
  replace G0 := RdR.no G0 f19
  replace G2 := RdR.no G2 f19
  replace G3 := RdI.no G3 f19
  replace O4_0 := OwR.no O4_0 f19
  replace O5_0 := OwR.no O5_0 f19
  replace O6_0 := Ow.no O6_0 f19
  replace O8_0 := OwR.no O8_0 f19
  replace O10_0 := OwR.no O10_0 f19
  replace O12_0 := Ow.no O12_0 f19
  replace O14_0 := OwR.no O14_0 f19
  replace O16_0 := OwR.no O16_0 f19
  replace O18_0 := Ow.no O18_0 f19
  replace fz := fz.no_trans f19
  refine ⟨fun e => ?_, fun e => ?_⟩
  · first | (simp at e; done) | (simp only [decide_eq_true_eq] at e; omega)
  (try simp only [decide_eq_false_iff_not] at e)
  exact HK _ fz
end Go.Proofs.Ytkjkfjkapbpgiaa
