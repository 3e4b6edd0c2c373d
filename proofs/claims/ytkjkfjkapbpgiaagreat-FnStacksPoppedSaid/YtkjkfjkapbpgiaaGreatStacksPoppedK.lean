import Derived.Test.YtkjkfjkapbpgiaaGreatStacksPoppedK0
set_option linter.unusedVariables false
set_option linter.unusedSimpArgs false
namespace Go.Proofs.YtkjkfjkapbpgiaaGreat
open Go Go.Mx
def SrtTo (ys : List Int) (i : Nat) : Prop := ∀ a b, a < b → b < i → ys.getD a 0 ≤ ys.getD b 0
def namesB (xs : List Int) (n : Int) : Bool := decide ((xs.length : Int) = n) && (xs.all (inR 0 (n - 1)) && decide xs.Nodup)
theorem getD_set' (ys : List Int) (j : Nat) (v : Int) (hj : j < ys.length) (b : Nat) : (ys.set j v).getD b 0 = if b = j then v else ys.getD b 0 := by
  rw [List.getD_eq_getElem?_getD, List.getElem?_set, List.getD_eq_getElem?_getD]
  by_cases h : j = b
  · subst h; rw [if_pos rfl, if_pos rfl]; simp [hj]
  · rw [if_neg h, if_neg (fun e => h e.symm)]
structure SrtAt (ys : List Int) (j i : Nat) : Prop where
  rest : ∀ a b, a < b → b ≤ i → a ≠ j → b ≠ j → ys.getD a 0 ≤ ys.getD b 0
  low : ∀ b, j < b → b ≤ i → ys.getD j 0 ≤ ys.getD b 0
theorem SrtTo.start {ys : List Int} {i : Nat} (h : SrtTo ys i) : SrtAt ys i i := ⟨fun a b h1 h2 h3 h4 => h a b h1 (by omega), fun b h1 h2 => by omega⟩
theorem SrtAt.stop {ys : List Int} {j i : Nat} (h : SrtAt ys j i) (hj : j = 0 ∨ ys.getD (j - 1) 0 ≤ ys.getD j 0) : SrtTo ys (i + 1) := by
  intro a b h1 h2
  by_cases ha : a = j
  · subst ha; exact h.low b h1 (by omega)
  by_cases hb : b = j
  · subst hb
    rcases hj with hj | hj
    · omega
    · by_cases e : a = b - 1
      · subst e; exact hj
      · have := h.rest a (b - 1) (by omega) (by omega) ha (by omega); omega
  · exact h.rest a b h1 (by omega) ha hb
theorem SrtAt.swap {ys : List Int} {j i : Nat} (h : SrtAt ys j i) (hj : 0 < j) (hl : j < ys.length) (hi : j ≤ i) (e : ys.getD j 0 < ys.getD (j - 1) 0) : SrtAt ((ys.set j (ys.getD (j - 1) 0)).set (j - 1) (ys.getD j 0)) (j - 1) i := by
  have g : ∀ b, ((ys.set j (ys.getD (j - 1) 0)).set (j - 1) (ys.getD j 0)).getD b 0 = if b = j - 1 then ys.getD j 0 else if b = j then ys.getD (j - 1) 0 else ys.getD b 0 := fun b => by
    rw [getD_set' _ _ _ (by simp; omega), getD_set' _ _ _ hl]
  refine ⟨fun a b h1 h2 h3 h4 => ?_, fun b h1 h2 => ?_⟩
  · rw [g, g, if_neg h3, if_neg h4]
    by_cases ha : a = j
    · subst ha
      rw [if_pos rfl, if_neg (by omega)]
      exact h.rest (a - 1) b (by omega) h2 (by omega) (by omega)
    · by_cases hb : b = j
      · subst hb
        rw [if_neg ha, if_pos rfl]
        exact h.rest a (b - 1) (by omega) (by omega) ha (by omega)
      · rw [if_neg ha, if_neg hb]; exact h.rest a b h1 h2 ha hb
  · rw [g, g, if_pos rfl, if_neg (by omega)]
    by_cases hb : b = j
    · subst hb; rw [if_pos rfl]; omega
    · rw [if_neg hb]; exact h.low b (by omega) h2
theorem k_LessI (x y : Int) (h : Heap) (K : Value → Heap → Prop) (HK : K (VB (decide (x < y))) h) : callM Tryz.prog 164 #[VI x, VI y] h K := by
  refine v164 x y h K (v174 x h _ ⟨_, rfl, .nil, fun e => ?_, fun _ => HK⟩)
  simp at e
theorem k_insertionSort {F : Nat → Prop} {h : Heap} {s : Sl} {xs : List Int} (H : OwI h F s xs) (hn : xs.length ≤ 12) (K : Value → Heap → Prop) (HK : ∀ h' ys, ys.Perm xs → SrtTo ys xs.length → OwI h' F s ys → Fr F h h' → K (.tuple #[]) h') : callM Tryz.prog 158 #[s.v, VI 0, VI (s.n : Int)] h K := by
  have hl : s.n = xs.length := RdI.len H.rdF
  refine v158 s 0 s.n h K ?_
  have hw : w64 (0 + 1) = 1 := w64_eq _ (by omega) (by omega)
  refine ⟨fun n i h' => ∃ ys, 1 ≤ i ∧ (i ≤ xs.length ∨ xs.length = 0) ∧ (n : Int) = 13 - i ∧ ys.Perm xs ∧ SrtTo ys i.toNat ∧ OwI h' F s ys ∧ Fr F h h', ⟨12, by rw [hw]; exact ⟨xs, by omega, by omega, by omega, .refl _, fun a b _ hb => by simp at hb; omega, H, Fr.refl _ _⟩⟩, ?_⟩
  rintro n i h1 ⟨ys, i0, i1, i2, p, so, o, f⟩ hL
  have yl := p.length_eq
  refine ⟨fun e => ?_, fun e => ?_⟩
  · simp only [decide_eq_true_eq] at e
    have hi : i < (xs.length : Int) := by omega
    refine ⟨fun m j h' => ∃ zs, 0 ≤ j ∧ j ≤ i ∧ (m : Int) = j ∧ zs.Perm xs ∧ SrtAt zs j.toNat i.toNat ∧ OwI h' F s zs ∧ Fr F h h', ⟨i.toNat, ys, by omega, by omega, by omega, p, so.start, o, f⟩, ?_⟩
    rintro m j h2 ⟨zs, j0, j1, j2, q, sa, o2, f2⟩ hL2
    have zl := q.length_eq
    have done : SrtTo zs (i.toNat + 1) → ∃ m, m < n ∧ (fun (n : Nat) (i : Int) (h' : Heap) => ∃ ys, 1 ≤ i ∧ (i ≤ xs.length ∨ xs.length = 0) ∧ (n : Int) = 13 - i ∧ ys.Perm xs ∧ SrtTo ys i.toNat ∧ OwI h' F s ys ∧ Fr F h h') m (w64 (i + 1)) h2 := fun hs => by
      rw [w64_eq _ (by omega) (by omega)]
      exact ⟨n - 1, by omega, zs, by omega, by omega, by omega, q, by rw [toNat_succ (by omega)]; exact hs, o2, f2⟩
    refine ⟨fun e2 => ?_, fun e2 => ?_⟩
    · simp only [decide_eq_true_eq] at e2
      rw [w64_eq _ (by omega) (by omega)]
      have R : RdI F h2 s zs := o2.rdF
      have hj : j < (zs.length : Int) := by omega
      refine ⟨R.inb j0 hj, _, R.get j0 hj, R.inb (by omega) (by omega), _, R.get (by omega) (by omega), k_LessI _ _ _ _ ⟨_, rfl, hL2, fun e3 => ?_, fun e3 => done (sa.stop (.inr ?_))⟩⟩
      · simp only [decide_eq_true_eq] at e3
        obtain ⟨w1, w2, w3⟩ := o2.store1 j0 (by omega) (VI (zs[(j - 1).toNat]'(by omega)))
        rw [← List.map_set] at w2
        obtain ⟨x1, x2, x3⟩ := Ow.store1 w2 (i := j - 1) (by omega) (by omega) (VI (zs[j.toNat]'(by omega)))
        rw [← List.map_set] at x2
        refine ⟨R.inb (by omega) (by omega), _, R.get (by omega) (by omega), R.inb j0 hj, _, R.get j0 hj, R.inb j0 hj, w1, .nil, ?_⟩
        rintro h4 rfl hL4
        refine ⟨R.inb (by omega) (by omega), x1, .nil, ?_⟩
        rintro h5 rfl hL5
        have g1 := getD_getI (xs := zs) (i := j.toNat) (by omega)
        have g2 := getD_getI (xs := zs) (i := (j - 1).toNat) (by omega)
        have ej : (j - 1).toNat = j.toNat - 1 := by omega
        refine ⟨m - 1, by omega, _, by omega, by omega, by omega, (List.set_set_perm (i := j.toNat) (j := (j - 1).toNat) (by omega) (by omega)).trans q, ?_, x2, f2.trans ((w3.trans x3).mono fun k _ hk => (o2.foot hk).1)⟩
        have := sa.swap (by omega) (by omega) (by omega) (by rw [← ej, g1, g2]; exact e3)
        rw [← ej, g1, g2] at this
        exact this
      · simp only [decide_eq_false_iff_not] at e3
        have g1 := getD_getI (xs := zs) (i := j.toNat) (by omega)
        have g2 := getD_getI (xs := zs) (i := (j - 1).toNat) (by omega)
        have ej : (j - 1).toNat = j.toNat - 1 := by omega
        rw [← ej, g1, g2]
        omega
    · simp only [decide_eq_false_iff_not] at e2
      exact done (sa.stop (.inl (by omega)))
  · simp only [decide_eq_false_iff_not] at e
    exact HK h1 ys p (fun a b h1 h2 => so a b h1 (by omega)) o f
theorem k_pdqsort {F : Nat → Prop} {h : Heap} {s : Sl} {xs : List Int} (H : OwI h F s xs) (hn : xs.length ≤ 12) (l : Int) (K : Value → Heap → Prop) (HK : ∀ h' ys, ys.Perm xs → SrtTo ys xs.length → OwI h' F s ys → Fr F h h' → K (.tuple #[]) h') : callM Tryz.prog 156 #[s.v, VI 0, VI (s.n : Int), VI l] h K := by
  have hl : s.n = xs.length := RdI.len H.rdF
  refine v156 s 0 s.n l h K ⟨fun n a b c d e h' => n = 0 ∧ a = 0 ∧ b = s.n ∧ h' = h, ⟨0, rfl, rfl, rfl, rfl⟩, ?_⟩
  rintro n a b c d e h' ⟨rfl, rfl, rfl, rfl⟩ hL
  refine ⟨fun _ => k_insertionSort H hn _ fun h' ys p q o f => ⟨.nil, HK h' ys p q o f⟩, fun e => ?_⟩
  rw [w64_eq _ (by omega) (by omega)] at e
  simp only [decide_eq_false_iff_not] at e
  omega
theorem pop_sidx {P : Program} {t : TypeId} (ht : P.underlying t = some .string) {K : Value → Prop} (k : IntKind) (s : ByteArray) (i : Int) (h0 : 0 ≤ i) (h1 : i.toNat < s.size) (H : K (.int .u8 (s[i.toNat]'h1).toNat)) : pop P (Instr.index t (.string s) (.int k i)) K :=
  .mk' (fun w => by
    have hu := run_underlying' ht w
    have e : s[i.toNat]? = some (s[i.toNat]'h1) := by simp [getElem?_pos s i.toNat h1]
    unfold Instr.index
    simp [asIntOf, go_sem, hu, h0, e]) H
set_option maxRecDepth 100000 in
theorem k_Len64 (x : Int) (h0 : 0 ≤ x) (h1 : x ≤ 12) (h : Heap) (K : Value → Heap → Prop) (HK : ∀ n, K (VI n) h) : callM Tryz.prog 168 #[Value.int .u64 x] h K := by
  refine v168 x h K ⟨fun a b h' => x = a ∧ h = h', ⟨fun e => by simp at e; omega, fun _ => ⟨rfl, rfl⟩⟩, ?_⟩
  rintro a b h1' ⟨rfl, rfl⟩ hL
  refine ⟨fun a b h' => x = a ∧ h = h', ⟨fun e => by simp at e; omega, fun _ => ⟨rfl, rfl⟩⟩, ?_⟩
  rintro a b h1' ⟨rfl, rfl⟩ hL
  refine ⟨fun a b h' => x = a ∧ h = h', ⟨fun e => by simp at e; omega, fun _ => ⟨rfl, rfl⟩⟩, ?_⟩
  rintro a b h1' ⟨rfl, rfl⟩ hL
  refine rop_conv (k := .u64) (k' := .u8) (by kernel_rfl) (by kernel_rfl) _ ⟨_, rfl, ?_⟩
  have hw : IntKind.u8.wrap x = x := by simp [IntKind.wrap, IntKind.bits, IntKind.signed]; omega
  rw [hw]
  refine pop_sidx (by kernel_rfl) _ _ x h0 (by show x.toNat < 256; omega) ⟨_, rfl, rop_conv (k := .u8) (k' := .i64) (by kernel_rfl) (by kernel_rfl) _ ⟨_, rfl, HK _⟩⟩
theorem k_SortI {F : Nat → Prop} {h : Heap} {s : Sl} {xs : List Int} (H : OwI h F s xs) (hn : xs.length ≤ 12) (K : Value → Heap → Prop) (HK : ∀ h' ys, ys.Perm xs → SrtTo ys xs.length → OwI h' F s ys → Fr F h h' → K (.tuple #[]) h') : callM Tryz.prog 146 #[s.v] h K := by
  have hl : s.n = xs.length := RdI.len H.rdF
  refine v146 s h K (rop_conv (k := .i64) (k' := .u64) (by kernel_rfl) (by kernel_rfl) _ ⟨_, rfl, ?_⟩)
  have hw : IntKind.u64.wrap (s.n : Int) = s.n := by simp [IntKind.wrap, IntKind.bits, IntKind.signed]; omega
  rw [hw]
  refine v157 _ h _ (k_Len64 _ (by omega) (by omega) _ _ fun n => ⟨n, rfl, .nil, n, rfl, .nil, ?_⟩)
  exact k_pdqsort H hn n _ fun h' ys p q o f => ⟨.nil, HK h' ys p q o f⟩
theorem k_SortedI {S : Nat → Prop} {h : Heap} {s : Sl} {xs : List Int} (H : RdI S h s xs) (hn : xs.length ≤ 12) (K : Value → Heap → Prop) (HK : ∀ t h' ys, ys.Perm xs → SrtTo ys xs.length → OwI h' (Iv h.size h'.size) t ys → Fr No h h' → K t.v h') {b : Nat} (V : IsVar h b [s.v]) : callM Tryz.prog 118 #[.func (.func 147) #[] #[VP b 0]] h K := by
  refine v118 _ h K (v145 _ h _ (k_AppendSeq V H (by omega) _ fun t h1 o1 f1 => ⟨t, rfl, .nil, t, rfl, .nil, ?_⟩))
  refine k_SortI o1 hn _ fun h2 ys p q o2 f2 => ⟨.nil, HK t h2 ys p q ?_ (f1.ivFresh f2 (Nat.le_refl _))⟩
  have := f2.size
  exact Ow.ivs o2 (Nat.le_refl _) this
theorem srt_ge {ys : List Int} (hs : SrtTo ys ys.length) (hnd : ys.Nodup) (h0 : ∀ y, y ∈ ys → 0 ≤ y) : ∀ i, i < ys.length → (i : Int) ≤ ys.getD i 0 := by
  intro i
  induction i with
  | zero => intro hi; exact h0 _ (by rw [getD_getI hi]; exact List.getElem_mem hi)
  | succ i ih =>
    intro hi
    have h1 := ih (by omega)
    have h2 := hs i (i + 1) (by omega) hi
    have h3 : ys.getD i 0 ≠ ys.getD (i + 1) 0 := fun e => by
      rw [getD_getI (by omega), getD_getI hi] at e
      unfold List.Nodup at hnd
      rw [List.pairwise_iff_getElem] at hnd
      exact hnd i (i + 1) (by omega) hi (by omega) e
    omega
theorem srt_le {ys : List Int} {n : Nat} (hn : ys.length = n) (hs : SrtTo ys ys.length) (hnd : ys.Nodup) (h0 : ∀ y, y ∈ ys → y ≤ (n : Int) - 1) : ∀ d i, i + d + 1 = n → ys.getD i 0 ≤ (i : Int) := by
  intro d
  induction d with
  | zero =>
    intro i hi
    have := h0 (ys.getD i 0) (by rw [getD_getI (by omega)]; exact List.getElem_mem _)
    omega
  | succ d ih =>
    intro i hi
    have h1 := ih (i + 1) (by omega)
    have h2 := hs i (i + 1) (by omega) (by omega)
    have h3 : ys.getD i 0 ≠ ys.getD (i + 1) 0 := fun e => by
      rw [getD_getI (by omega), getD_getI (by omega)] at e
      unfold List.Nodup at hnd
      rw [List.pairwise_iff_getElem] at hnd
      exact hnd i (i + 1) (by omega) (by omega) (by omega) e
    omega
theorem names_srt {xs ys : List Int} (p : ys.Perm xs) (hs : SrtTo ys xs.length) : (∀ i, i < ys.length → ys.getD i 0 = (i : Int)) ↔ (xs.all (inR 0 ((xs.length : Int) - 1)) && decide xs.Nodup) = true := by
  have hl := p.length_eq
  rw [← hl] at hs
  rw [Bool.and_eq_true, decide_eq_true_eq, List.all_eq_true]
  constructor
  · intro h
    refine ⟨fun x hx => ?_, p.nodup_iff.1 ?_⟩
    · obtain ⟨i, hi, e⟩ := List.getElem_of_mem (p.mem_iff.2 hx)
      have := h i hi
      rw [getD_getI hi, e] at this
      rw [inR_iff]
      omega
    · unfold List.Nodup
      rw [List.pairwise_iff_getElem]
      intro i j hi hj hij e
      have h1 := h i hi
      have h2 := h j hj
      rw [getD_getI hi] at h1
      rw [getD_getI hj] at h2
      omega
  · rintro ⟨h1, h2⟩ i hi
    have hnd := p.nodup_iff.2 h2
    have hr : ∀ y, y ∈ ys → 0 ≤ y ∧ y ≤ (xs.length : Int) - 1 := fun y hy => by
      have := h1 y (p.mem_iff.1 hy)
      rwa [inR_iff] at this
    have a := srt_ge hs hnd (fun y hy => (hr y hy).1) i hi
    have b := srt_le hl hs hnd (fun y hy => (hr y hy).2) (xs.length - 1 - i) i (by omega)
    omega
theorem k_areNames {S S' : Nat → Prop} {h : Heap} {g s : Sl} {xss : List (List Int)} {xs : List Int} (G : RdR S h g xss) (H : RdI S' h s xs) (hg : xss.length ≤ 12) (K : Value → Heap → Prop) (HK : ∀ h', Fr No h h' → K (VB (namesB xs xss.length)) h') : callM Tryz.prog 69 #[.agg #[g.v], s.v] h K := by
  refine v69 g s h K ⟨fun e b1 h1 hb1 f1 hL1 => ?_, fun e b1 h1 hb1 f1 hL1 => ?_⟩
  · have := HK h1 f1.in_nil
    rw [namesB, decide_eq_false, Bool.false_and] at this
    · exact this
    · have := not_t e; rw [G.len, H.len] at this; simpa using this
  have hl : xs.length = xss.length := by have := not_f e; rw [G.len, H.len] at this; simp at this; omega
  have f1 := f1.in_nil
  refine v119 s h1 _ fun b2 h2 hb2 f2 hL2 => ⟨_, rfl, hL1.of_no f2.in_nil, ?_⟩
  have f2 := f2.in_nil
  refine k_SortedI ((H.no f1).no f2) (by omega) _ (fun t h3 ys p q o3 f3 => ⟨t, rfl, (hL1.of_no f2).of_no f3, ?_⟩) hL2.head
  have f03 := (f1.no_trans f2).no_trans f3
  have pl := p.length_eq
  have R : RdI (Iv h2.size h3.size) h3 t ys := o3.rdF
  have key := names_srt p q
  have hkn : namesB xs xss.length = (xs.all (inR 0 ((xs.length : Int) - 1)) && decide xs.Nodup) := by
    rw [namesB, decide_eq_true (by omega), Bool.true_and, hl]
  refine ⟨fun n i h' => h' = h3 ∧ 0 ≤ i ∧ i + n = (ys.length : Int) ∧ ∀ j : Nat, (j : Int) < i → ys.getD j 0 = (j : Int), ⟨ys.length, rfl, by omega, by omega, fun j hj => by omega⟩, ?_⟩
  rintro n i h4 ⟨rfl, i0, i1, i2⟩ hL
  refine ⟨fun e => ?_, fun e => ?_⟩
  · have hi := R.lt e
    refine ⟨R.inb i0 hi, _, R.get i0 hi, fun e2 => ?_, fun e2 => ?_⟩
    · have := HK h4 f03
      rw [hkn] at this
      cases hb : (xs.all (inR 0 ((xs.length : Int) - 1)) && decide xs.Nodup) with
      | false => rw [hb] at this; exact this
      | true =>
        have := (key.2 hb) i.toNat (by omega)
        rw [getD_getI (by omega)] at this
        have e3 := not_t e2
        simp only [decide_eq_false_iff_not] at e3
        omega
    · have e3 := not_f e2
      simp only [decide_eq_true_eq] at e3
      rw [R.succ i0 hi]
      refine ⟨n - 1, by omega, rfl, by omega, by omega, fun j hj => ?_⟩
      by_cases h5 : (j : Int) < i
      · exact i2 j h5
      · have : j = i.toNat := by omega
        subst this
        rw [getD_getI (by omega)]
        omega
  · have hi := R.ge e
    have := HK h4 f03
    rw [hkn, key.1 fun j hj => i2 j (by omega)] at this
    exact this
theorem k_grNames {S : Nat → Prop} {h : Heap} {s : Sl} {xs : List Int} (H : RdI S h s xs) (n : Int) (h0 : 0 ≤ n) (h1 : n ≤ 1000) (K : Value → Heap → Prop) (HK : K (VB (namesB xs n)) h) : callM Tryz.prog 70 #[s.v, VI n] h K := by
  unfold namesB at HK
  refine v70 s n h K ⟨fun e => ?_, fun e => ?_⟩
  · have := not_t e; rw [H.len] at this
    simp only [decide_eq_false_iff_not] at this
    rw [decide_eq_false this, Bool.false_and] at HK; exact HK
  have e := not_f e
  rw [H.len] at e
  simp only [decide_eq_true_eq] at e
  rw [decide_eq_true e, Bool.true_and] at HK
  rw [w64_eq _ (by omega) (by omega)]
  refine k_spec_l1All H _ _ _ ⟨_, rfl, .nil, fun e2 => ?_, fun e2 => ?_⟩
  · rw [not_t e2, Bool.false_and] at HK; exact HK
  rw [not_f e2, Bool.true_and] at HK
  refine ⟨fun m i h' => h' = h ∧ 0 ≤ i ∧ i + m = (xs.length : Int) ∧ (xs.take i.toNat).Nodup, ⟨xs.length, rfl, by omega, by omega, by simp⟩, ?_⟩
  rintro m i h2 ⟨rfl, i0, i1, i2⟩ hL
  refine ⟨fun e3 => ?_, fun e3 => ?_⟩
  · have hi := H.lt e3
    have hnl := H.len
    have hnc := RdV.cap H
    refine ⟨H.inb i0 hi, _, H.get i0 hi, ?_⟩
    refine pop_cut_h rIs .i64 i0 (by omega) ⟨_, rfl, ?_⟩
    have c := RdI.cut H (l := 0) (m := i.toNat) (by omega) (by omega)
    simp only [List.drop_zero, Nat.sub_zero] at c
    refine k_l1Has c _ _ ⟨_, rfl, hL, fun e4 => ?_, fun e4 => ?_⟩
    · rw [decide_eq_false] at HK
      · exact HK
      · simp only [decide_eq_true_eq] at e4
        intro hnd
        obtain ⟨j, hj, ej⟩ := List.getElem_of_mem e4
        simp only [List.length_take] at hj
        rw [List.getElem_take] at ej
        unfold List.Nodup at hnd
        rw [List.pairwise_iff_getElem] at hnd
        exact hnd j i.toNat (by omega) (by omega) (by omega) ej
    · simp only [decide_eq_false_iff_not] at e4
      rw [H.succ i0 hi]
      refine ⟨m - 1, by omega, rfl, by omega, by omega, ?_⟩
      rw [take_snoc xs i0 hi, List.nodup_append]
      exact ⟨i2, by simp, fun a ha b hb e5 => by simp only [List.mem_cons, List.not_mem_nil, or_false] at hb; rw [hb] at e5; exact e4 (e5 ▸ ha)⟩
  · have hi := H.ge e3
    rw [List.take_of_length_le (by omega)] at i2
    rw [decide_eq_true i2] at HK
    exact HK
theorem Red.snoc {g T : List (List Int)} {c : List Int} (hc : Cyc g T c) : ∀ {n : Nat} {S : List (List Int)}, Red g n S T → Red g (n + 1) S (popP T c)
  | 0, S, h => by rw [show S = T from h]; exact ⟨c, hc, rfl⟩
  | n + 1, S, h => by obtain ⟨d, hd, hr⟩ := h; exact ⟨d, hd, Red.snoc hc hr⟩
theorem Red.along {g E T : List (List Int)} (hE : ∀ c, ¬ Cyc g E c) : ∀ {a n : Nat} {S : List (List Int)}, Red g n S E → Red g a S T → ∃ m, n = a + m ∧ Red g m T E
  | 0, n, S, h, ht => by rw [← show S = T from ht]; exact ⟨n, by omega, h⟩
  | a + 1, n, S, h, ht => by
    obtain ⟨c, hc, hr⟩ := ht
    obtain ⟨m, e, hm⟩ := h.after hE hc
    obtain ⟨k, e2, hk⟩ := Red.along hE hm hr
    exact ⟨k, by omega, hk⟩
theorem names_all {xs : List Int} {n : Nat} (h : namesB xs n = true) : xs.length = n ∧ (∀ x, x ∈ xs → 0 ≤ x ∧ x < (n : Int)) ∧ xs.Nodup ∧ ∀ i : Nat, i < n → (i : Int) ∈ xs := by
  unfold namesB at h
  rw [Bool.and_eq_true, decide_eq_true_eq] at h
  obtain ⟨hl, h2⟩ := h
  have hl : xs.length = n := by omega
  have h3 := h2
  rw [Bool.and_eq_true, decide_eq_true_eq, List.all_eq_true] at h3
  refine ⟨hl, fun x hx => ?_, h3.2, fun i hi => ?_⟩
  · have := h3.1 x hx
    rw [inR_iff] at this
    omega
  · have p := List.mergeSort_perm xs (fun a b => decide (a ≤ b))
    have q := List.pairwise_mergeSort (le := fun a b : Int => decide (a ≤ b)) (fun a b c => by simp; omega) (fun a b => by simp; omega) xs
    have so : SrtTo (xs.mergeSort fun a b => decide (a ≤ b)) xs.length := fun a b h1 h2 => by
      rw [List.pairwise_iff_getElem] at q
      have hb : b < (xs.mergeSort fun a b => decide (a ≤ b)).length := by rw [p.length_eq]; exact h2
      have := q a b (by omega) hb h1
      rw [getD_getI (by omega), getD_getI hb]
      simpa using this
    have hm := (names_srt p so).2 (by rw [hl]; exact h2) i (by rw [p.length_eq]; omega)
    have hi2 : i < (xs.mergeSort fun a b => decide (a ≤ b)).length := by rw [p.length_eq]; omega
    rw [getD_getI hi2] at hm
    rw [← hm]
    exact p.mem_iff.1 (List.getElem_mem hi2)
theorem nodup_le {xs : List Int} {n : Nat} (hn : xs.Nodup) (hr : ∀ x, x ∈ xs → 0 ≤ x ∧ x < (n : Int)) : xs.length ≤ n := by
  refine Nat.not_lt.1 fun h => ?_
  have hg : ∀ i, i ≤ n → xs.getD i 0 ∈ xs := fun i hi => getD_mem (by omega)
  obtain ⟨a, b, hab, hb, e⟩ := php n (fun i => (xs.getD i 0).toNat) fun i hi => by
    have := hr _ (hg i hi)
    (try simp only)
    omega
  have h1 := hr _ (hg a (by omega))
  have h2 := hr _ (hg b hb)
  have := nodup_getD hn (i := a) (j := b) (by omega) (by omega) (by (try simp only at e); omega)
  omega
theorem markL_snoc (x : Int) : ∀ (w : List Int) (I : List Bool), markL I (w ++ [x]) = (markL I w).set x.toNat true
  | [], I => rfl
  | y :: r, I => by rw [List.cons_append, markL, markL, markL_snoc x r]
theorem k_skPlace {S : Nat → Prop} {h : Heap} {s : Sl} {xs : List Int} (H : RdI S h s xs) (v : Int) (K : Value → Heap → Prop) (HN : v ∉ xs → K (VI (-1)) h) (HS : ∀ i : Nat, i < xs.length → xs.getD i 0 = v → K (VI i) h) : callM Tryz.prog 121 #[s.v, VI v] h K := by
  refine v121 s v h K ⟨fun n i h' => h' = h ∧ 0 ≤ i ∧ i + n = (xs.length : Int) ∧ ∀ j : Nat, (j : Int) < i → xs.getD j 0 ≠ v, ⟨xs.length, rfl, by omega, by omega, fun j hj => by omega⟩, ?_⟩
  rintro n i h1 ⟨rfl, i0, i1, i2⟩ hL
  refine ⟨fun e => ?_, fun e => ?_⟩
  · have hi := H.lt e
    refine ⟨H.inb i0 hi, _, H.get i0 hi, fun e2 => ?_, fun e2 => ?_⟩
    · simp only [decide_eq_true_eq] at e2
      have := HS i.toNat (by omega) (by rw [getD_getI (by omega)]; exact e2)
      rwa [show ((i.toNat : Nat) : Int) = i by omega] at this
    · simp only [decide_eq_false_iff_not] at e2
      rw [H.succ i0 hi]
      refine ⟨n - 1, by omega, rfl, by omega, by omega, fun j hj => ?_⟩
      by_cases h5 : (j : Int) < i
      · exact i2 j h5
      · have : j = i.toNat := by omega
        subst this
        rw [getD_getI (by omega)]
        exact e2
  · have hi := H.ge e
    refine HN fun hm => ?_
    obtain ⟨j, hj, e⟩ := List.getElem_of_mem hm
    exact i2 j (by omega) (by rw [getD_getI hj]; exact e)
set_option maxHeartbeats 4000000 in
theorem k_skWalks {S S' S2 : Nat → Prop} {h : Heap} {g s o : Sl} {xss ls : List (List Int)} {ord : List Int} {sink : Int} (G : RdR S h g xss) (H : RdR S' h s ls) (O : RdI S2 h o ord) (hB : stackB xss sink ls = true) (hN : namesB ord xss.length = true) (hE : (endP xss sink [] 201 0 ls).2.2 = true) (K : Value → Heap → Prop)
    (HK : ∀ t h', OwI h' (Iv h.size h'.size) t (topsP sink (endP xss sink [] 201 0 ls).1).1 → Fr No h h' → K (.tuple #[t.v, VI ((lenS ls xss.length : Int) - lenS (endP xss sink [] 201 0 ls).1 xss.length + xss.length - 1), VB true]) h') :
    callM Tryz.prog 71 #[.agg #[g.v], VI sink, .agg #[s.v], o.v] h K := by
  obtain ⟨W, hs0, hs1, hsl⟩ := stack_of hB
  obtain ⟨nl, nr, nd, na⟩ := names_all hN
  obtain ⟨kE, hk, hRE, _, hcE, htE⟩ := endP_red (cs := []) (by simp) 201 0 ls W hE
  have hWE := (endP_ok 201 0 ls W hE).1
  generalize hEE : (endP xss sink [] 201 0 ls).1 = E at *
  have hnE := normal_of hWE hcE
  have hgl := graph_len W.graph
  have hgn : xss.length ≤ 8 := by omega
  have hl := W.len
  have htot := W.tot
  refine v71 g sink s o h K fun b1 b2 h2 hb1 hb2 f2 hL2 => ?_
  have f2 := f2.in_nil
  have l2 : b2 < h2.size := hL2.head.lt
  have l1 : b1 < h2.size := hL2.tail.head.lt
  have z2 := f2.size
  refine k_skPop (H.no f2) (cyc := nilSl) (cs := []) (S' := No) (RdV.nil No h2 1) (by omega) (by simp) _ fun t h3 o3 f3 => ⟨t, rfl, hL2.of_no f3, fun h4 f4 hL4 => ?_⟩
  rw [popP_nil] at o3
  have f4 := f4.inIv (lo := h.size) (hi := h2.size) ⟨⟨hb2, l2⟩, trivial⟩
  have z3 := f3.size
  have z4 := f4.size
  have o4 := o3.iv f4 (.inr (Nat.le_refl _))
  have f04 : Fr No h h4 := (f2.no_trans f3).ivFresh f4 (Nat.le_refl _)
  refine eop_make rBs (fun k => h4.size ≤ k) (fun _ h => h) .i64 .i64 g.n g.n (Nat.le_refl _) (by rw [G.len]; omega) fun inn h5 n5 c5 o5 f5 m5 _ => ⟨inn, rfl, hL4.of_no f5, ?_⟩
  have o5 : Ow h5 (Iv h4.size h5.size) tB 1 inn ((List.replicate xss.length false).map VB) := by
    have e : (List.replicate g.n [VB false]).flatten = (List.replicate xss.length false).map VB := by rw [G.len]; simp [List.flatten_replicate_singleton]
    rw [e] at o5; exact Ow.toIv o5
  have z5 := f5.size
  have gl := G.len
  have hin : inn.n = xss.length := by omega
  obtain ⟨w1, w2, w3⟩ := o5.store1 hs0 (by omega) (VB true)
  have w3 : Fr (Iv h4.size h5.size) h5 _ := w3.mono fun k _ hk => (o5.foot hk).1
  rw [← List.map_set] at w2
  refine ⟨o5.inb hs0 (by omega), w1, (hL4.of_no f5).iv w3 ⟨.inl (by omega), .inl (by omega), trivial⟩, ?_⟩
  rintro h6 rfl hL6
  generalize hh6 : hset h5 (Sl.at inn sink 1) (VB true) = h6 at *
  have z6 := w3.size
  have f06 : Fr No h h6 := (f04.no_trans f5).ivFresh w3 (by omega)
  have iget : ∀ {h' : Heap} {I : List Bool}, Ow h' (Iv h4.size h5.size) tB 1 inn (I.map VB) → I.length = xss.length → ∀ {p : Int}, 0 ≤ p → p < (xss.length : Int) → InB inn p ∧ hcell h' (inn.at p 1) = some (VB (I.getD p.toNat false)) := fun {h' I} hI hIl {p} h0 h1 => by
    refine ⟨hI.inb h0 (by omega), ?_⟩
    rw [bget hI.rdF h0 (by omega), List.getD_eq_getElem?_getD, List.getElem?_eq_getElem (by omega)]
    rfl
  refine ⟨fun n st i x h' => ∃ (T : List (List Int)) (I : List Bool) (c : Nat) (Ex : Nat → Prop), 0 ≤ i ∧ i + n = (ord.length : Int) ∧ RdR Ex h' x T ∧ (∀ k, Ex k → ((h2.size ≤ k ∧ k < h4.size) ∨ h5.size ≤ k) ∧ k < h'.size) ∧ SOK xss T ∧ Red xss c ls T ∧ InOK xss T sink I ∧ I.length = xss.length ∧ Ow h' (Iv h4.size h5.size) tB 1 inn (I.map VB) ∧ I.getD sink.toNat false = true ∧ (∀ j : Nat, (j : Int) < i → I.getD (ord.getD j 0).toNat false = true) ∧ st = (lenS ls xss.length : Int) - lenS T xss.length + cntI I xss.length - 1 ∧ Fr No h h' ∧ h6.size ≤ h'.size,
    ⟨ord.length, ls, (List.replicate xss.length false).set sink.toNat true, 0, Iv h2.size h3.size, by omega, by omega, ((o4.no f5).iv w3 (.inl (by omega))).rdI, fun k hk => ⟨.inl ⟨hk.1, by have := hk.2; omega⟩, by have := hk.2; omega⟩, W, rfl, ?_, by simp, w2, ?_, fun j hj => by omega, ?_, f06, Nat.le_refl _⟩, ?_⟩
  · intro x h0 hx
    rw [set_getB] at hx
    have hf : (List.replicate xss.length false).getD x.toNat false = false := by
      rw [List.getD_eq_getElem?_getD, List.getElem?_replicate]; split <;> rfl
    rw [hf, Bool.false_or, Bool.and_eq_true, decide_eq_true_eq] at hx
    have ex : x = sink := by omega
    subst ex
    refine ⟨0, rfl, fun j hj => ?_⟩
    obtain rfl : j = 0 := by omega
    refine ⟨h0, ?_⟩
    show ((List.replicate xss.length false).set x.toNat true).getD x.toNat false = true
    rw [set_getB, hf, Bool.false_or, decide_eq_true rfl, Bool.true_and]
    exact hx.2
  · rw [set_getB, decide_eq_true rfl, Bool.true_and, decide_eq_true (by simp; omega), Bool.or_true]
  · have hf : ∀ m, cntI (List.replicate xss.length false) m = 0 := by
      intro m
      induction m with
      | zero => rfl
      | succ m ih => rw [cntI, ih, if_neg]; rw [List.getD_eq_getElem?_getD, List.getElem?_replicate]; split <;> simp
    rw [cntI_set (by rw [List.getD_eq_getElem?_getD, List.getElem?_replicate]; split <;> rfl) (by simp; omega), hf, if_pos (by omega)]
    omega
  rintro n st i x h7 ⟨T, I, c, Ex, i0, i1, rx, hEx, WT, hR, hI, hIl, oI, hIs, hIo, hst, f7, z7⟩ hL7
  have lenE := lenS_le (n := xss.length) (S := ls) (by omega)
  refine ⟨fun e => ?_, fun e => ?_⟩
  · have O7 := O.no f7
    have hi := O7.lt e
    have hp := nr _ (List.getElem_mem (show i.toNat < ord.length by omega))
    obtain ⟨ib, ic⟩ := iget oI hIl hp.1 hp.2
    refine ⟨O7.inb i0 hi, _, O7.get i0 hi, ib, _, ic, fun e2 => ?_, fun e2 => ?_⟩
    · rw [O7.succ i0 hi]
      refine ⟨n - 1, by omega, T, I, c, Ex, by omega, by omega, rx, hEx, WT, hR, hI, hIl, oI, hIs, fun j hj => ?_, hst, f7, z7⟩
      by_cases h5 : (j : Int) < i
      · exact hIo j h5
      · obtain rfl : j = i.toNat := by omega
        rw [getD_getI (by omega)]; exact e2
    generalize hst0 : ord[i.toNat]'(by omega) = start at *
    refine eop_lit rIs (fun k => h7.size ≤ k) (fun _ h => h) 1 (by omega) [VI start] rfl rfl fun way h8 n8 c8 o8 f8 m8 _ => ⟨way, rfl, hL7.of_no f8, ?_⟩
    have o8 : OwI h8 (fun k => h7.size ≤ k) way [start] := o8
    have z8 := f8.size
    refine ⟨fun m st2 way p x h' => ∃ (T2 : List (List Int)) (wy : List Int) (c2 : Nat) (Ex : Nat → Prop), RdR Ex h' x T2 ∧ (∀ k, Ex k → ((h2.size ≤ k ∧ k < h4.size) ∨ h5.size ≤ k) ∧ k < h'.size ∧ ¬ way.own k) ∧ SOK xss T2 ∧ Red xss c2 ls T2 ∧ InOK xss T2 sink I ∧ WayOK xss T2 I wy ∧ p = wy.getD (wy.length - 1) 0 ∧ wy.getD 0 0 = start ∧ OwI h' (fun k => h5.size ≤ k) way wy ∧ Ow h' (Iv h4.size h5.size) tB 1 inn (I.map VB) ∧ st2 = (lenS ls xss.length : Int) - lenS T2 xss.length + cntI I xss.length - 1 + (wy.length - 1) ∧ Fr No h h' ∧ h6.size ≤ h'.size ∧ m = lenS T2 xss.length * 20 + (20 - wy.length),
      ⟨_, T, [start], c, Ex, rx.no f8, fun k hk => ⟨(hEx k hk).1, by have := (hEx k hk).2; omega, fun hk2 => by have := (hEx k hk).2; have := (o8.foot hk2).1; omega⟩, WT, hR, hI, ⟨by simp, by simp, fun x hx => by simp only [List.mem_cons, List.not_mem_nil, or_false] at hx; rw [hx]; exact hp, fun i hi => by simp at hi, fun i hi => by simp at hi⟩, rfl, rfl, o8.mono fun k _ hk => by omega, Ow.no oI f8, by simp; omega, f7.no_trans f8, by omega, rfl⟩, ?_⟩
    rintro m st2 way p x h9 ⟨T2, wy, c2, Ex, rx, hEx, WT2, hR2, hI2, hW, hpe, hw0, oW, oI, hst2, f9, z9, hm⟩ hL9
    have wpos : 0 < wy.length := List.length_pos_iff.2 hW.ne
    have hpr := hW.rng _ (getD_mem (xs := wy) (i := wy.length - 1) (by omega))
    rw [← hpe] at hpr
    obtain ⟨ib, ic⟩ := iget oI hIl hpr.1 hpr.2
    have wlen : wy.length ≤ xss.length := by
      have := nodup_le hW.nodup hW.rng
      exact this
    have lenT : lenS T2 xss.length ≤ lenS ls xss.length := by have := (red_len W hR2).1; omega
    have cI := cntI_le I xss.length
    refine ⟨ib, _, ic, fun e3 => ?_, fun e3 => ?_⟩
    · have e3 := not_t e3
      have G9 := G.no f9
      refine k_skNext G9 rx WT2 hpr.1 hpr.2 _ fun h10 f10 => ⟨_, rfl, hL9.of_no f10, fun e4 => ?_, fun e4 => ?_⟩
      · -- a place without a top: it can't be
        exfalso
        simp only [decide_eq_true_eq] at e4
        obtain ⟨m', _, hm'⟩ := Red.along hnE hRE hR2
        have hne : (E.getD p.toNat []).length ≠ 0 := by
          have hl' := hWE.len
          refine ((tops_get htE).2 p.toNat (by omega)).2 fun e5 => ?_
          have : p = sink := by omega
          rw [this, hIs] at e3; cases e3
        obtain ⟨_, _, hm2, _, e5⟩ := sx_some WT2 hpr.1 hpr.2 (hm'.tops hne)
        have := ((graph_mem WT2.graph (List.getElem_mem (show p.toNat < xss.length by omega))).2 _ (List.getElem_mem hm2)).1
        omega
      simp only [decide_eq_false_iff_not] at e4
      generalize hq : sx xss T2 p = q at *
      have hq1 := (sx_lt WT2 hpr.2).2
      rw [hq] at hq1
      have z10 := f10.size
      have oW10 := Ow.no oW f10
      have oI10 := Ow.no oI f10
      have rx10 := rx.no f10
      have hpI : I.getD (wy.getD (wy.length - 1) 0).toNat false = false := by rw [← hpe]; exact e3
      have wn : way.n = wy.length := RdI.len oW.rdF
      refine k_skPlace (S := way.own) oW10.rd q _ (fun hnm => ⟨-1, rfl, hL9.of_no f10, fun e5 => by simp at e5, fun _ => ?_⟩) fun k hk hkq => ⟨_, rfl, hL9.of_no f10, fun _ => ?_, fun e5 => by simp at e5⟩
      · -- the way goes on
        refine eop_lit rIs (fun k => h10.size ≤ k) (fun _ h => h) 1 (by omega) [VI q] rfl rfl fun u h15 n15 c15 o15 f15 m15 _ => ⟨u, rfl, (hL9.of_no f10).of_no f15, ?_⟩
        have z15 := f15.size
        have o15 : RdI u.own h15 u [q] := o15.rd
        have un : u.n = 1 := o15.len
        refine eop_append rIs (Ow.no oW10 f15) (fun k hk => by omega) o15 (plainVI _) (by omega) fun y h16 n16 o16 f16 d16 => ?_
        rw [← List.map_append] at o16
        have z16 := f16.size
        have f16' : Fr (fun k => h5.size ≤ k) h15 h16 := f16.mono fun k _ hk => (oW.foot hk).1
        have wgrow := hW.grow hpI (by rw [← hpe]; exact hq) (by omega) hq1 hnm
        have wl2 := nodup_le wgrow.nodup wgrow.rng
        simp only [List.length_append, List.length_cons, List.length_nil] at wl2
        rw [w64_eq _ (by omega) (by omega)]
        refine ⟨y, rfl, ((hL9.of_no f10).of_no f15).fr f16' (fun p hp hk => by simp only [List.mem_cons, List.not_mem_nil, or_false] at hp; rcases hp with rfl | rfl <;> simp only at hk <;> omega), m - 1, by omega, T2, wy ++ [q], c2, Ex, ?_, fun k hk => ⟨(hEx k hk).1, by have := (hEx k hk).2.1; omega, fun hk2 => ?_⟩, WT2, hR2, hI2, wgrow, ?_, ?_, o16, ?_, by simp; omega, ?_, by omega, by simp; omega⟩
        · exact (rx10.no f15).fr f16 fun k hk hk2 => (hEx k hk).2.2 hk2
        · rcases d16 k hk2 with h1 | h1
          · exact (hEx k hk).2.2 h1
          · have := (hEx k hk).2.1; omega
        · rw [getD_getI (by simp)]; simp
        · rw [← hw0, getD_getI (by simp), getD_getI wpos, List.getElem_append_left]
        · exact (Ow.no oI10 f15).fr f16' fun k hk hk2 => by have := (oI10.foot hk).1.2; omega
        · exact ((f9.no_trans f10).no_trans f15).fresh f16' fun k hk => by omega
      · -- the way closes
        have hcy := hW.cyc hk (by rw [← hpe, hq, hkq])
        have hdn : (wy.drop k).Nodup := hW.nodup.sublist (List.drop_sublist _ _)
        have htop : ∀ x, x ∈ wy.drop k → 0 ≤ x ∧ x < (xss.length : Int) ∧ (T2.getD x.toNat []).length ≠ 0 := fun x hx => ⟨(hW.rng x (List.mem_of_mem_drop hx)).1, (hW.rng x (List.mem_of_mem_drop hx)).2, hcy.top hx⟩
        have hpop := lenS_pop hdn htop
        have hdl : (wy.drop k).length = wy.length - k := by simp
        have hT2l := WT2.len
        have cut1 := RdI.cut (S := way.own) oW10.rd (l := k) (m := wy.length) (by omega) (Nat.le_refl _)
        rw [show wy.length - k = (wy.drop k).length by omega, List.take_length] at cut1
        have wc : way.n ≤ way.c := (oW.cap).1
        refine pop_cut_l rIs .i64 (by omega) (by omega) ⟨_, rfl, ?_⟩
        rw [show ((k : Int)).toNat = k by omega, wn]
        refine k_skPop rx10 cut1 (by have := WT2.tot; omega) (fun x hx => by rw [hT2l]; exact htop x hx) _ fun t h12 o12 f12 => ⟨t, rfl, (hL9.of_no f10).of_no f12, ?_⟩
        rw [w64_eq ((k : Int) + 1) (by omega) (by omega)]
        refine pop_cut_h rIs .i64 (by omega) (by omega) ⟨_, rfl, fun h13 f13 hL13 => ?_⟩
        rw [show ((k : Int) + 1).toNat = k + 1 by omega]
        have f13 := f13.inIv (lo := h.size) (hi := h2.size) ⟨⟨hb2, l2⟩, trivial⟩
        have z12 := f12.size
        have z13 := f13.size
        have oW13 := (Ow.no oW10 f12).fr f13 fun k hk hk2 => by have := (oW.foot hk).1; have := hk2.2; omega
        have cut2 := RdI.cut (S := way.own) oW13.rd (l := 0) (m := k + 1) (by omega) (by omega)
        simp only [List.drop_zero, Nat.sub_zero] at cut2
        refine k_l1Own cut2 (by simp; omega) _ fun v h14 o14 f14 => ⟨v, rfl, hL13.of_no f14, ?_⟩
        have z14 := f14.size
        rw [w64_eq _ (by omega) (by omega)]
        have tl : (wy.take (k + 1)).length = k + 1 := by rw [List.length_take]; omega
        refine ⟨lenS (popP T2 (wy.drop k)) xss.length * 20 + (20 - (k + 1)), by omega, popP T2 (wy.drop k), wy.take (k + 1), c2 + 1, Iv h10.size h12.size, ((o12.iv f13 (by omega)).no f14).rdI, fun k hk => ⟨.inr (by have := hk.1; omega), by have := hk.2; omega, fun hk2 => by have := (o14.foot hk2).1.1; have := hk.2; omega⟩, WT2.pop _, hR2.snoc hcy, hI2.keep fun x hx => ?_, hW.close hk, ?_, ?_, o14.mono fun k _ hk => by have := hk.1; omega, ?_, by omega, ?_, by omega, by omega⟩
        · obtain ⟨j, hj, ej⟩ := List.getElem_of_mem hx
          rw [List.length_drop] at hj
          rw [List.getElem_drop] at ej
          by_cases h5 : k + j + 1 < wy.length
          · have := hW.out (k + j) h5
            rw [getD_getI (by omega), ej] at this
            exact this
          · have : k + j = wy.length - 1 := by omega
            have h6 : wy.getD (wy.length - 1) 0 = x := by rw [← this, getD_getI (by omega), ej]
            rw [← h6]; exact hpI
        · rw [tl, Nat.add_sub_cancel, getD_getI (by omega), List.getElem_take, ← getD_getI (xs := wy) (i := k) (by omega), hkq]
        · rw [← hw0, getD_getI (by omega), getD_getI wpos, List.getElem_take]
        · exact ((Ow.no oI10 f12).iv f13 (by omega)).no f14
        · exact ((((f9.no_trans f10).no_trans f12).ivFresh f13 (Nat.le_refl _)).no_trans f14)
    · -- the way is in
      have e3 := not_f e3
      have hpI : I.getD (wy.getD (wy.length - 1) 0).toNat false = true := by rw [← hpe]; exact e3
      have wn : way.n = wy.length := RdI.len oW.rdF
      refine ⟨fun m i h' => 0 ≤ i ∧ i + m = (wy.length : Int) ∧ Ow h' (Iv h4.size h5.size) tB 1 inn ((markL I (wy.take i.toNat)).map VB) ∧ Fr (Iv h4.size h5.size) h9 h', ⟨wy.length, by omega, by omega, by simpa [markL] using oI, Fr.refl _ _⟩, ?_⟩
      rintro m3 j h17 ⟨j0, j1, oJ, f17⟩ hL17
      have oW17 : OwI h17 (fun k => h5.size ≤ k) way wy := Ow.fr oW f17 fun k hk hk2 => by have := (oW.foot hk).1; have := hk2.2; omega
      have RW : RdI (fun k => h5.size ≤ k) h17 way wy := oW17.rdF
      have ml := markL_length (wy.take j.toNat) I
      refine ⟨fun e4 => ?_, fun e4 => ?_⟩
      · have hj := RW.lt e4
        have hr := hW.rng _ (List.getElem_mem (show j.toNat < wy.length by omega))
        obtain ⟨y1, y2, y3⟩ := oJ.store1 hr.1 (by omega) (VB true)
        have y3' : Fr (Iv h4.size h5.size) h17 _ := y3.mono fun k _ hk => (oJ.foot hk).1
        rw [← List.map_set] at y2
        refine ⟨RW.inb j0 hj, _, RW.get j0 hj, oJ.inb hr.1 (by omega), y1, hL17.iv y3' ⟨.inl (by omega), .inl (by omega), trivial⟩, ?_⟩
        rintro h18 rfl hL18
        rw [RW.succ j0 hj]
        refine ⟨m3 - 1, by omega, by omega, by omega, ?_, f17.trans y3'⟩
        rw [take_snoc wy j0 hj, markL_snoc]
        exact y2
      · have hj := RW.ge e4
        rw [List.take_of_length_le (by omega)] at oJ
        have ml := markL_length wy I
        have hmc := markL_cnt (n := xss.length) wy I hW.nodup hIl hW.rng hW.out hW.ne hpI
        have hm2 := markL_get wy I
        have zz := f17.size
        have hi' : i < (ord.length : Int) := by omega
        rw [w64_succ i0 hi' (by have := loopI O; simp only [maxLen] at *; omega)]
        have keep : ∀ p : Int, 0 ≤ p → p < (xss.length : Int) → I.getD p.toNat false = true → (markL I wy).getD p.toNat false = true := fun p h0 h1 hp => (hm2 p.toNat (fun x hx => (hW.rng x hx).1) (by omega)).2 (.inl hp)
        refine ⟨n - 1, by omega, T2, markL I wy, c2, Ex, by omega, by omega, rx.fr f17 fun k hk hk2 => ?_, fun k hk => ⟨(hEx k hk).1, by have := (hEx k hk).2.1; omega⟩, WT2, hR2, hI2.mark hW hIl hpI, by omega, oJ, keep _ hs0 hs1 hIs, fun a ha => ?_, by omega, f9.ivFresh f17 (by omega), by omega⟩
        · have h1 := hk2.1
          have h2 := hk2.2
          have := (hEx k hk).1
          omega
        · by_cases h5 : (a : Int) < i
          · have hr := nr _ (getD_mem (xs := ord) (i := a) (by omega))
            exact keep _ hr.1 hr.2 (hIo a h5)
          · obtain rfl : a = i.toNat := by omega
            rw [getD_getI (by omega), hst0]
            refine (hm2 start.toNat (fun x hx => (hW.rng x hx).1) (by omega)).2 (.inr ?_)
            rw [show ((start.toNat : Nat) : Int) = start by omega, ← hw0]
            exact getD_mem wpos
  · -- all are in
    have hi := (O.no f7).ge e
    have hall : ∀ i, i < xss.length → I.getD i false = true := fun k hk => by
      obtain ⟨j, hj, ej⟩ := List.getElem_of_mem (na k hk)
      have := hIo j (by omega)
      rw [getD_getI hj, ej] at this
      simpa using this
    have hTl := WT.len
    have hno := hI.done (by
      obtain ⟨_, b⟩ := hR.rest
      obtain ⟨k, ek⟩ := b sink.toNat
      rw [ek, List.length_drop]; omega) hall
    obtain ⟨_, eT⟩ := hRE.same hnE hR hno
    subst eT
    rw [cntI_all hall] at hst
    refine k_skTops (G.no f7) rx WT.len (by omega) sink _ fun u h8 o8 f8 => ⟨u, _, rfl, hL7.of_no f8, ?_⟩
    rw [htE, hst]
    have z8 := f8.size
    have := f7.size
    have := HK u h8 (o8.ivs (by omega) (Nat.le_refl _)) (f7.no_trans f8)
    rwa [show (lenS ls xss.length : Int) - lenS E xss.length + xss.length - 1 = (lenS ls xss.length : Int) - lenS E xss.length + xss.length - 1 from rfl] at this
def walkTP (g : List (List Int)) (sink : Int) (S : List (List Int)) (ord : List Int) : List Int × Bool := if namesB ord g.length then treeP g sink S else ([], false)
def walkSP (g : List (List Int)) (sink : Int) (S : List (List Int)) (ord : List Int) : Int × Bool := if namesB ord g.length && (popsP g sink S).2 then ((popsP g sink S).1.sum + g.length - 1, true) else (0, false)
theorem popped_no {g : List (List Int)} {sink : Int} {S : List (List Int)} (h : stackB g sink S = false) : poppedP g sink S [] = ([], 0, false) := by rw [popped_nil, h]; rfl
theorem popped_yes {g : List (List Int)} {sink : Int} {S : List (List Int)} (h : stackB g sink S = true) : poppedP g sink S [] = endP g sink [] 201 0 S := by rw [popped_nil, h]; rfl
theorem stackB_graph {g : List (List Int)} {sink : Int} {S : List (List Int)} (h : graphB g = false) : stackB g sink S = false := by unfold stackB; rw [h]; rfl
theorem diff_sum (S E : List (List Int)) : ∀ n, n ≤ S.length → n ≤ E.length → (diffL S E n).sum = (lenS S n : Int) - lenS E n
  | 0, _, _ => rfl
  | n + 1, h1, h2 => by
    rw [diffL, List.sum_append, diff_sum S E n (by omega) (by omega), lenS, lenS, getD_get (by omega), getD_get (by omega)]
    simp
    omega
theorem pops_sum {g : List (List Int)} {sink : Int} {S : List (List Int)} (hB : stackB g sink S = true) (hE : (endP g sink [] 201 0 S).2.2 = true) : (popsP g sink S).2 = true ∧ (popsP g sink S).1.sum = (lenS S g.length : Int) - lenS (endP g sink [] 201 0 S).1 g.length := by
  obtain ⟨W, _⟩ := stack_of hB
  have hW := (endP_ok 201 0 S W hE).1
  have h1 := W.len
  have h2 := hW.len
  unfold popsP
  rw [popped_yes hB, hE]
  simp only [if_true]
  rw [h1]
  exact ⟨trivial, diff_sum _ _ _ (by omega) (by omega)⟩
theorem k_spec_TreeByWalks {S S' S2 : Nat → Prop} {h : Heap} {g s o : Sl} {xss ls : List (List Int)} {ord : List Int} (G : RdR S h g xss) (H : RdR S' h s ls) (O : RdI S2 h o ord) (sink : Int) (K : Value → Heap → Prop) (HK : ∀ t h', OwI h' (Iv h.size h'.size) t (walkTP xss sink ls ord).1 → Fr No h h' → K (.tuple #[t.v, VB (walkTP xss sink ls ord).2]) h') : callM Tryz.prog 23 #[.agg #[g.v], VI sink, .agg #[s.v], o.v] h K := by
  refine v23 g sink s o h K fun b1 b2 h2 hb1 hb2 f2 hL2 => ?_
  have f2 := f2.in_nil
  have z2 := f2.size
  have no : ∀ h', Fr No h h' → walkTP xss sink ls ord = ([], false) → K (.tuple #[nilSl.v, VB false]) h' := fun h' f e => by
    have := HK nilSl h' (by rw [e]; exact Ow.nil _ _ _ _) f
    rw [e] at this; exact this
  refine k_skGood (G.no f2) (H.no f2) sink _ fun h3 f3 => ⟨_, rfl, hL2.of_no f3, fun e => ?_, fun e => ?_⟩
  · refine no _ (f2.no_trans f3) ?_
    unfold walkTP treeP
    rw [popped_no (not_t e)]
    split <;> rfl
  have hB := not_f e
  obtain ⟨W, _⟩ := stack_of hB
  have hgl := graph_len W.graph
  have f03 := f2.no_trans f3
  rw [G.len]
  refine k_grNames (O.no f03) _ (by omega) (by omega) _ ⟨_, rfl, hL2.of_no f3, fun e2 => ?_, fun e2 => ?_⟩
  · refine no _ f03 ?_
    unfold walkTP
    rw [not_t e2]; rfl
  have hN := not_f e2
  refine k_skEnd (G.no f03) (H.no f03) (ch := nilSl) (cs := []) (S2 := No) (RdV.nil No h3 1) W (by simp) sink _ fun x n h5 hx f5 => ⟨x, n, _, rfl, (hL2.of_no f3).of_no f5, fun e3 b3 h7 hb3 f7 hL7 => ?_, fun e3 b3 h7 hb3 f7 hL7 => ?_⟩
  · refine no _ ((f03.no_trans f5).no_trans f7.in_nil) ?_
    unfold walkTP treeP
    rw [hN, popped_yes hB, not_t e3]; rfl
  have f7 := f7.in_nil
  have f07 := (f03.no_trans f5).no_trans f7
  have hE := not_f e3
  have z7 := f07.size
  refine k_skWalks (G.no f07) (H.no f07) (O.no f07) hB hN hE _ fun t h8 o8 f8 => ⟨t, _, _, rfl, hL7.of_no f8, ?_⟩
  have hw : walkTP xss sink ls ord = topsP sink (endP xss sink [] 201 0 ls).1 := by
    unfold walkTP treeP
    rw [hN, popped_yes hB, hE]; rfl
  have ht : (topsP sink (endP xss sink [] 201 0 ls).1).2 = true := by
    obtain ⟨_, _, _, _, _, h⟩ := endP_red (cs := []) (by simp) 201 0 ls W hE
    exact h
  have := HK t h8 (by rw [hw]; exact o8.ivs (by omega) (Nat.le_refl _)) (f07.no_trans f8)
  rw [hw, ht] at this
  exact this
theorem k_TreeByWalks {S S' S2 : Nat → Prop} {h : Heap} {g s o : Sl} {xss ls : List (List Int)} {ord : List Int} (G : RdR S h g xss) (H : RdR S' h s ls) (O : RdI S2 h o ord) (sink : Int) (K : Value → Heap → Prop) (HK : ∀ t h', OwI h' (Iv h.size h'.size) t (walkTP xss sink ls ord).1 → Fr No h h' → K (.tuple #[t.v, VB (walkTP xss sink ls ord).2]) h') : callM Tryz.prog 22 #[.agg #[g.v], VI sink, .agg #[s.v], o.v] h K := by
  refine v22 g sink s o h K fun b1 b2 h2 hb1 hb2 f2 hL2 => ?_
  have f2 := f2.in_nil
  have z2 := f2.size
  have no : ∀ h', Fr No h h' → walkTP xss sink ls ord = ([], false) → K (.tuple #[nilSl.v, VB false]) h' := fun h' f e => by
    have := HK nilSl h' (by rw [e]; exact Ow.nil _ _ _ _) f
    rw [e] at this; exact this
  refine k_isGraph (G.no f2) _ fun h3 f3 => ⟨_, rfl, hL2.of_no f3, fun e => ?_, fun e => ?_⟩
  · refine no _ (f2.no_trans f3) ?_
    unfold walkTP treeP
    rw [popped_no (stackB_graph (not_t e))]
    split <;> rfl
  have hgl := graph_len (not_f e)
  have f03 := f2.no_trans f3
  refine k_areNames (G.no f03) (O.no f03) (by omega) _ fun h4 f4 => ⟨_, rfl, (hL2.of_no f3).of_no f4, fun e2 => ?_, fun e2 => ?_⟩
  · refine no _ (f03.no_trans f4) ?_
    unfold walkTP
    rw [not_t e2]; rfl
  have f04 := f03.no_trans f4
  have z4 := f04.size
  refine k_TreeOfStacks (G.no f04) (H.no f04) sink _ fun t h5 o5 f5 => ⟨t, _, rfl, ((hL2.of_no f3).of_no f4).of_no f5, ?_⟩
  have hw : walkTP xss sink ls ord = treeP xss sink ls := by unfold walkTP; rw [not_f e2]; rfl
  have := HK t h5 (by rw [hw]; exact o5.ivs (by omega) (Nat.le_refl _)) (f04.no_trans f5)
  rw [hw] at this
  exact this
theorem k_spec_StepsByWalks {S S' S2 : Nat → Prop} {h : Heap} {g s o : Sl} {xss ls : List (List Int)} {ord : List Int} (G : RdR S h g xss) (H : RdR S' h s ls) (O : RdI S2 h o ord) (sink : Int) (K : Value → Heap → Prop) (HK : ∀ h', Fr No h h' → K (.tuple #[VI (walkSP xss sink ls ord).1, VB (walkSP xss sink ls ord).2]) h') : callM Tryz.prog 25 #[.agg #[g.v], VI sink, .agg #[s.v], o.v] h K := by
  refine v25 g sink s o h K fun b1 b2 h2 hb1 hb2 f2 hL2 => ?_
  have f2 := f2.in_nil
  have no : ∀ h', Fr No h h' → walkSP xss sink ls ord = (0, false) → K (.tuple #[VI 0, VB false]) h' := fun h' f e => by
    have := HK h' f
    rw [e] at this; exact this
  refine k_skGood (G.no f2) (H.no f2) sink _ fun h3 f3 => ⟨_, rfl, hL2.of_no f3, fun e => ?_, fun e => ?_⟩
  · refine no _ (f2.no_trans f3) ?_
    unfold walkSP popsP
    rw [popped_no (not_t e)]
    simp
  have hB := not_f e
  obtain ⟨W, _⟩ := stack_of hB
  have hgl := graph_len W.graph
  have f03 := f2.no_trans f3
  rw [G.len]
  refine k_grNames (O.no f03) _ (by omega) (by omega) _ ⟨_, rfl, hL2.of_no f3, fun e2 => ?_, fun e2 => ?_⟩
  · refine no _ f03 ?_
    unfold walkSP
    rw [not_t e2]; rfl
  have hN := not_f e2
  refine k_skEnd (G.no f03) (H.no f03) (ch := nilSl) (cs := []) (S2 := No) (RdV.nil No h3 1) W (by simp) sink _ fun x n h5 hx f5 => ⟨x, n, _, rfl, (hL2.of_no f3).of_no f5, fun e3 b3 h7 hb3 f7 hL7 => ?_, fun e3 b3 h7 hb3 f7 hL7 => ?_⟩
  · refine no _ ((f03.no_trans f5).no_trans f7.in_nil) ?_
    unfold walkSP popsP
    rw [popped_yes hB, not_t e3]
    simp
  have f7 := f7.in_nil
  have f07 := (f03.no_trans f5).no_trans f7
  have hE := not_f e3
  refine k_skWalks (G.no f07) (H.no f07) (O.no f07) hB hN hE _ fun t h8 o8 f8 => ⟨t, _, _, rfl, hL7.of_no f8, fun e4 => by simp at e4, fun _ => ?_⟩
  obtain ⟨p1, p2⟩ := pops_sum hB hE
  have hw : walkSP xss sink ls ord = ((lenS ls xss.length : Int) - lenS (endP xss sink [] 201 0 ls).1 xss.length + xss.length - 1, true) := by
    unfold walkSP
    rw [hN, p1, p2]; rfl
  have := HK h8 (f07.no_trans f8)
  rw [hw] at this
  exact this
theorem k_StepsByWalks {S S' S2 : Nat → Prop} {h : Heap} {g s o : Sl} {xss ls : List (List Int)} {ord : List Int} (G : RdR S h g xss) (H : RdR S' h s ls) (O : RdI S2 h o ord) (sink : Int) (K : Value → Heap → Prop) (HK : ∀ h', Fr No h h' → K (.tuple #[VI (walkSP xss sink ls ord).1, VB (walkSP xss sink ls ord).2]) h') : callM Tryz.prog 24 #[.agg #[g.v], VI sink, .agg #[s.v], o.v] h K := by
  refine v24 g sink s o h K fun b1 b2 h2 hb1 hb2 f2 hL2 => ?_
  have f2 := f2.in_nil
  have no : ∀ h', Fr No h h' → walkSP xss sink ls ord = (0, false) → K (.tuple #[VI 0, VB false]) h' := fun h' f e => by
    have := HK h' f
    rw [e] at this; exact this
  refine k_isGraph (G.no f2) _ fun h3 f3 => ⟨_, rfl, hL2.of_no f3, fun e => ?_, fun e => ?_⟩
  · refine no _ (f2.no_trans f3) ?_
    unfold walkSP popsP
    rw [popped_no (stackB_graph (not_t e))]
    simp
  have hgl := graph_len (not_f e)
  have f03 := f2.no_trans f3
  refine k_areNames (G.no f03) (O.no f03) (by omega) _ fun h4 f4 => ⟨_, rfl, (hL2.of_no f3).of_no f4, fun e2 => ?_, fun e2 => ?_⟩
  · refine no _ (f03.no_trans f4) ?_
    unfold walkSP
    rw [not_t e2]; rfl
  have hN := not_f e2
  have f04 := f03.no_trans f4
  refine k_PopsOf (G.no f04) (H.no f04) sink _ fun t h5 o5 f5 => ⟨t, _, rfl, ((hL2.of_no f3).of_no f4).of_no f5, fun e3 => ?_, fun e3 => ?_⟩
  · refine no _ (f04.no_trans f5) ?_
    unfold walkSP
    rw [not_t e3]; simp
  have hP := not_f e3
  have hB : stackB xss sink ls = true := by
    cases hb : stackB xss sink ls with
    | true => rfl
    | false => unfold popsP at hP; rw [popped_no hb] at hP; simp at hP
  have hE : (endP xss sink [] 201 0 ls).2.2 = true := by
    cases hb : (endP xss sink [] 201 0 ls).2.2 with
    | true => rfl
    | false => unfold popsP at hP; rw [popped_yes hB, hb] at hP; simp at hP
  obtain ⟨W, _⟩ := stack_of hB
  have hW := (endP_ok 201 0 ls W hE)
  have h1 := W.len
  have h2 := hW.1.len
  have hpe : (popsP xss sink ls).1 = diffL ls (endP xss sink [] 201 0 ls).1 ls.length := by unfold popsP; rw [popped_yes hB, hE]; rfl
  have hd : ∀ n, n ≤ ls.length → ∀ x, x ∈ diffL ls (endP xss sink [] 201 0 ls).1 n → 0 ≤ x ∧ x ≤ 20 := by
    intro n
    induction n with
    | zero => intro _ x hx; simp [diffL] at hx
    | succ n ih =>
      intro hn x hx
      rw [diffL, List.mem_append, List.mem_singleton] at hx
      rcases hx with hx | hx
      · exact ih (by omega) x hx
      · have a := hW.2.2 n (by omega) (by omega)
        have b := W.short n (by omega)
        rw [getD_get (by omega), getD_get (by omega)] at hx
        omega
  have hl := popsP_len xss sink ls
  refine k_sum o5.rdF (by rw [hpe]; exact hd _ (Nat.le_refl _)) (by omega) _ ⟨_, rfl, (((hL2.of_no f3).of_no f4).of_no f5), ?_⟩
  obtain ⟨p1, p2⟩ := pops_sum hB hE
  have htot := W.tot
  have hle : lenS ls xss.length ≤ 104 := by rw [lenS_le (by omega)]; omega
  have hle2 : lenS (endP xss sink [] 201 0 ls).1 xss.length ≤ 104 := by have := hW.1.tot; rw [lenS_le (by omega)]; omega
  have hw : walkSP xss sink ls ord = ((popsP xss sink ls).1.sum + xss.length - 1, true) := by
    unfold walkSP
    rw [hN, hP]; rfl
  have := HK h5 (f04.no_trans f5)
  rw [hw] at this
  rw [G.len, w64_eq ((popsP xss sink ls).1.sum + xss.length) (by omega) (by omega), w64_eq _ (by omega) (by omega)]
  exact this
structure CurD (a n : Nat) (h : Heap) (c : Sl) (i : Int) : Prop where
  code : ∃ vs, RdV (fun k => k < a) h 1 c vs ∧ ∀ v, v ∈ vs → ∃ m : Int, v = Value.int .u8 m ∧ 0 ≤ m ∧ m ≤ 255
  lo : 0 ≤ i
  hi : i ≤ (n : Int)
theorem CurD.fr {a n : Nat} {h h' : Heap} {c : Sl} {i : Int} {T : Nat → Prop} (D : CurD a n h c i) (f : Fr T h h') (hT : ∀ k, k < a → ¬ T k) : CurD a n h' c i := by
  obtain ⟨vs, h1, h2⟩ := D.code
  exact ⟨⟨vs, h1.fr f hT, h2⟩, D.lo, D.hi⟩
theorem CurD.no {a n : Nat} {h h' : Heap} {c : Sl} {i : Int} (D : CurD a n h c i) (f : Fr No h h') : CurD a n h' c i := D.fr f fun _ _ h => h
theorem CurD.up {a n m : Nat} {h : Heap} {c : Sl} {i : Int} (D : CurD a n h c i) (hm : n ≤ m) : CurD a m h c i := ⟨D.code, D.lo, by have := D.hi; omega⟩
theorem u64_rng (x : Int) : 0 ≤ IntKind.wrap .u64 x ∧ IntKind.wrap .u64 x < 18446744073709551616 := by
  rw [IntKind.wrap_u64]; omega
theorem and255 {x : Int} (h0 : 0 ≤ x) (h1 : x < 18446744073709551616) : 0 ≤ bits .and .u64 x 255 ∧ bits .and .u64 x 255 ≤ 255 := by
  have e := u64_and_nat x.toNat 255 (by omega) (by omega)
  rw [show ((x.toNat : Nat) : Int) = x by omega] at e
  have : x.toNat &&& 255 ≤ 255 := Nat.and_le_right
  rw [show ((255 : Nat) : Int) = 255 from rfl] at e
  rw [e]; omega
theorem vcur {h h' : Heap} {L : List (Nat × List Value)} (H : Vars h L) (i : Nat) {b : Nat} {cs cs' : List Value} (hi : nthL L i = some (b, cs)) (f : Fr (In [b]) h h') (V : IsVar h' b cs') : Vars h' (setL L i cs') :=
  H.set hi (f.mono fun k _ hk => by simpa [In] using hk) V
theorem k_next_ {a n b : Nat} {h : Heap} {c : Sl} {i sd : Int} (V : IsVar h b [c.v, VI i, .int .u64 sd]) (hb : a ≤ b) (D : CurD a n h c i) (hn : n ≤ 1000000000000) (K : Value → Heap → Prop) (HK : ∀ (x i' sd' : Int) h', 0 ≤ x → x ≤ 255 → IsVar h' b [c.v, VI i', .int .u64 sd'] → CurD a (n + 1) h' c i' → Fr (In [b]) h h' → K (VI x) h') : callM Tryz.prog 106 #[VP b 0] h K := by
  have h0 := D.lo
  have h1 := D.hi
  have lb := V.lt
  have fin : ∀ (x i' sd' : Int) (h1 h2 h' : Heap), 0 ≤ x → x ≤ 255 → 0 ≤ i' → i' ≤ (n : Int) + 1 → Fr No h h1 → Fr (In [b]) h1 h2 → Fr (In [b]) h2 h' → IsVar h' b [c.v, VI i', .int .u64 sd'] → K (VI x) h' := fun x i' sd' h1 h2 h' x0 x1 i0 i1 f1 f2 f3 V' => by
    have f := (f1.of_no.trans f2).trans f3
    obtain ⟨vs, d1, d2⟩ := D.code
    exact HK x i' sd' h' x0 x1 V' ⟨⟨vs, d1.fr f fun k hk hk2 => by simp [In] at hk2; omega, d2⟩, i0, by omega⟩ f
  refine v106 b c i sd h K (.cons V (by simp) .nil) ⟨fun x h' => 0 ≤ x ∧ x ≤ 255 ∧ h' = h, ⟨fun e => ?_, fun e => ⟨by omega, by omega, rfl⟩⟩, ?_⟩
  · obtain ⟨vs, d1, d2⟩ := D.code
    have hl := d1.len
    simp only [decide_eq_true_eq] at e
    have hi : i < (vs.length : Int) := by omega
    obtain ⟨m, e1, m0, m1⟩ := d2 _ (List.getElem_mem (show i.toNat < vs.length by omega))
    refine ⟨d1.inb h0 hi, m, by rw [d1.get h0 hi, e1], rop_conv (show Tryz.prog.underlying _ = some (.int .u8) from by kernel_rfl) (show Tryz.prog.underlying _ = some (.int .i64) from by kernel_rfl) m ⟨m, ?_, m0, m1, rfl⟩⟩
    show Value.int .i64 (w64 m) = VI m
    rw [w64_eq _ (by omega) (by omega)]
  · rintro x hh ⟨x0, x1, rfl⟩ hL h2 f2 hL2
    rw [w64_eq (i + 1) (by omega) (by omega)]
    refine rop_conv (show Tryz.prog.underlying _ = some (.int .i64) from by kernel_rfl) (show Tryz.prog.underlying _ = some (.int .u64) from by kernel_rfl) x ⟨_, rfl, fun e h3 f3 hL3 => ?_, fun e => ?_⟩
    · exact fin x _ _ hh h2 h3 x0 x1 (by omega) (by omega) (Fr.refl _ _) f2 f3 hL3.head
    · refine pop_shr .u64 _ 40 (by omega) ⟨_, rfl, pop_and .u64 _ 255 ⟨_, rfl, fun h3 f3 hL3 => ?_⟩⟩
      have hw := u64_rng (IntKind.wrap .u64 (IntKind.wrap .u64 (sd * 6364136223846793005) + IntKind.wrap .u64 x) + 1442695040888963407)
      have hd : 0 ≤ (IntKind.wrap .u64 (IntKind.wrap .u64 (IntKind.wrap .u64 (sd * 6364136223846793005) + IntKind.wrap .u64 x) + 1442695040888963407)).fdiv (2 ^ (min (40 : Int).toNat IntKind.u64.bits)) ∧ (IntKind.wrap .u64 (IntKind.wrap .u64 (IntKind.wrap .u64 (sd * 6364136223846793005) + IntKind.wrap .u64 x) + 1442695040888963407)).fdiv (2 ^ (min (40 : Int).toNat IntKind.u64.bits)) < 18446744073709551616 := by
        rw [show (2 : Int) ^ (min (40 : Int).toNat IntKind.u64.bits) = 1099511627776 from rfl, Int.fdiv_eq_ediv_of_nonneg _ (by omega)]
        omega
      have ha := and255 hd.1 hd.2
      refine rop_conv (show Tryz.prog.underlying _ = some (.int .u64) from by kernel_rfl) (show Tryz.prog.underlying _ = some (.int .i64) from by kernel_rfl) _ ⟨_, rfl, ?_⟩
      rw [show IntKind.i64.wrap (bits .and .u64 ((IntKind.wrap .u64 (IntKind.wrap .u64 (IntKind.wrap .u64 (sd * 6364136223846793005) + IntKind.wrap .u64 x) + 1442695040888963407)).fdiv (2 ^ (min (40 : Int).toNat IntKind.u64.bits))) 255) = bits .and .u64 ((IntKind.wrap .u64 (IntKind.wrap .u64 (IntKind.wrap .u64 (sd * 6364136223846793005) + IntKind.wrap .u64 x) + 1442695040888963407)).fdiv (2 ^ (min (40 : Int).toNat IntKind.u64.bits))) 255 from w64_eq _ (by omega) (by omega)]
      exact fin _ _ _ hh h2 h3 ha.1 ha.2 (by omega) (by omega) (Fr.refl _ _) f2 f3 hL3.head
theorem k_pick {a n b : Nat} {h : Heap} {c : Sl} {i sd : Int} (V : IsVar h b [c.v, VI i, .int .u64 sd]) (hb : a ≤ b) (D : CurD a n h c i) (hn : n ≤ 100000000000) (m : Int) (K : Value → Heap → Prop) (HK : ∀ (x i' sd' : Int) h', 0 ≤ x → (1 ≤ m → x < m) → IsVar h' b [c.v, VI i', .int .u64 sd'] → CurD a (n + 2) h' c i' → Fr (In [b]) h h' → K (VI x) h') : callM Tryz.prog 52 #[VP b 0, VI m] h K := by
  refine v52 b c i sd m h K (.cons V (by simp) .nil) ⟨fun e => ?_, fun e => ?_⟩
  · simp only [decide_eq_true_eq] at e
    exact HK 0 i sd h (by omega) (fun _ => by omega) V (D.up (by omega)) (Fr.refl _ _)
  simp only [decide_eq_false_iff_not] at e
  refine k_next_ V hb D (by omega) _ fun x i1 sd1 h1 x0 x1 V1 D1 f1 => ⟨c, i1, sd1, x, rfl, .cons V1 (by simp) .nil, fun y d i2 sd2 h2 => 0 ≤ y ∧ d = c ∧ CurD a (n + 2) h2 c i2 ∧ Fr (In [b]) h h2, ⟨fun e2 => ?_, fun e2 => ⟨x0, rfl, D1.up (by omega), f1⟩⟩, ?_⟩
  · refine k_next_ V1 hb D1 (by omega) _ fun x' i2 sd2 h2 x0' x1' V2 D2 f2 => ⟨c, i2, sd2, x', rfl, .cons V2 (by simp) .nil, ?_⟩
    rw [w64_eq (x * 256) (by omega) (by omega), w64_eq _ (by omega) (by omega)]
    exact ⟨by omega, rfl, D2, f1.trans f2⟩
  · rintro y d i2 sd2 h2 ⟨y0, rfl, D2, f2⟩ hL2
    exact ⟨by omega, HK _ i2 sd2 h2 (Int.tmod_nonneg _ y0) (fun _ => Int.tmod_lt_of_pos _ (by omega)) hL2.head D2 f2⟩
theorem k_one {a n b : Nat} {h : Heap} {c : Sl} {i sd : Int} (V : IsVar h b [c.v, VI i, .int .u64 sd]) (hb : a ≤ b) (D : CurD a n h c i) (hn : n ≤ 100000000000) (m : Int) (K : Value → Heap → Prop) (HK : ∀ (x : Bool) (i' sd' : Int) h', IsVar h' b [c.v, VI i', .int .u64 sd'] → CurD a (n + 2) h' c i' → Fr (In [b]) h h' → K (VB x) h') : callM Tryz.prog 67 #[VP b 0, VI m] h K := by
  refine v67 b c i sd m h K (.cons V (by simp) .nil) ?_
  exact k_pick V hb D hn m _ fun x i1 sd1 h1 x0 x1 V1 D1 f1 => ⟨c, i1, sd1, x, rfl, .cons V1 (by simp) .nil, HK _ i1 sd1 h1 V1 D1 f1⟩
theorem k_among {a n b : Nat} {h : Heap} {c : Sl} {i sd : Int} (V : IsVar h b [c.v, VI i, .int .u64 sd]) (hb : a ≤ b) (D : CurD a n h c i) (hn : n ≤ 100000000000) {S : Nat → Prop} {s : Sl} {xs : List Int} (R : RdI S h s xs) (hS : ¬ S b) (hne : xs ≠ []) (K : Value → Heap → Prop) (HK : ∀ (x i' sd' : Int) h', x ∈ xs → IsVar h' b [c.v, VI i', .int .u64 sd'] → CurD a (n + 2) h' c i' → Fr (In [b]) h h' → K (VI x) h') : callM Tryz.prog 53 #[VP b 0, s.v] h K := by
  refine v53 b c i sd s h K (.cons V (by simp) .nil) ?_
  have hl := R.len
  have hp := List.length_pos_iff.2 hne
  refine k_pick V hb D hn _ _ fun x i1 sd1 h1 x0 x1 V1 D1 f1 => ⟨c, i1, sd1, x, rfl, .cons V1 (by simp) .nil, ?_⟩
  have R1 := R.fr f1 fun k hk hk2 => by simp [In] at hk2; subst hk2; exact hS hk
  have hx : x < (xs.length : Int) := by have := x1 (by omega); omega
  exact ⟨R1.inb x0 hx, _, R1.get x0 hx, HK _ i1 sd1 h1 (List.getElem_mem _) V1 D1 f1⟩
theorem eop_put {L : List (Nat × List Value)} {lo : Nat} {h : Heap} {o : Sl} {xs : List Int} {x : Int} (O : OwI h (fun k => lo ≤ k) o xs) (hlo : lo ≤ h.size) (hL : Vars h L) (hoff : ∀ p, p ∈ L → p.1 < lo) (hb : xs.length ≤ 1000000) (R : Sl → Heap → Prop) (HR : ∀ t h', OwI h' (fun k => lo ≤ k) t (xs ++ [x]) → Fr (fun k => lo ≤ k) h h' → Vars h' L → R t h') : eop Tryz.prog (Instr.buildSlice tIs 1 #[(0, VI x)]) h fun rv h1 => ∃ t : Sl, rv = t.v ∧ Vars h1 L ∧ eop Tryz.prog (appS tIs tIs tIs o.v t.v) h1 fun rv2 h2 => ∃ t2 : Sl, rv2 = t2.v ∧ Vars h2 L ∧ R t2 h2 := by
  refine eop_lit rIs (fun k => h.size ≤ k) (fun _ h => h) 1 (by omega) [VI x] rfl rfl fun t h1 n1 c1 o1 f1 m1 _ => ⟨t, rfl, hL.of_no f1, ?_⟩
  have z1 := f1.size
  have O1 : OwI h1 (fun k => lo ≤ k) o xs := Ow.no O f1
  have on := O1.rd.len
  have tn := o1.rd.len
  simp only [List.length_map, Nat.mul_one, List.length_cons, List.length_nil] at on tn
  refine eop_append rIs O1 (fun k hk => by omega) o1.rd (plainVI [x]) (by omega) fun s' h2 n2 o2 f2 d2 => ?_
  have g2 : Fr (fun k => lo ≤ k) h1 h2 := f2.mono fun k _ hk => (O1.foot hk).1
  have V2 : Vars h2 L := (hL.of_no f1).fr g2 fun p hp hk => by have := hoff p hp; omega
  exact ⟨s', rfl, V2, HR s' h2 (by rw [OwI, List.map_append]; exact o2) (f1.of_no.trans g2) V2⟩
theorem eop_putR {L : List (Nat × List Value)} {lo m : Nat} {h : Heap} {s x : Sl} {xss : List (List Int)} {ys : List Int} (O : OwX h (Iv lo m) s xss) (X : OwI h (fun k => m ≤ k) x ys) (hlo : lo ≤ m) (hm : m ≤ h.size) (hL : Vars h L) (hoff : ∀ p, p ∈ L → p.1 < lo) (hb : xss.length ≤ 1000000) (R : Sl → Heap → Prop) (HR : ∀ t h', OwX h' (fun k => lo ≤ k) t (xss ++ [ys]) → Fr (fun k => lo ≤ k) h h' → Vars h' L → R t h') : eop Tryz.prog (Instr.buildSlice tIss 1 #[(0, x.v)]) h fun rv h1 => ∃ t : Sl, rv = t.v ∧ Vars h1 L ∧ eop Tryz.prog (appS tIss tIss tIss s.v t.v) h1 fun rv2 h2 => ∃ t2 : Sl, rv2 = t2.v ∧ Vars h2 L ∧ R t2 h2 := by
  refine eop_lit rIss (fun k => h.size ≤ k) (fun _ h => h) 1 (by omega) [x.v] rfl rfl fun t h1 n1 c1 o1 f1 m1 _ => ⟨t, rfl, hL.of_no f1, ?_⟩
  have z1 := f1.size
  refine OwR.snoc rIss (OwR.no O f1) (F' := fun k => lo ≤ k) (fun k _ hk => hk.1) (fun k hk => by omega) ((Ow.no X f1).mono fun k _ hk => Nat.le_trans hlo hk) (fun k hk hk2 => by have := (X.foot hk).1; have := hk2.2; omega) o1.rd (by omega) fun y h2 o2 f2 => ?_
  have g2 : Fr (fun k => lo ≤ k) h1 h2 := f2.mono fun k _ hk => hk.1
  have V2 : Vars h2 L := (hL.of_no f1).fr g2 fun p hp hk => by have := hoff p hp; omega
  exact ⟨y, rfl, V2, HR y h2 o2 (f1.of_no.trans g2) V2⟩
def cycR (n : Int) (both : Bool) (p : Int) : List Int := [(p + 1).tmod n] ++ (if both then [(p + n - 1).tmod n] else [])
def cycL' (n : Int) (both : Bool) : Nat → List (List Int)
  | 0 => []
  | p + 1 => cycL' n both p ++ [cycR n both p]
theorem cycL_length (n : Int) (both : Bool) : ∀ p, (cycL' n both p).length = p
  | 0 => rfl
  | p + 1 => by rw [cycL', List.length_append, cycL_length n both p]; rfl
def cycP (n : Nat) (both : Bool) : List (List Int) := cycL' n both n
theorem k_grCycle {h : Heap} (n : Nat) (hn : n ≤ 1000) (both : Bool) (K : Value → Heap → Prop) (HK : ∀ t h', OwX h' (Iv h.size h'.size) t (cycP n both) → Fr No h h' → K (.agg #[t.v]) h') : callM Tryz.prog 153 #[VI n, VB both] h K := by
  refine v153 n both h K fun b1 b2 h3 hb1 hb2 f3 hL3 => ?_
  have f3 := f3.in_nil
  have z3 := f3.size
  have l2 : b2 < h3.size := hL3.head.lt
  have l1 : b1 < h3.size := hL3.tail.head.lt
  refine ⟨fun m p x h' => 0 ≤ p ∧ p + m = (n : Int) ∧ OwX h' (fun k => h3.size ≤ k) x (cycL' n both p.toNat) ∧ Fr (fun k => h.size ≤ k) h h' ∧ h3.size ≤ h'.size, ⟨n, by omega, by omega, OwR.nil _ _ _ _, f3.of_no, Nat.le_refl _⟩, ?_⟩
  rintro m p x h4 ⟨p0, p1, o4, f4, z4⟩ hL4
  refine ⟨fun e => ?_, fun e => ?_⟩
  · simp only [decide_eq_true_eq] at e
    refine ⟨by omega, ?_⟩
    rw [w64_eq (p + 1) (by omega) (by omega), w64_eq (p + n) (by omega) (by omega), w64_eq (p + n - 1) (by omega) (by omega)]
    have o4i := OwR.toIv o4
    refine eop_lit rIs (fun k => h4.size ≤ k) (fun _ h => h) 1 (by omega) [VI ((p + 1).tmod n)] rfl rfl fun t h5 n5 c5 o5 f5 m5 _ => ⟨t, rfl, hL4.of_no f5, fun y h' => OwI h' (fun k => h4.size ≤ k) y (cycR n both p) ∧ OwX h' (Iv h3.size h4.size) x (cycL' n both p.toNat) ∧ Fr (fun k => h.size ≤ k) h h' ∧ h4.size ≤ h'.size, ⟨fun eb => ⟨by omega, ?_⟩, fun eb => ⟨?_, OwR.no o4i f5, f4.trans f5.of_no, f5.size⟩⟩, ?_⟩
    · refine eop_put (lo := h4.size) (xs := [(p + 1).tmod n]) o5 f5.size (hL4.of_no f5) (fun q hq => by
        simp only [List.mem_cons, List.not_mem_nil, or_false] at hq
        rcases hq with rfl | rfl <;> simp only <;> omega) (by simp) _ fun u h6 o6 f6 V6 => ⟨?_, OwR.fr (OwR.no o4i f5) f6 fun k hk hk2 hk3 => by have := hk2.2; omega, (f4.trans f5.of_no).trans (f6.mono fun k _ hk => by have := f4.size; omega), by have := f5.size; have := f6.size; omega⟩
      unfold cycR
      rw [if_pos eb]; exact o6
    · unfold cycR
      rw [if_neg (by rw [eb]; simp)]
      exact o5
    rintro y h8 ⟨o8, q8, f8, z8⟩ hL8
    refine eop_putR (lo := h3.size) (m := h4.size) q8 o8 z4 z8 hL8 (fun q hq => by
      simp only [List.mem_cons, List.not_mem_nil, or_false] at hq
      rcases hq with rfl | rfl <;> simp only <;> omega) (by rw [cycL_length]; omega) _ fun u h10 o10 f10 V10 h11 f11 hL11 => ?_
    refine ⟨m - 1, by omega, by omega, by omega, ?_, (f8.trans (f10.mono fun k _ hk => by omega)).trans (f11.mono fun k _ hk => by simp [In] at hk; omega), by have := f10.size; have := f11.size; omega⟩
    have ep : (p + 1).toNat = p.toNat + 1 := by omega
    rw [ep, cycL', show ((p.toNat : Nat) : Int) = p by omega]
    exact OwR.fr o10 f11 fun k hk hk2 hk3 => by simp [In] at hk3; omega
  · simp only [decide_eq_false_iff_not] at e
    intro h12 f12 hL12
    have ep : p.toNat = n := by omega
    rw [ep] at o4
    have g12 : Fr (fun k => h.size ≤ k) h4 h12 := f12.mono fun k _ hk => by simp [In] at hk; omega
    have o12 : OwX h12 (fun k => h3.size ≤ k) x (cycL' n both n) := OwR.fr o4 f12 fun k hk hk2 hk3 => by simp [In] at hk3; omega
    exact HK x h12 (OwR.ivs (OwR.toIv o12) z3 (Nat.le_refl _)) ((f4.trans g12).mono fun k hk hk2 => absurd hk2 (by omega))
theorem row_put {L : List (Nat × List Value)} {lo : Nat} {h : Heap} {s : Sl} {xss : List (List Int)} {i : Int} (O : OwX h (fun k => lo ≤ k) s xss) (hlo : lo ≤ h.size) (h0 : 0 ≤ i) (h1 : i < (xss.length : Int)) (hL : Vars h L) (hoff : ∀ p, p ∈ L → p.1 < lo) (hb : (xss[i.toNat]'(by omega)).length ≤ 1000000) (x : Int) : ∃ si : Sl, hcell h (s.at i 1) = some si.v ∧ ∀ R : Heap → Prop, (∀ h', OwX h' (fun k => lo ≤ k) s (xss.set i.toNat (xss[i.toNat]'(by omega) ++ [x])) → Fr (fun k => lo ≤ k) h h' → Vars h' L → R h') → eop Tryz.prog (Instr.buildSlice tIs 1 #[(0, VI x)]) h fun rv h1 => ∃ t : Sl, rv = t.v ∧ Vars h1 L ∧ hcell h1 (s.at i 1) = some si.v ∧ eop Tryz.prog (appS tIs tIs tIs si.v t.v) h1 fun rv2 h2 => ∃ t2 : Sl, rv2 = t2.v ∧ Vars h2 L ∧ InB s i ∧ Writable h2 (s.at i 1) ∧ Vars (hset h2 (s.at i 1) t2.v) L ∧ ∀ h3, h3 = hset h2 (s.at i 1) t2.v → Vars h3 L → R h3 := by
  have Oi := OwR.toIv O
  obtain ⟨si, c1, c2, _⟩ := Oi.inner h0 h1
  refine ⟨si, c1, fun R HR => ?_⟩
  refine eop_lit rIs (fun k => h.size ≤ k) (fun _ h => h) 1 (by omega) [VI x] rfl rfl fun t h9 n9 c9 o9 f9 m9 _ => ⟨t, rfl, hL.of_no f9, hcell_fr c1 f9 (fun h => h), ?_⟩
  have s9 := f9.size
  have O9 := OwR.no Oi f9
  have c2' : OwI h9 (fun k => lo ≤ k) si (xss[i.toNat]'(by omega)) := (Ow.no c2 f9).mono fun k _ hk => hk.1
  have on := c2'.rd.len
  have tn := o9.rd.len
  simp only [List.length_map, Nat.mul_one, List.length_cons, List.length_nil] at on tn
  refine eop_append rIs c2' (fun k hk => by omega) o9.rd (plainVI [x]) (by omega) fun w h10 n10 o10 f10 d10 => ?_
  have g10 : Fr (fun k => lo ≤ k) h9 h10 := f10.mono fun k _ hk => (c2'.foot hk).1
  have V10 : Vars h10 L := (hL.of_no f9).fr g10 fun p hp hk => by have := hoff p hp; omega
  have o10' : OwI h10 (fun k => lo ≤ k) w (xss[i.toNat]'(by omega) ++ [x]) := by rw [OwI, List.map_append]; exact o10
  obtain ⟨i11, w11, o11, f11⟩ := O9.outer2 h0 h1 (hcell_fr c1 f9 fun h => h) f10 (F' := fun k => lo ≤ k) o10' (fun k _ hk => hk.1) fun k hk => (d10 k hk).imp id fun hk2 hk3 => by have := hk3.2; omega
  have g11 : Fr (fun k => lo ≤ k) h10 _ := (O9.ownF f11).mono fun k _ hk => hk.1
  have V11 := V10.fr g11 fun p hp hk => by have := hoff p hp; omega
  exact ⟨w, rfl, V10, i11, w11, V11, fun h3 e3 V3 => HR h3 (by rw [e3]; exact o11) (by rw [e3]; exact (f9.of_no.trans g10).trans g11) V3⟩
def GR (N : Int) (q : Nat) (xss : List (List Int)) : Prop := ∀ l, l ∈ xss → l.length ≤ q ∧ ∀ x, x ∈ l → 0 ≤ x ∧ x < N
theorem GR.nil (N : Int) (q : Nat) : GR N q [] := fun l hl => by cases hl
theorem GR.snoc {N : Int} {q : Nat} {xss : List (List Int)} {l : List Int} (H : GR N q xss) (h1 : l.length ≤ q) (h2 : ∀ x, x ∈ l → 0 ≤ x ∧ x < N) : GR N q (xss ++ [l]) := fun y hy => by
  rcases List.mem_append.1 hy with a | a
  · exact H y a
  · simp only [List.mem_cons, List.not_mem_nil, or_false] at a; rw [a]; exact ⟨h1, h2⟩
theorem GR.set {N : Int} {q : Nat} {xss : List (List Int)} {l : List Int} (H : GR N q xss) (i : Nat) (h1 : l.length ≤ q) (h2 : ∀ x, x ∈ l → 0 ≤ x ∧ x < N) : GR N q (xss.set i l) := fun y hy => by
  rcases List.mem_or_eq_of_mem_set hy with a | a
  · exact H y a
  · rw [a]; exact ⟨h1, h2⟩
theorem GR.up {N : Int} {q r : Nat} {xss : List (List Int)} (H : GR N q xss) (h : q ≤ r) : GR N r xss := fun l hl => ⟨Nat.le_trans (H l hl).1 h, (H l hl).2⟩
theorem GR.graph {q : Nat} {xss : List (List Int)} (H : GR xss.length q xss) (hq : q ≤ 5) (h1 : 1 ≤ xss.length) (h2 : xss.length ≤ 8) : graphB xss = true := by
  rw [graphB_eq (inR_iff.2 ⟨by omega, by omega⟩), List.all_eq_true]
  intro l hl
  have := H l hl
  rw [Bool.and_eq_true, Bool.not_eq_true', decide_eq_false_iff_not, List.all_eq_true]
  exact ⟨by omega, fun x hx => inR_iff.2 (by have := this.2 x hx; omega)⟩
theorem cyc_GR {n : Nat} (hn : 1 ≤ n) (both : Bool) : GR n 2 (cycP n both) := by
  have key : ∀ p, GR n 2 (cycL' n both p) := by
    intro p
    induction p with
    | zero => exact GR.nil _ _
    | succ p ih =>
      rw [cycL']
      refine ih.snoc ?_ ?_
      · unfold cycR; split <;> simp
      · intro x hx
        unfold cycR at hx
        rcases List.mem_append.1 hx with a | a
        · simp only [List.mem_cons, List.not_mem_nil, or_false] at a
          rw [a]; exact ⟨Int.tmod_nonneg _ (by omega), Int.tmod_lt_of_pos _ (by omega)⟩
        · split at a
          · simp only [List.mem_cons, List.not_mem_nil, or_false] at a
            rw [a]; exact ⟨Int.tmod_nonneg _ (by omega), Int.tmod_lt_of_pos _ (by omega)⟩
          · cases a
  exact key n
theorem k_sureGraph {a n b : Nat} {h : Heap} {c : Sl} {i sd : Int} (V : IsVar h b [c.v, VI i, .int .u64 sd]) (hb : a ≤ b) (D : CurD a n h c i) (hn : n ≤ 1000000000) {most : Int} (hm1 : 1 ≤ most) (hm2 : most ≤ 8) (K : Value → Heap → Prop) (HK : ∀ (t : Sl) (xss : List (List Int)) (i' sd' : Int) h', OwX h' (Iv h.size h'.size) t xss → GR xss.length 4 xss → 1 ≤ xss.length → (xss.length : Int) ≤ most → IsVar h' b [c.v, VI i', .int .u64 sd'] → CurD a (n + 100) h' c i' → Fr (In [b]) h h' → K (.agg #[t.v]) h') : callM Tryz.prog 149 #[VP b 0, VI most] h K := by
  have lb := V.lt
  refine v149 b c i sd most h K (.cons V (by simp) .nil) fun b2 h1 hb2 f1 hL1 => ?_
  have f1 := f1.in_nil
  have z1 := f1.size
  have l2 : b2 < h1.size := hL1.head.lt
  have fin : ∀ (h' : Heap), Fr (fun k => k = b ∨ h.size ≤ k) h h' → Fr (In [b]) h h' := fun h' f => f.mono fun k hk hk2 => by
    rcases hk2 with e | e
    · simp [In, e]
    · omega
  have inb : ∀ {x y : Heap}, Fr (In [b]) x y → Fr (fun k => k = b ∨ h.size ≤ k) x y := fun f => f.mono fun k _ hk => .inl (by simpa [In] using hk)
  refine k_pick hL1.tail.head hb (D.no f1) (by omega) most _ fun r i2 sd2 h2 r0 r1 V2 D2 f2 => ⟨c, i2, sd2, r, rfl, vcur hL1 1 rfl f2 V2, ?_⟩
  have hr := r1 hm1
  rw [w64_eq (1 + r) (by omega) (by omega)]
  have hL2 := vcur hL1 1 rfl f2 V2
  refine k_one V2 hb D2 (by omega) _ _ fun q i3 sd3 h3 V3 D3 f3 => ⟨c, i3, sd3, q, rfl, vcur hL2 1 rfl f3 V3, fun eq => ?_, fun eq => ?_⟩
  · have hL3 := vcur hL2 1 rfl f3 V3
    refine k_one V3 hb D3 (by omega) _ _ fun q4 i4 sd4 h4 V4 D4 f4 => ⟨c, i4, sd4, q4, rfl, vcur hL3 1 rfl f4 V4, ?_⟩
    have hL4 := vcur hL3 1 rfl f4 V4
    have en : (1 + r) = (((1 + r).toNat : Nat) : Int) := by omega
    rw [en]
    refine k_grCycle (1 + r).toNat (by omega) q4 _ fun t h5 o5 f5 => ⟨t, rfl, hL4.of_no f5, fun h6 f6 hL6 => ?_⟩
    have z2 := f2.size
    have z3 := f3.size
    have z4 := f4.size
    have z5 := f5.size
    have o6 : OwX h6 (Iv h4.size h5.size) t (cycP (1 + r).toNat q4) := OwR.fr o5 f6 fun k hk hk2 hk3 => by simp [In] at hk3; have := hk2.1; omega
    have z6 := f6.size
    have hl : (cycP (1 + r).toNat q4).length = (1 + r).toNat := cycL_length _ _ _
    refine HK t _ i4 sd4 h6 (OwR.ivs o6 (by omega) z6) ?_ (by omega) (by omega) hL6.tail.head ?_ (fin h6 ?_)
    · rw [hl]; exact (cyc_GR (by omega) q4).up (by omega)
    · exact (((D4.no f5).fr f6 fun k hk hk2 => by simp [In] at hk2; omega)).up (by omega)
    · exact ((((f1.of_no.trans (inb f2)).trans (inb f3)).trans (inb f4)).trans f5.of_no).trans (f6.mono fun k _ hk => .inr (by simp [In] at hk; omega))
  · intro b3 h8 hb3 f8 hL8
    have f8 := f8.in_nil
    have z2 := f2.size
    have z3 := f3.size
    have z8 := f8.size
    have l3 : b3 < h8.size := hL8.head.lt
    have f08 : Fr (fun k => k = b ∨ h.size ≤ k) h h8 := ((f1.of_no.trans (inb f2)).trans (inb f3)).trans f8.of_no
    refine ⟨fun m p x d i' sd' h' => 0 ≤ p ∧ p + m = 1 + r ∧ d = c ∧ CurD a (n + 4 + 10 * p.toNat) h' c i' ∧ (∃ rows, OwX h' (fun k => h8.size ≤ k) x rows ∧ GR (1 + r) 3 rows ∧ rows.length = p.toNat) ∧ Fr (fun k => k = b ∨ h.size ≤ k) h h' ∧ h8.size ≤ h'.size, ⟨(1 + r).toNat, by omega, by omega, rfl, (D3.no f8).up (by omega), ⟨[], OwR.nil _ _ _ _, GR.nil _ _, rfl⟩, f08, Nat.le_refl _⟩, ?_⟩
    rintro m p x d i9 sd9 h9 ⟨p0, p1, rfl, D9, ⟨rows, o9, g9, e9⟩, f9, z9⟩ hL9
    have hoff : ∀ (A B C : List Value) (q : Nat × List Value), q ∈ [(b3, A), (b2, B), (b, C)] → q.1 < h8.size := fun A B C q hq => by
      simp only [List.mem_cons, List.not_mem_nil, or_false] at hq
      rcases hq with rfl | rfl | rfl <;> simp only <;> omega
    refine ⟨fun e => ?_, fun e => ?_⟩
    · simp only [decide_eq_true_eq] at e
      refine k_pick hL9.tail.tail.head hb D9 (by omega) 3 _ fun y i10 sd10 h10 y0 y1 V10 D10 f10 => ⟨d, i10, sd10, y, rfl, vcur hL9 2 rfl f10 V10, ?_⟩
      have y1 := y1 (by omega)
      rw [w64_eq (1 + y) (by omega) (by omega)]
      have z10 := f10.size
      have o10 := OwR.fr (OwR.toIv o9) f10 fun k hk hk2 hk3 => by simp [In] at hk3; have := hk2.1; omega
      refine ⟨fun m l k d' i' sd' h' => m = k.toNat ∧ 0 ≤ k ∧ d' = d ∧ CurD a (n + 6 + 10 * p.toNat + 2 * (3 - k).toNat) h' d i' ∧ (∃ ys, OwI h' (fun k => h9.size ≤ k) l ys ∧ (∀ x, x ∈ ys → 0 ≤ x ∧ x < 1 + r) ∧ (ys.length : Int) + k ≤ 3) ∧ OwX h' (Iv h8.size h9.size) x rows ∧ Fr (fun k => k = b ∨ h.size ≤ k) h h' ∧ h9.size ≤ h'.size, ⟨(1 + y).toNat, rfl, by omega, rfl, D10.up (by omega), ⟨[], Ow.nil _ _ _ _, by simp, by simp; omega⟩, o10, f9.trans (inb f10), z10⟩, ?_⟩
      rintro m2 l k d' i11 sd11 h11 ⟨rfl, k0, rfl, D11, ⟨ys, q11, r11, e11⟩, o11, f11, z11⟩ hL11
      refine ⟨fun ek => ?_, fun ek => ?_⟩
      · simp only [decide_eq_true_eq] at ek
        refine k_pick hL11.tail.tail.head hb D11 (by omega) (1 + r) _ fun w i12 sd12 h12 w0 w1 V12 D12 f12 => ⟨d', i12, sd12, w, rfl, vcur hL11 2 rfl f12 V12, ?_⟩
        have w1 := w1 (by omega)
        have z12 := f12.size
        have q12 : OwI h12 (fun k => h9.size ≤ k) l ys := Ow.fr q11 f12 fun k hk hk3 => by have := (q11.foot hk).1; simp [In] at hk3; omega
        have hL12 := vcur hL11 2 rfl f12 V12
        refine eop_put (lo := h9.size) q12 (by omega) hL12 (fun q hq => by have := hoff _ _ _ q hq; omega) (by omega) _ fun u h14 o14 f14 V14 => ?_
        rw [w64_eq (k - 1) (by omega) (by omega)]
        have z14 := f14.size
        refine ⟨(k - 1).toNat, by omega, rfl, by omega, rfl, ?_, ⟨ys ++ [w], o14, ?_, by simp; omega⟩, ?_, ?_, by omega⟩
        · exact (D12.fr f14 fun k hk hk2 => by omega).up (by omega)
        · intro v hv
          rcases List.mem_append.1 hv with a | a
          · exact r11 v a
          · simp only [List.mem_cons, List.not_mem_nil, or_false] at a; omega
        · refine OwR.fr (OwR.fr o11 f12 fun k hk hk2 hk3 => by simp [In] at hk3; have := hk2.1; omega) f14 fun k hk hk2 hk3 => by have := hk2.2; omega
        · exact (f11.trans (inb f12)).trans (f14.mono fun k _ hk => .inr (by have := f9.size; omega))
      · simp only [decide_eq_false_iff_not] at ek
        have ek0 : k = 0 := by omega
        subst ek0
        refine ⟨fun y2 d2 i2' sd2' h' => d2 = d' ∧ (∃ zs, OwI h' (fun k => h9.size ≤ k) y2 zs ∧ (∀ x, x ∈ zs → 0 ≤ x ∧ x < 1 + r) ∧ zs.length ≤ 3) ∧ OwX h' (Iv h8.size h9.size) x rows ∧ CurD a (n + 14 + 10 * p.toNat) h' d' i2' ∧ Fr (fun k => k = b ∨ h.size ≤ k) h h' ∧ h9.size ≤ h'.size, ?_, ?_⟩
        · refine k_one hL11.tail.tail.head hb D11 (by omega) 8 _ fun q15 i15 sd15 h15 V15 D15 f15 => ⟨d', i15, sd15, q15, rfl, vcur hL11 2 rfl f15 V15, fun _ => ?_, fun _ => ?_⟩
          · exact ⟨rfl, ⟨[], Ow.nil _ _ _ _, by simp, by simp⟩, OwR.fr o11 f15 fun k hk hk2 hk3 => by simp [In] at hk3; have := hk2.1; omega, D15.up (by omega), f11.trans (inb f15), by have := f15.size; omega⟩
          · exact ⟨rfl, ⟨ys, Ow.fr q11 f15 fun k hk hk3 => by have := (q11.foot hk).1; simp [In] at hk3; omega, r11, by omega⟩, OwR.fr o11 f15 fun k hk hk2 hk3 => by simp [In] at hk3; have := hk2.1; omega, D15.up (by omega), f11.trans (inb f15), by have := f15.size; omega⟩
        rintro y2 d2 i16 sd16 h16 ⟨rfl, ⟨zs, q16, r16, e16⟩, o16, D16, f16, z16⟩ hL16
        refine eop_putR (lo := h8.size) (m := h9.size) o16 q16 z9 z16 hL16 (fun q hq => hoff _ _ _ q hq) (by omega) _ fun u h18 o18 f18 V18 h19 f19 hL19 => ?_
        rw [w64_eq (p + 1) (by omega) (by omega)]
        have z18 := f18.size
        have z19 := f19.size
        refine ⟨m - 1, by omega, by omega, by omega, rfl, ?_, ⟨rows ++ [zs], OwR.fr o18 f19 fun k hk hk2 hk3 => by simp [In] at hk3; omega, g9.snoc e16 r16, by simp; omega⟩, ?_, by omega⟩
        · exact ((D16.fr f18 fun k hk hk2 => by omega).fr f19 fun k hk hk2 => by simp [In] at hk2; omega).up (by omega)
        · exact (f16.trans (f18.mono fun k _ hk => .inr (by omega))).trans (f19.mono fun k _ hk => .inr (by simp [In] at hk; omega))
    · simp only [decide_eq_false_iff_not] at e
      have hrl : (rows.length : Int) = 1 + r := by omega
      refine k_one hL9.tail.tail.head hb D9 (by omega) 2 _ fun q20 i20 sd20 h20 V20 D20 f20 => ⟨d, i20, sd20, q20, rfl, vcur hL9 2 rfl f20 V20, fun _ => ?_, fun _ => ?_⟩
      · have z20 := f20.size
        have o20 : OwX h20 (fun k => h8.size ≤ k) x rows := OwR.fr o9 f20 fun k hk hk2 hk3 => by simp [In] at hk3; omega
        have hL20 := vcur hL9 2 rfl f20 V20
        refine ⟨fun m2 j h' => 0 ≤ j ∧ j + m2 = 1 + r ∧ CurD a (n + 100) h' d i20 ∧ (∃ rs, OwX h' (fun k => h8.size ≤ k) x rs ∧ GR (1 + r) 4 rs ∧ (rs.length : Int) = 1 + r ∧ ∀ k (hk : k < rs.length), j ≤ (k : Int) → rs[k].length ≤ 3) ∧ Fr (fun k => k = b ∨ h.size ≤ k) h h' ∧ h8.size ≤ h'.size, ⟨(1 + r).toNat, by omega, by omega, D20.up (by omega), ⟨rows, o20, g9.up (by omega), hrl, fun k hk _ => (g9 _ (List.getElem_mem hk)).1⟩, f9.trans (inb f20), by omega⟩, ?_⟩
        rintro m2 j h21 ⟨j0, j1, D21, ⟨rs, o21, g21, e21, s21⟩, f21, z21⟩ hL21
        have hxn : (x.n : Int) = 1 + r := by have := OwR.len o21; omega
        refine ⟨fun ej => ?_, fun ej => ?_⟩
        · simp only [decide_eq_true_eq] at ej
          have hj : j < (rs.length : Int) := by omega
          have hsj := s21 j.toNat (by omega) (by omega)
          obtain ⟨si, c1, c2⟩ := row_put o21 z21 j0 hj hL21 (fun q hq => hoff _ _ _ q hq) (by omega) ((w64 (j + 1)).tmod (1 + r))
          refine ⟨(OwR.rd o21).inb j0 hj, si, c1, by omega, c2 _ fun h24 o24 f24 V24 => ?_⟩
          rw [w64_eq (j + 1) (by omega) (by omega)] at o24 ⊢
          refine ⟨m2 - 1, by omega, by omega, by omega, D21.fr f24 fun k hk hk2 => by omega, ⟨_, o24, g21.set _ (by simp; omega) ?_, by simp; omega, fun k hk hk2 => ?_⟩, f21.trans (f24.mono fun k _ hk => .inr (by omega)), by have := f24.size; omega⟩
          · intro v hv
            rcases List.mem_append.1 hv with a | a
            · exact (g21 _ (List.getElem_mem _)).2 v a
            · simp only [List.mem_cons, List.not_mem_nil, or_false] at a
              rw [a]; exact ⟨Int.tmod_nonneg _ (by omega), Int.tmod_lt_of_pos _ (by omega)⟩
          · rw [List.getElem_set, if_neg (by omega)]
            exact s21 k (by simpa using hk) (by omega)
        · intro h25 f25 hL25
          have o25 : OwX h25 (fun k => h8.size ≤ k) x rs := OwR.fr o21 f25 fun k hk hk2 hk3 => by simp [In] at hk3; omega
          refine HK x rs i20 sd20 h25 (OwR.ivs (OwR.toIv o25) (by omega) (Nat.le_refl _)) (by rw [e21]; exact g21) (by omega) (by omega) hL25.tail.tail.head (D21.fr f25 fun k hk hk2 => by simp [In] at hk2; omega) (fin _ (f21.trans (f25.mono fun k _ hk => .inr (by simp [In] at hk; omega))))
      · intro h26 f26 hL26
        have z20 := f20.size
        have o26 : OwX h26 (fun k => h8.size ≤ k) x rows := OwR.fr (OwR.fr o9 f20 fun k hk hk2 hk3 => by simp [In] at hk3; omega) f26 fun k hk hk2 hk3 => by simp [In] at hk3; omega
        refine HK x rows i20 sd20 h26 (OwR.ivs (OwR.toIv o26) (by omega) (Nat.le_refl _)) (by rw [hrl]; exact g9.up (by omega)) (by omega) (by omega) hL26.tail.tail.head ((D20.fr f26 fun k hk hk2 => by simp [In] at hk2; omega).up (by omega)) (fin _ ((f9.trans (inb f20)).trans (f26.mono fun k _ hk => .inr (by simp [In] at hk; omega))))
theorem row_set {L : List (Nat × List Value)} {F : Nat → Prop} {m : Nat} {h : Heap} {s x : Sl} {xss : List (List Int)} {ys : List Int} {i : Int} (O : OwX h (fun k => F k ∧ k < m) s xss) (X : OwI h (fun k => m ≤ k) x ys) (hF : ∀ k, m ≤ k → F k) (h0 : 0 ≤ i) (h1 : i < (xss.length : Int)) (hL : Vars h L) (hoff : ∀ p, p ∈ L → ¬ F p.1) (R : Heap → Prop) (HR : ∀ h', OwX h' F s (xss.set i.toNat ys) → Fr F h h' → Vars h' L → R h') : InB s i ∧ Writable h (s.at i 1) ∧ Vars (hset h (s.at i 1) x.v) L ∧ ∀ h3, h3 = hset h (s.at i 1) x.v → Vars h3 L → R h3 := by
  obtain ⟨si, c1, c2, _⟩ := O.inner h0 h1
  obtain ⟨i11, w11, o11, f11⟩ := O.outer2 h0 h1 c1 (Fr.refl _ _) (F' := F) (X.mono fun k _ hk => hF k hk) (fun k _ hk => hk.1) fun k hk => .inr fun hk2 => by have := (X.foot hk).1; have := hk2.2; omega
  have g11 : Fr F h _ := (O.ownF f11).mono fun k _ hk => hk.1
  have V11 := hL.fr g11 hoff
  exact ⟨i11, w11, V11, fun h3 e3 V3 => HR h3 (by rw [e3]; exact o11) (by rw [e3]; exact g11) V3⟩
theorem int_set {L : List (Nat × List Value)} {F : Nat → Prop} {h : Heap} {s : Sl} {xs : List Int} {i : Int} {v : Int} (O : OwI h F s xs) (h0 : 0 ≤ i) (h1 : i < (xs.length : Int)) (hL : Vars h L) (hoff : ∀ p, p ∈ L → ¬ F p.1) (R : Heap → Prop) (HR : ∀ h', OwI h' F s (xs.set i.toNat v) → Fr F h h' → Vars h' L → R h') : InB s i ∧ Writable h (s.at i 1) ∧ Vars (hset h (s.at i 1) (VI v)) L ∧ ∀ h3, h3 = hset h (s.at i 1) (VI v) → Vars h3 L → R h3 := by
  have on := O.rd.len
  simp only [List.length_map, Nat.mul_one] at on
  obtain ⟨w1, w2, w3⟩ := O.store1 h0 (by omega) (VI v)
  have g : Fr F h _ := w3.mono fun k _ hk => (O.foot hk).1
  have V := hL.fr g hoff
  exact ⟨O.rd.inb h0 (by simp; omega), w1, V, fun h3 e3 V3 => HR h3 (by rw [e3, OwI, List.map_set]; exact w2) (by rw [e3]; exact g) V3⟩
theorem cell_keep {S T : Nat → Prop} {h h' : Heap} {s : Sl} {xss : List (List Int)} {i : Int} (R : RdR S h s xss) (h0 : 0 ≤ i) (h1 : i < (xss.length : Int)) (f : Fr T h h') (hd : ∀ k, S k → ¬ T k) {v : Value} (c : hcell h (s.at i 1) = some v) : hcell h' (s.at i 1) = some v := by
  obtain ⟨ss, e, V, _⟩ := R.out
  obtain ⟨a, ha, hs, _⟩ := V.cell i.toNat (by simp; omega)
  refine hcell_fr c f ?_
  rw [at_one ha, add_block]
  exact hd _ hs
theorem slv_inj {a b : Sl} (h : some a.v = some b.v) : a = b := by
  cases a; cases b; simp [Sl.v] at h; simp [h]
theorem row_putF {L : List (Nat × List Value)} {F : Nat → Prop} {h : Heap} {s si : Sl} {xss : List (List Int)} {i : Int} (O : OwX h F s xss) (hF : ∀ k, h.size ≤ k → F k) (h0 : 0 ≤ i) (h1 : i < (xss.length : Int)) (c0 : hcell h (s.at i 1) = some si.v) (hL : Vars h L) (hoff : ∀ p, p ∈ L → ¬ F p.1) (hb : (xss[i.toNat]'(by omega)).length ≤ 1000000) (x : Int) (R : Heap → Prop) (HR : ∀ h', OwX h' F s (xss.set i.toNat (xss[i.toNat]'(by omega) ++ [x])) → Fr F h h' → Vars h' L → R h') : eop Tryz.prog (Instr.buildSlice tIs 1 #[(0, VI x)]) h fun rv h1 => ∃ t : Sl, rv = t.v ∧ Vars h1 L ∧ hcell h1 (s.at i 1) = some si.v ∧ eop Tryz.prog (appS tIs tIs tIs si.v t.v) h1 fun rv2 h2 => ∃ t2 : Sl, rv2 = t2.v ∧ Vars h2 L ∧ InB s i ∧ Writable h2 (s.at i 1) ∧ Vars (hset h2 (s.at i 1) t2.v) L ∧ ∀ h3, h3 = hset h2 (s.at i 1) t2.v → Vars h3 L → R h3 := by
  have Oi : OwX h (fun k => F k ∧ k < h.size) s xss := O.mono fun k hk hk2 => ⟨hk2, hk⟩
  obtain ⟨sj, c1, c2, _⟩ := Oi.inner h0 h1
  have : sj = si := slv_inj (c1.symm.trans c0)
  subst this
  refine eop_lit rIs (fun k => h.size ≤ k) (fun _ h => h) 1 (by omega) [VI x] rfl rfl fun t h9 n9 c9 o9 f9 m9 _ => ⟨t, rfl, hL.of_no f9, hcell_fr c1 f9 (fun h => h), ?_⟩
  have s9 := f9.size
  have O9 := OwR.no Oi f9
  have c2' : OwI h9 F sj (xss[i.toNat]'(by omega)) := (Ow.no c2 f9).mono fun k _ hk => hk.1
  have on := c2'.rd.len
  have tn := o9.rd.len
  simp only [List.length_map, Nat.mul_one, List.length_cons, List.length_nil] at on tn
  refine eop_append rIs c2' (fun k hk => hF k (by omega)) o9.rd (plainVI [x]) (by omega) fun w h10 n10 o10 f10 d10 => ?_
  have g10 : Fr F h9 h10 := f10.mono fun k _ hk => (c2'.foot hk).1
  have V10 : Vars h10 L := (hL.of_no f9).fr g10 hoff
  have o10' : OwI h10 F w (xss[i.toNat]'(by omega) ++ [x]) := by rw [OwI, List.map_append]; exact o10
  obtain ⟨i11, w11, o11, f11⟩ := O9.outer2 h0 h1 (hcell_fr c1 f9 fun h => h) f10 (F' := F) o10' (fun k _ hk => hk.1) fun k hk => (d10 k hk).imp id fun hk2 hk3 => by have := hk3.2; omega
  have g11 : Fr F h10 _ := (O9.ownF f11).mono fun k _ hk => hk.1
  have V11 := V10.fr g11 hoff
  exact ⟨w, rfl, V10, i11, w11, V11, fun h3 e3 V3 => HR h3 (by rw [e3]; exact o11) (by rw [e3]; exact (f9.of_no.trans g10).trans g11) V3⟩
theorem eop_putF {L : List (Nat × List Value)} {F : Nat → Prop} {m : Nat} {h : Heap} {s x : Sl} {xss : List (List Int)} {ys : List Int} (O : OwX h (fun k => F k ∧ k < m) s xss) (X : OwI h (fun k => m ≤ k) x ys) (hF : ∀ k, m ≤ k → F k) (hm : m ≤ h.size) (hL : Vars h L) (hoff : ∀ p, p ∈ L → ¬ F p.1) (hb : xss.length ≤ 1000000) (R : Sl → Heap → Prop) (HR : ∀ t h', OwX h' F t (xss ++ [ys]) → Fr F h h' → Vars h' L → R t h') : eop Tryz.prog (Instr.buildSlice tIss 1 #[(0, x.v)]) h fun rv h1 => ∃ t : Sl, rv = t.v ∧ Vars h1 L ∧ eop Tryz.prog (appS tIss tIss tIss s.v t.v) h1 fun rv2 h2 => ∃ t2 : Sl, rv2 = t2.v ∧ Vars h2 L ∧ R t2 h2 := by
  refine eop_lit rIss (fun k => h.size ≤ k) (fun _ h => h) 1 (by omega) [x.v] rfl rfl fun t h1 n1 c1 o1 f1 m1 _ => ⟨t, rfl, hL.of_no f1, ?_⟩
  have z1 := f1.size
  refine OwR.snoc rIss (OwR.no O f1) (F' := F) (fun k _ hk => hk.1) (fun k hk => hF k (by omega)) ((Ow.no X f1).mono fun k _ hk => hF k hk) (fun k hk hk2 => by have := (X.foot hk).1; have := hk2.2; omega) o1.rd (by omega) fun y h2 o2 f2 => ?_
  have g2 : Fr F h1 h2 := f2.mono fun k _ hk => hk.1
  have V2 : Vars h2 L := (hL.of_no f1).fr g2 hoff
  exact ⟨y, rfl, V2, HR y h2 o2 (f1.of_no.trans g2) V2⟩
theorem k_drplace {a n b : Nat} {h : Heap} {c : Sl} {i sd : Int} (V : IsVar h b [c.v, VI i, .int .u64 sd]) (hb : a ≤ b) (D : CurD a n h c i) (hn : n ≤ 10000000) (g : Sl) (K : Value → Heap → Prop) (HK : ∀ (p i' sd' : Int) h', IsVar h' b [c.v, VI i', .int .u64 sd'] → CurD a (n + 4) h' c i' → Fr (In [b]) h h' → K (VI p) h') : callM Tryz.prog 140 #[VP b 0, .agg #[g.v]] h K := by
  have lb := V.lt
  have ub : ∀ {x y z : Heap}, Fr No x y → Fr (In [b]) y z → Fr (In [b]) x z := fun f g => f.of_no.trans g
  refine v140 b c i sd g h K (.cons V (by simp) .nil) ⟨fun _ b2 h1 hb2 f1 hL1 => ?_, fun e b2 h1 hb2 f1 hL1 => ?_⟩
  · have f1 := f1.in_nil
    have z1 := f1.size
    refine eop_lit rIs (fun k => h1.size ≤ k) (fun _ h => h) 4 (by omega) [VI (-1), VI 0, VI (g.n : Int), VI 4611686018427387904] rfl rfl fun w h6 n6 c6 o6 f6 m6 _ => ⟨w, rfl, hL1.of_no f6, ?_⟩
    have r6 : RdI (fun k => h1.size ≤ k) h6 w [-1, 0, (g.n : Int), 4611686018427387904] := o6.rdF
    exact k_among (hL1.of_no f6).tail.head hb ((D.no f1).no f6) (by omega) r6 (by omega) (by simp) _ fun v i7 sd7 h7 hv V7 D7 f7 => ⟨c, i7, sd7, v, rfl, vcur (hL1.of_no f6) 1 rfl f7 V7, HK v i7 sd7 h7 V7 (D7.up (by omega)) (ub (f1.no_trans f6) f7)⟩
  · have f1 := f1.in_nil
    have z1 := f1.size
    refine k_one hL1.tail.head hb (D.no f1) (by omega) 14 _ fun q i2 sd2 h2 V2 D2 f2 => ⟨c, i2, sd2, q, rfl, vcur hL1 1 rfl f2 V2, fun _ => ?_, fun _ => ?_⟩
    · have z2 := f2.size
      have hL2 := vcur hL1 1 rfl f2 V2
      refine eop_lit rIs (fun k => h2.size ≤ k) (fun _ h => h) 4 (by omega) [VI (-1), VI 0, VI (g.n : Int), VI 4611686018427387904] rfl rfl fun w h6 n6 c6 o6 f6 m6 _ => ⟨w, rfl, hL2.of_no f6, ?_⟩
      have r6 : RdI (fun k => h2.size ≤ k) h6 w [-1, 0, (g.n : Int), 4611686018427387904] := o6.rdF
      exact k_among (hL2.of_no f6).tail.head hb (D2.no f6) (by omega) r6 (by omega) (by simp) _ fun v i7 sd7 h7 hv V7 D7 f7 => ⟨c, i7, sd7, v, rfl, vcur (hL2.of_no f6) 1 rfl f7 V7, HK v i7 sd7 h7 V7 (D7.up (by omega)) ((ub f1 f2).trans (ub f6 f7))⟩
    · have hL2 := vcur hL1 1 rfl f2 V2
      exact k_pick hL2.tail.head hb D2 (by omega) _ _ fun v i5 sd5 h5 v0 v1 V5 D5 f5 => ⟨c, i5, sd5, v, rfl, vcur hL2 1 rfl f5 V5, HK v i5 sd5 h5 V5 (D5.up (by omega)) ((ub f1 f2).trans f5)⟩
theorem k_drgraph9 {a n b : Nat} {h : Heap} {c : Sl} {i sd : Int} (V : IsVar h b [c.v, VI i, .int .u64 sd]) (hb : a ≤ b) (D : CurD a n h c i) (hn : n ≤ 10000000) (K : Value → Heap → Prop) (HK : ∀ (t : Sl) (gs : List (List Int)) (i' sd' : Int) h', gs.length ≤ 9 → RdR (fun k => h.size ≤ k) h' t gs → IsVar h' b [c.v, VI i', .int .u64 sd'] → CurD a (n + 200) h' c i' → Fr (In [b]) h h' → K (.agg #[t.v]) h') : callM Tryz.prog 131 #[VP b 0] h K := by
  have lb := V.lt
  refine v131 b c i sd h K (.cons V (by simp) .nil) fun b2 h1 hb2 f1 hL1 => ?_
  have f1 := f1.in_nil
  have z1 := f1.size
  have l2 : b2 < h1.size := hL1.head.lt
  have fin : ∀ (h' : Heap), Fr (fun k => k = b ∨ h.size ≤ k) h h' → Fr (In [b]) h h' := fun h' f => f.mono fun k hk hk2 => by
    rcases hk2 with e | e
    · simp [In, e]
    · omega
  have inb : ∀ {x y : Heap}, Fr (In [b]) x y → Fr (fun k => k = b ∨ h.size ≤ k) x y := fun f => f.mono fun k _ hk => .inl (by simpa [In] using hk)
  refine k_sureGraph hL1.tail.head hb (D.no f1) (by omega) (most := 6) (by omega) (by omega) _ fun t xss i2 sd2 h2 o2 g2 n1 n2 V2 D2 f2 => ⟨c, i2, sd2, t, rfl, vcur hL1 1 rfl f2 V2, fun b3 h4 hb3 f4 hL4 => ?_⟩
  have f4 := f4.in_nil
  have z2 := f2.size
  have z4 := f4.size
  have l3 : b3 < h4.size := hL4.head.lt
  have tn := OwR.len o2
  generalize hF : (fun k => (h1.size ≤ k ∧ k < h2.size) ∨ h4.size ≤ k) = F
  have F1 : ∀ k, F k → h1.size ≤ k := fun k hk => by rw [← hF] at hk; rcases hk with a | a <;> omega
  have F2 : ∀ k, h4.size ≤ k → F k := fun k hk => by rw [← hF]; exact .inr hk
  have F3 : ¬ F b3 := fun hk => by rw [← hF] at hk; rcases hk with a | a <;> omega
  have o4 : OwX h4 F t xss := (OwR.no o2 f4).mono fun k hk hk2 => by rw [← hF]; exact .inl hk2
  have f04 : Fr (fun k => k = b ∨ h.size ≤ k) h h4 := (f1.of_no.trans (inb f2)).trans f4.of_no
  have gb : ∀ {X Y : Heap} {w : Sl} {zs : List (List Int)}, OwX X F w zs → Fr (In [b]) X Y → OwX Y F w zs := fun O f => OwR.fr O f fun k hk hk2 hk3 => by simp [In] at hk3; have := F1 _ hk2; omega
  have fT : ∀ {x y : Heap}, Fr F x y → Fr (fun k => k = b ∨ h.size ≤ k) x y := fun f => f.mono fun k _ hk => .inr (by have := F1 _ hk; omega)
  have hoff : ∀ (A B C : List Value) (q : Nat × List Value), q ∈ [(b3, A), (b2, B), (b, C)] → ¬ F q.1 := fun A B C q hq => by
    simp only [List.mem_cons, List.not_mem_nil, or_false] at hq
    rcases hq with rfl | rfl | rfl
    · exact F3
    · exact fun hk => by have := F1 _ hk; omega
    · exact fun hk => by have := F1 _ hk; omega
  have out : ∀ (w : Sl) (zs : List (List Int)) (i' sd' : Int) (X Y : Heap), OwX X F w zs → zs.length ≤ 9 → CurD a (n + 200) X c i' → Fr (fun k => k = b ∨ h.size ≤ k) h X → Fr (In [b2]) X Y → IsVar Y b [c.v, VI i', .int .u64 sd'] → K (.agg #[w.v]) Y := fun w zs i' sd' X Y O zl DD ff f VV => by
    have OY : OwX Y F w zs := OwR.fr O f fun k hk hk2 hk3 => by simp [In] at hk3; subst hk3; have := F1 _ hk2; omega
    exact HK w zs i' sd' Y zl ((OwR.rd OY).mono fun k hk => by have := F1 _ hk.1; omega) VV (DD.fr f fun k hk hk2 => by simp [In] at hk2; omega) (fin _ (ff.trans (f.mono fun k _ hk => .inr (by simp [In] at hk; omega))))
  refine k_pick hL4.tail.tail.head hb (D2.no f4) (by omega) 16 _ fun s i5 sd5 h5 s0 s1 V5 D5 f5 => ⟨c, i5, sd5, s, rfl, vcur hL4 2 rfl f5 V5, fun _ => ?_, fun _ => ⟨fun _ => ?_, fun _ => ⟨fun _ => ?_, fun _ => ⟨fun _ h24 f24 hL24 => ?_, fun _ h25 f25 hL25 => ?_⟩⟩⟩⟩
  · have o5 := gb o4 f5
    have z5 := f5.size
    have hL5 : Vars h5 [(b3, [t.v]), (b2, [nilSl.v]), (b, [c.v, VI i5, .int .u64 sd5])] := vcur hL4 2 rfl f5 V5
    have hp : (0 : Int) < (xss.length : Int) := by omega
    obtain ⟨si, c1, c2, _⟩ := OwR.inner o5 (Int.le_refl 0) hp
    have r5 := OwR.rd o5
    refine ⟨r5.inb (Int.le_refl 0) hp, si, c1, ?_⟩
    refine eop_lit rIs (fun k => h5.size ≤ k) (fun _ h => h) 3 (by omega) [VI (-1), VI (t.n : Int), VI 4611686018427387904] rfl rfl fun w h6 n6 c6 o6 f6 m6 _ => ⟨w, rfl, hL5.of_no f6, hcell_fr c1 f6 (fun h => h), ?_⟩
    have z6 := f6.size
    have r6 : RdI (fun k => h5.size ≤ k) h6 w [-1, (t.n : Int), 4611686018427387904] := o6.rdF
    refine k_among (hL5.of_no f6).tail.tail.head hb (D5.no f6) (by omega) r6 (by omega) (by simp) _ fun v i7 sd7 h7 hv V7 D7 f7 => ⟨c, i7, sd7, v, rfl, vcur (hL5.of_no f6) 2 rfl f7 V7, ?_⟩
    have z7 := f7.size
    have hL7 : Vars h7 [(b3, [t.v]), (b2, [nilSl.v]), (b, [c.v, VI i7, .int .u64 sd7])] := vcur (hL5.of_no f6) 2 rfl f7 V7
    have c7 : hcell h7 (t.at 0 1) = some si.v := cell_keep (r5.no f6) (Int.le_refl 0) hp f7 (fun k hk hk2 => by simp [In] at hk2; have := F1 _ hk.1; omega) (hcell_fr c1 f6 fun h => h)
    have g0 := (g2 _ (List.getElem_mem (show (0 : Int).toNat < xss.length by omega))).1
    refine ⟨c7, row_putF (gb (OwR.no o5 f6) f7) (fun k hk => F2 k (by omega)) (Int.le_refl 0) hp c7 hL7 (fun q hq => hoff _ _ _ q hq) (by omega) v _ fun h10 o10 f10 V10 h11 f11 hL11 => ?_⟩
    exact out t _ i7 sd7 h10 h11 o10 (by simp; omega) ((D7.fr f10 fun k hk hk2 => by have := F1 _ hk2; omega).up (by omega)) ((((f04.trans (inb f5)).trans f6.of_no).trans (inb f7)).trans (fT f10)) f11 hL11.tail.tail.head
  · have o5 := gb o4 f5
    have z5 := f5.size
    have hL5 : Vars h5 [(b3, [t.v]), (b2, [nilSl.v]), (b, [c.v, VI i5, .int .u64 sd5])] := vcur hL4 2 rfl f5 V5
    have hp : (0 : Int) < (xss.length : Int) := by omega
    refine k_pick hL5.tail.tail.head hb D5 (by omega) 2 _ fun y i6 sd6 h6 y0 y1 V6 D6 f6 => ⟨c, i6, sd6, y, rfl, vcur hL5 2 rfl f6 V6, ?_⟩
    have y1 := y1 (by omega)
    have z6 := f6.size
    have hL6 : Vars h6 [(b3, [t.v]), (b2, [nilSl.v]), (b, [c.v, VI i6, .int .u64 sd6])] := vcur hL5 2 rfl f6 V6
    rw [w64_eq (5 + y) (by omega) (by omega)]
    have ey : 5 + y = (((5 + y).toNat : Nat) : Int) := by omega
    rw [ey]
    refine eop_make rIs (fun k => h6.size ≤ k) (fun _ h => h) .i64 .i64 (5 + y).toNat (5 + y).toNat (Nat.le_refl _) (by omega) fun w h7 n7 c7 o7 f7 m7 _ => ⟨w, rfl, hL6.of_no f7, ?_⟩
    have z7 := f7.size
    have o7' : OwI h7 (fun k => h6.size ≤ k) w (List.replicate (5 + y).toNat 0) := by
      have e : (List.replicate (5 + y).toNat [VI 0]).flatten = (List.replicate (5 + y).toNat (0 : Int)).map VI := by simp [List.flatten_replicate_singleton]
      rw [e] at o7; exact o7
    have o6i : OwX h6 (fun k => F k ∧ k < h6.size) t xss := (gb o5 f6).mono fun k hk hk2 => ⟨hk2, hk⟩
    exact row_set (m := h6.size) (OwR.no o6i f7) o7' (fun k hk => F2 k (by omega)) (Int.le_refl 0) hp (hL6.of_no f7) (fun q hq => hoff _ _ _ q hq) _ fun h10 o10 f10 V10 h11 f11 hL11 => out t _ i6 sd6 h10 h11 o10 (by simp; omega) (((D6.no f7).fr f10 fun k hk hk2 => by have := F1 _ hk2; omega).up (by omega)) ((((f04.trans (inb f5)).trans (inb f6)).trans f7.of_no).trans (fT f10)) f11 hL11.tail.tail.head
  · have o5 := gb o4 f5
    have z5 := f5.size
    refine ⟨fun m x d i' sd' h' => d = c ∧ CurD a (n + 104 + 4 * (9 - m)) h' c i' ∧ m ≤ 9 ∧ (∃ zs, OwX h' F x zs ∧ zs.length + m = 9) ∧ Fr (fun k => k = b ∨ h.size ≤ k) h h' ∧ h4.size ≤ h'.size, ⟨9 - xss.length, rfl, D5.up (by omega), by omega, ⟨xss, o5, by omega⟩, f04.trans (inb f5), by omega⟩, ?_⟩
    rintro m x d i16 sd16 h16 ⟨rfl, D16, m9, ⟨zs, o16, e16⟩, f16, z16⟩ hL16
    have xn := OwR.len o16
    refine k_pick hL16.tail.tail.head hb D16 (by omega) 2 _ fun y i17 sd17 h17 y0 y1 V17 D17 f17 => ⟨d, i17, sd17, y, rfl, vcur hL16 2 rfl f17 V17, fun e => ?_, fun e h22 f22 hL22 => ?_⟩
    · have y1 := y1 (by omega)
      have z17 := f17.size
      rw [w64_eq (8 + y) (by omega) (by omega)] at e
      simp only [decide_eq_true_eq] at e
      have hL17 : Vars h17 [(b3, [x.v]), (b2, [nilSl.v]), (b, [d.v, VI i17, .int .u64 sd17])] := vcur hL16 2 rfl f17 V17
      refine eop_lit rIs (fun k => h17.size ≤ k) (fun _ h => h) 1 (by omega) [VI 0] rfl rfl fun w h18 n18 c18 o18 f18 m18 _ => ⟨w, rfl, hL17.of_no f18, ?_⟩
      have z18 := f18.size
      have o17i : OwX h17 (fun k => F k ∧ k < h17.size) x zs := (gb o16 f17).mono fun k hk hk2 => ⟨hk2, hk⟩
      refine eop_putF (m := h17.size) (xss := zs) (ys := [0]) (OwR.no o17i f18) o18 (fun k hk => F2 k (by omega)) z18 (hL17.of_no f18) (fun q hq => hoff _ _ _ q hq) (by omega) _ fun u h20 o20 f20 V20 h21 f21 hL21 => ?_
      have z20 := f20.size
      have z21 := f21.size
      have o21 : OwX h21 F u (zs ++ [[0]]) := OwR.fr o20 f21 fun k hk hk2 hk3 => by simp [In] at hk3; subst hk3; exact F3 hk2
      refine ⟨m - 1, by omega, rfl, ?_, by omega, ⟨_, o21, by simp; omega⟩, ?_, by omega⟩
      · exact (((D17.no f18).fr f20 fun k hk hk2 => by have := F1 _ hk2; omega).fr f21 fun k hk hk2 => by simp [In] at hk2; omega).up (by omega)
      · exact (((f16.trans (inb f17)).trans f18.of_no).trans (fT f20)).trans (f21.mono fun k _ hk => .inr (by simp [In] at hk; omega))
    · exact out x zs i17 sd17 h17 h22 (gb o16 f17) (by omega) (D17.up (by omega)) (f16.trans (inb f17)) f22 hL22.tail.tail.head
  · have g24 : Fr (fun k => k = b ∨ h.size ≤ k) h5 h24 := f24.mono fun k _ hk => .inr (by simp [In] at hk; omega)
    exact HK nilSl [] i5 sd5 h24 (by simp) ⟨[], rfl, RdV.nil _ _ _, fun i h1 => by simp at h1⟩ hL24.tail.tail.head ((D5.fr f24 fun k hk hk2 => by simp [In] at hk2; omega).up (by omega)) (fin _ ((f04.trans (inb f5)).trans g24))
  · exact out t xss i5 sd5 h5 h25 (gb o4 f5) (by omega) (D5.up (by omega)) (f04.trans (inb f5)) f25 hL25.tail.tail.head
theorem k_big (s t : Sl) (h : Heap) (K : Value → Heap → Prop) (HK : ∀ b, K (VB b) h) : callM Tryz.prog 5 #[s.v, t.v] h K :=
  v5 s t h K ⟨fun _ => HK true, fun _ => HK _⟩
theorem k_wSame {S S' : Nat → Prop} {h : Heap} {a b : Sl} {xs ys : List Int} (H : RdI S h a xs) (H' : RdI S' h b ys) (K : Value → Heap → Prop) (HK : K (VB (decide (xs = ys))) h) : callM Tryz.prog 16 #[a.v, b.v] h K := by
  refine v16 a b h K ⟨fun e => ?_, fun e => ?_⟩
  · have e1 := not_t e
    rw [H.len, H'.len] at e1
    have : ¬ xs = ys := fun e2 => by subst e2; simp at e1
    rw [decide_eq_false this] at HK
    exact HK
  · have e1 := not_f e
    rw [H.len, H'.len] at e1
    have hl : xs.length = ys.length := by simp at e1; omega
    refine ⟨fun n i h' => h' = h ∧ 0 ≤ i ∧ i + n = (xs.length : Int) ∧ decide (xs = ys) = decide (xs.drop i.toNat = ys.drop i.toNat), ⟨xs.length, rfl, by omega, by omega, by simp⟩, ?_⟩
    rintro n i hh ⟨rfl, h0, h1, h2⟩ hL
    refine ⟨fun e => ?_, fun e => ?_⟩
    · have hi := H.lt e
      have hi' : i < (ys.length : Int) := by omega
      refine ⟨H.inb h0 hi, _, H.get h0 hi, H'.inb h0 hi', _, H'.get h0 hi', fun e => ?_, fun e => ?_⟩
      · rw [drop_cons xs h0 hi, drop_cons ys h0 hi'] at h2
        have e3 := not_t e
        simp only [decide_eq_false_iff_not] at e3
        rw [h2, decide_eq_false (fun e4 => e3 (List.cons.inj e4).1)] at HK
        exact HK
      · rw [drop_cons xs h0 hi, drop_cons ys h0 hi'] at h2
        have e3 := not_f e
        simp only [decide_eq_true_eq] at e3
        rw [H.succ h0 hi]
        refine ⟨n - 1, by omega, rfl, by omega, by omega, h2.trans ?_⟩
        rw [e3]
        simp
    · have hi := H.ge e
      rw [List.drop_of_length_le (by omega), List.drop_of_length_le (by omega)] at h2
      rw [h2] at HK
      exact HK
theorem k_wRows {S S' : Nat → Prop} {h : Heap} {a b : Sl} {xs ys : List (List Int)} (H : RdR S h a xs) (H' : RdR S' h b ys) (he : xs = ys) (K : Value → Heap → Prop) (HK : K (VB true) h) : callM Tryz.prog 61 #[a.v, b.v] h K := by
  subst he
  refine v61 a b h K ⟨fun e => ?_, fun e => ?_⟩
  · have e1 := not_t e
    rw [H.len, H'.len] at e1
    simp at e1
  · refine ⟨fun n i h' => h = h' ∧ 0 ≤ i ∧ i + n = (xs.length : Int), ⟨xs.length, rfl, by omega, by omega⟩, ?_⟩
    rintro n i hh ⟨rfl, h0, h1⟩ hL
    refine ⟨fun e => ?_, fun e => HK⟩
    have hi := H.lt e
    obtain ⟨si, c1, r1⟩ := H.get h0 hi
    obtain ⟨sj, c2, r2⟩ := H'.get h0 hi
    refine ⟨H.inb h0 hi, si, c1, H'.inb h0 hi, sj, c2, k_wSame r1 r2 _ ⟨_, rfl, .nil, fun e => by simp at e, fun _ => ?_⟩⟩
    rw [H.succ h0 hi]
    exact ⟨n - 1, by omega, rfl, by omega, by omega⟩
def inA (m : Nat) (xs : List Int) : Prop := ∀ y, y ∈ xs → 0 ≤ y ∧ y < (m : Int)
theorem inA.set {m : Nat} {xs : List Int} (H : inA m xs) (i : Nat) {v : Int} (h0 : 0 ≤ v) (h1 : v < (m : Int)) : inA m (xs.set i v) := fun y hy => by
  rcases List.mem_or_eq_of_mem_set hy with h | h
  · exact H y h
  · subst h; exact ⟨h0, h1⟩
theorem inA.get {m : Nat} {xs : List Int} (H : inA m xs) {i : Nat} (hi : i < xs.length) : 0 ≤ xs[i] ∧ xs[i] < (m : Int) := H _ (List.getElem_mem hi)
theorem k_shufB {a n b : Nat} {h : Heap} {c : Sl} {i sd : Int} (V : IsVar h b [c.v, VI i, .int .u64 sd]) (hb : a ≤ b) (D : CurD a n h c i) (hn : n ≤ 1000000000) {m : Nat} (hm : m ≤ 100) (K : Value → Heap → Prop) (HK : ∀ (t : Sl) (xs : List Int) (i' sd' : Int) h', OwI h' (fun k => h.size ≤ k) t xs → xs.length = m → inA m xs → IsVar h' b [c.v, VI i', .int .u64 sd'] → CurD a (n + 200) h' c i' → Fr (In [b]) h h' → K t.v h') : callM Tryz.prog 66 #[VP b 0, VI (m : Int)] h K := by
  have lb := V.lt
  refine v66 b c i sd m h K (.cons V (by simp) .nil) ⟨fun n x p h' => 0 ≤ p ∧ p + n = (m : Int) ∧ (∃ xs, OwI h' (fun k => h.size ≤ k) x xs ∧ xs.length = p.toNat ∧ inA m xs) ∧ Fr No h h', ⟨m, by omega, by omega, ⟨[], Ow.nil _ _ _ _, rfl, fun y hy => by cases hy⟩, Fr.refl _ _⟩, ?_⟩
  rintro n1 x p h1 ⟨p0, p1, ⟨xs, o1, e1, A1⟩, f1⟩ hL1
  have z1 := f1.size
  refine ⟨fun e => ?_, fun e => ?_⟩
  · simp only [decide_eq_true_eq] at e
    refine eop_putI o1 (fun k hk => by omega) hL1 (fun q hq hk => ?_) (by omega) (fun t2 h6 => ∃ m : Nat, m < n1 ∧ _) fun y h3 o3 f3 V3 => ?_
    · simp only [List.mem_cons, List.not_mem_nil, or_false] at hq
      subst hq
      simp only at hk
      omega
    · rw [w64_eq _ (by omega) (by omega)]
      refine ⟨n1 - 1, by omega, by omega, by omega, ⟨_, o3, by simp; omega, fun z hz => ?_⟩, f1.fresh f3 fun k hk => by omega⟩
      rcases List.mem_append.mp hz with hz | hz
      · exact A1 z hz
      · simp only [List.mem_cons, List.not_mem_nil, or_false] at hz
        subst hz
        omega
  simp only [decide_eq_false_iff_not] at e
  have xn : x.n = xs.length := RdI.len o1.rdF
  refine ⟨fun n2 j c' i' sd' h' => 0 ≤ j ∧ j + n2 = (m : Int) ∧ c' = c ∧ CurD a (n + 2 * j.toNat) h' c i' ∧ (∃ ys, OwI h' (fun k => h.size ≤ k) x ys ∧ ys.length = m ∧ inA m ys) ∧ Fr (In [b]) h h', ⟨m, by omega, by omega, rfl, (D.no f1).up (by omega), ⟨xs, o1, by omega, A1⟩, f1.of_no⟩, ?_⟩
  rintro n2 j c' i4 sd4 h4 ⟨j0, j1, rfl, D4, ⟨ys, o4, e4, A4⟩, f4⟩ hL4
  refine ⟨fun e5 => ?_, fun e5 => ?_⟩
  · simp only [decide_eq_true_eq] at e5
    refine k_pick hL4.head hb D4 (by omega) m _ fun y i5 sd5 h5 y0 y1 V5 D5 f5 => ⟨c', i5, sd5, y, rfl, .cons V5 (by simp) .nil, ?_⟩
    have y1 := y1 (by omega)
    have o5 : OwI h5 (fun k => h.size ≤ k) x ys := Ow.fr o4 f5 fun k hk hk2 => by have := (o4.foot hk).1; simp [In] at hk2; omega
    have R5 : RdI (fun k => h.size ≤ k) h5 x ys := o5.rdF
    have by1 := A4.get (show y.toNat < ys.length by omega)
    have by2 := A4.get (show j.toNat < ys.length by omega)
    obtain ⟨w1, w2, w3⟩ := o5.store1 j0 (by omega) (VI (ys[y.toNat]'(by omega)))
    rw [← List.map_set] at w2
    obtain ⟨u1, u2, u3⟩ := Ow.store1 w2 y0 (by omega) (VI (ys[j.toNat]'(by omega)))
    rw [← List.map_set] at u2
    have w3' : Fr (fun k => h.size ≤ k) h5 _ := w3.mono fun k _ hk => (o5.foot hk).1
    have u3' : Fr (fun k => h.size ≤ k) _ _ := u3.mono fun k _ hk => (w2.foot hk).1
    have off : ∀ q, q ∈ [(b, [c'.v, VI i5, Value.int .u64 sd5])] → ¬ (h.size ≤ q.1) := fun q hq => by
      simp only [List.mem_cons, List.not_mem_nil, or_false] at hq
      subst hq
      simp only
      omega
    have hL5 : Vars h5 [(b, [c'.v, VI i5, Value.int .u64 sd5])] := .cons V5 (by simp) .nil
    refine ⟨R5.inb j0 (by omega), _, R5.get j0 (by omega), R5.inb y0 (by omega), _, R5.get y0 (by omega), R5.inb j0 (by omega), w1, hL5.fr w3' off, ?_⟩
    rintro h6 rfl hL6
    refine ⟨R5.inb y0 (by omega), u1, hL6.fr u3' off, ?_⟩
    rintro h7 rfl hL7
    rw [w64_eq _ (by omega) (by omega)]
    have zz := f4.size
    have z5 := f5.size
    refine ⟨n2 - 1, by omega, by omega, by omega, rfl, (((D5.fr w3' fun k hk hk2 => by omega).fr u3' fun k hk hk2 => by omega).up (by omega)), ⟨_, u2, by simp [e4], (A4.set _ by1.1 by1.2).set _ by2.1 by2.2⟩, ?_⟩
    exact (f4.trans f5).fresh2 (w3'.trans u3') fun k hk => hk
  · simp only [decide_eq_false_iff_not] at e5
    exact HK x ys i4 sd4 h4 o4 e4 A4 hL4.head (D4.up (by omega)) f4
theorem row_put2 {L : List (Nat × List Value)} {F : Nat → Prop} {h : Heap} {s si : Sl} {xss : List (List Int)} {i : Int} (A : Heap → Prop) (hA : ∀ h', Fr F h h' → A h') (O : OwX h F s xss) (hF : ∀ k, h.size ≤ k → F k) (h0 : 0 ≤ i) (h1 : i < (xss.length : Int)) (c0 : hcell h (s.at i 1) = some si.v) (hL : Vars h L) (hoff : ∀ p, p ∈ L → ¬ F p.1) (hb : (xss[i.toNat]'(by omega)).length ≤ 1000000) (x : Int) (R : Heap → Prop) (HR : ∀ h', OwX h' F s (xss.set i.toNat (xss[i.toNat]'(by omega) ++ [x])) → Fr F h h' → Vars h' L → R h') : eop Tryz.prog (Instr.buildSlice tIs 1 #[(0, VI x)]) h fun rv h1 => ∃ t : Sl, rv = t.v ∧ Vars h1 L ∧ hcell h1 (s.at i 1) = some si.v ∧ A h1 ∧ A h1 ∧ eop Tryz.prog (appS tIs tIs tIs si.v t.v) h1 fun rv2 h2 => ∃ t2 : Sl, rv2 = t2.v ∧ Vars h2 L ∧ A h2 ∧ A h2 ∧ InB s i ∧ Writable h2 (s.at i 1) ∧ Vars (hset h2 (s.at i 1) t2.v) L ∧ ∀ h3, h3 = hset h2 (s.at i 1) t2.v → Vars h3 L → R h3 := by
  have Oi : OwX h (fun k => F k ∧ k < h.size) s xss := O.mono fun k hk hk2 => ⟨hk2, hk⟩
  obtain ⟨sj, c1, c2, _⟩ := Oi.inner h0 h1
  have : sj = si := slv_inj (c1.symm.trans c0)
  subst this
  refine eop_lit rIs (fun k => h.size ≤ k) (fun _ h => h) 1 (by omega) [VI x] rfl rfl fun t h9 n9 c9 o9 f9 m9 _ => ⟨t, rfl, hL.of_no f9, hcell_fr c1 f9 (fun h => h), hA _ f9.of_no, hA _ f9.of_no, ?_⟩
  have s9 := f9.size
  have O9 := OwR.no Oi f9
  have c2' : OwI h9 F sj (xss[i.toNat]'(by omega)) := (Ow.no c2 f9).mono fun k _ hk => hk.1
  have on := c2'.rd.len
  have tn := o9.rd.len
  simp only [List.length_map, Nat.mul_one, List.length_cons, List.length_nil] at on tn
  refine eop_append rIs c2' (fun k hk => hF k (by omega)) o9.rd (plainVI [x]) (by omega) fun w h10 n10 o10 f10 d10 => ?_
  have g10 : Fr F h9 h10 := f10.mono fun k _ hk => (c2'.foot hk).1
  have V10 : Vars h10 L := (hL.of_no f9).fr g10 hoff
  have o10' : OwI h10 F w (xss[i.toNat]'(by omega) ++ [x]) := by rw [OwI, List.map_append]; exact o10
  obtain ⟨i11, w11, o11, f11⟩ := O9.outer2 h0 h1 (hcell_fr c1 f9 fun h => h) f10 (F' := F) o10' (fun k _ hk => hk.1) fun k hk => (d10 k hk).imp id fun hk2 hk3 => by have := hk3.2; omega
  have g11 : Fr F h10 _ := (O9.ownF f11).mono fun k _ hk => hk.1
  have V11 := V10.fr g11 hoff
  have a10 := hA _ (f9.of_no.trans g10)
  exact ⟨w, rfl, V10, a10, a10, i11, w11, V11, fun h3 e3 V3 => HR h3 (by rw [e3]; exact o11) (by rw [e3]; exact (f9.of_no.trans g10).trans g11) V3⟩
theorem RdR.tl {S : Nat → Prop} {h : Heap} {s : Sl} {xss : List (List Int)} (H : RdR S h s xss) (h1 : 1 ≤ xss.length) : RdR S h (s.cut 1 1 s.n s.c) xss.tail := by
  obtain ⟨ss, e, V, R⟩ := H.out
  have sn := V.len
  simp only [List.length_map, Nat.mul_one] at sn
  have hc := RdV.cut V (l := 1) (m := s.n) (by omega) (Nat.le_refl _)
  have e2 : ((ss.map Sl.v).drop (1 * 1)).take ((s.n - 1) * 1) = ss.tail.map Sl.v := by
    cases ss with
    | nil => simp
    | cons x ss =>
      simp only [List.length_cons] at sn
      rw [show s.n - 1 = ss.length by omega]; simp [List.take_of_length_le]
  rw [e2] at hc
  refine ⟨ss.tail, by simp [e], hc, fun i a b => ?_⟩
  have := R (i + 1) (by simp at a; omega) (by simp at b; omega)
  simpa using this
theorem cycL_rows (n : Int) (both : Bool) : ∀ p r, r ∈ cycL' n both p → r.length ≤ 2
  | 0, r, h => by cases h
  | p + 1, r, h => by
    rw [cycL', List.mem_append] at h
    rcases h with h | h
    · exact cycL_rows n both p r h
    · simp only [List.mem_cons, List.not_mem_nil, or_false] at h
      subst h
      unfold cycR
      cases both <;> simp
theorem rows_set {xss : List (List Int)} {B : Nat} (H : ∀ r, r ∈ xss → r.length ≤ B) (i : Nat) (hi : i < xss.length) (x : Int) : ∀ r, r ∈ xss.set i (xss[i] ++ [x]) → r.length ≤ B + 1 := fun r hr => by
  rcases List.mem_or_eq_of_mem_set hr with h | h
  · exact Nat.le_succ_of_le (H r h)
  · subst h
    have := H _ (List.getElem_mem hi)
    simp
    omega
theorem k_drbalanced {a n b : Nat} {h : Heap} {c : Sl} {i sd : Int} (V : IsVar h b [c.v, VI i, .int .u64 sd]) (hb : a ≤ b) (D : CurD a n h c i) (hn : n ≤ 1000000) (K : Value → Heap → Prop) (HK : ∀ (t : Sl) (gs : List (List Int)) (i' sd' : Int) h', gs.length ≤ 9 → RdR (fun k => h.size ≤ k) h' t gs → IsVar h' b [c.v, VI i', .int .u64 sd'] → CurD a (n + 500) h' c i' → Fr (In [b]) h h' → K (.agg #[t.v]) h') : callM Tryz.prog 139 #[VP b 0] h K := by
  have lb := V.lt
  refine v139 b c i sd h K (.cons V (by simp) .nil) fun b2 h1 hb2 f1 hL1 => ?_
  have f1 := f1.in_nil
  have z1 := f1.size
  have l2 : b2 < h1.size := hL1.head.lt
  have fin : ∀ (h' : Heap), Fr (fun k => k = b ∨ h.size ≤ k) h h' → Fr (In [b]) h h' := fun h' f => f.mono fun k hk hk2 => by
    rcases hk2 with e | e
    · simp [In, e]
    · omega
  have inb : ∀ {x y : Heap}, Fr (In [b]) x y → Fr (fun k => k = b ∨ h.size ≤ k) x y := fun f => f.mono fun k _ hk => .inl (by simpa [In] using hk)
  refine k_one hL1.tail.head hb (D.no f1) (by omega) 6 _ fun q i2 sd2 h2 V2 D2 f2 => ⟨c, i2, sd2, q, rfl, vcur hL1 1 rfl f2 V2, fun _ => ?_, fun _ => ?_⟩
  · have hL2 := vcur hL1 1 rfl f2 V2
    have z2 := f2.size
    refine k_drgraph9 hL2.tail.head hb D2 (by omega) _ fun t gs i3 sd3 h3 gl G3 V3 D3 f3 => ⟨c, i3, sd3, t, rfl, vcur hL2 1 rfl f3 V3, fun h4 f4 hL4 => ?_⟩
    have g4 : Fr (fun k => k = b ∨ h.size ≤ k) h3 h4 := f4.mono fun k _ hk => .inr (by simp [In] at hk; omega)
    exact HK t gs i3 sd3 h4 gl ((G3.fr f4 fun k hk hk2 => by simp [In] at hk2; omega).mono fun k hk => by omega) hL4.tail.head ((D3.fr f4 fun k hk hk2 => by simp [In] at hk2; omega).up (by omega)) (fin _ (((f1.of_no.trans (inb f2)).trans (inb f3)).trans g4))
  have hL2 := vcur hL1 1 rfl f2 V2
  have z2 := f2.size
  refine k_pick hL2.tail.head hb D2 (by omega) 5 _ fun y i5 sd5 h5 y0 y1 V5 D5 f5 => ⟨c, i5, sd5, y, rfl, vcur hL2 1 rfl f5 V5, ?_⟩
  have y1 := y1 (by omega)
  have hL5 := vcur hL2 1 rfl f5 V5
  have z5 := f5.size
  refine k_one hL5.tail.head hb D5 (by omega) 2 _ fun q2 i6 sd6 h6 V6 D6 f6 => ⟨c, i6, sd6, q2, rfl, vcur hL5 1 rfl f6 V6, ?_⟩
  have hL6 := vcur hL5 1 rfl f6 V6
  have z6 := f6.size
  rw [w64_eq (1 + y) (by omega) (by omega)]
  obtain ⟨N, eN⟩ : ∃ N : Nat, 1 + y = (N : Int) := ⟨(1 + y).toNat, by omega⟩
  rw [eN]
  refine k_grCycle N (by omega) q2 _ fun t h7 o7 f7 => ⟨t, rfl, hL6.of_no f7, fun b3 h9 hb3 f9 hL9 => ?_⟩
  have f9 := f9.in_nil
  have z7 := f7.size
  have z9 := f9.size
  have l3 : b3 < h9.size := hL9.head.lt
  generalize hF : (fun k => (h6.size ≤ k ∧ k < h7.size) ∨ h9.size ≤ k) = F
  have F1 : ∀ k, F k → h6.size ≤ k := fun k hk => by rw [← hF] at hk; rcases hk with a | a <;> omega
  have F2 : ∀ k, h9.size ≤ k → F k := fun k hk => by rw [← hF]; exact .inr hk
  have F3 : ¬ F b3 := fun hk => by rw [← hF] at hk; rcases hk with a | a <;> omega
  have o9 : OwX h9 F t (cycP N q2) := (OwR.no o7 f9).mono fun k hk hk2 => by rw [← hF]; exact .inl hk2
  have gb : ∀ {X Y : Heap} {w : Sl} {zs : List (List Int)}, OwX X F w zs → Fr (In [b]) X Y → OwX Y F w zs := fun O f => OwR.fr O f fun k hk hk2 hk3 => by simp [In] at hk3; have := F1 _ hk2; omega
  have fT : ∀ {x y : Heap}, Fr F x y → Fr (fun k => k = b ∨ h.size ≤ k) x y := fun f => f.mono fun k _ hk => .inr (by have := F1 _ hk; omega)
  have f09 : Fr (fun k => k = b ∨ h.size ≤ k) h h9 := (((f1.of_no.trans (inb f2)).trans (inb f5)).trans (inb f6)).trans (f7.of_no.trans f9.of_no)
  refine k_pick hL9.tail.tail.head hb ((D6.no f7).no f9) (by omega) 3 _ fun k i10 sd10 h10 k0 k1 V10 D10 f10 => ⟨c, i10, sd10, k, rfl, vcur hL9 2 rfl f10 V10, ?_⟩
  have k1 := k1 (by omega)
  have z10 := f10.size
  refine ⟨fun m k d i' sd' h' => d = c ∧ m = k.toNat ∧ 0 ≤ k ∧ k ≤ 2 ∧ CurD a (n + 50 + 210 * (2 - k).toNat) h' c i' ∧ (∃ xss, OwX h' F t xss ∧ xss.length = N ∧ ∀ r, r ∈ xss → r.length ≤ 2 + 5 * (2 - k).toNat) ∧ Fr (fun k => k = b ∨ h.size ≤ k) h h' ∧ h9.size ≤ h'.size, ⟨k.toNat, rfl, rfl, k0, by omega, D10.up (by omega), ⟨_, gb o9 f10, cycL_length _ _ _, fun r hr => by have := cycL_rows _ _ _ r hr; omega⟩, f09.trans (inb f10), by omega⟩, ?_⟩
  rintro m k d i11 sd11 h11 ⟨rfl, em, kk0, k2, D11, ⟨xss, o11, e11, r11⟩, f11, z11⟩ hL11
  refine ⟨fun e => ?_, fun e h18 f18 hL18 => ?_⟩
  · simp only [decide_eq_true_eq] at e
    refine k_shufB hL11.tail.tail.head hb D11 (by omega) (m := N) (by omega) _ fun w os i12 sd12 h12 O12 e12 A12 V12 D12 f12 => ⟨d, i12, sd12, w, rfl, vcur hL11 2 rfl f12 V12, ?_⟩
    have hL12 := vcur hL11 2 rfl f12 V12
    have z12 := f12.size
    refine k_pick hL12.tail.tail.head hb D12 (by omega) N _ fun y3 i13 sd13 h13 u0 u1 V13 D13 f13 => ⟨d, i13, sd13, y3, rfl, vcur hL12 2 rfl f13 V13, ?_⟩
    have u1 := u1 (by omega)
    have hL13 := vcur hL12 2 rfl f13 V13
    have z13 := f13.size
    have W13 : RdI (fun k => h11.size ≤ k ∧ k < h13.size) h13 w os := by
      have : OwI h13 (fun k => h11.size ≤ k) w os := Ow.fr O12 f13 fun k hk hk2 => by have := (O12.foot hk).1; simp [In] at hk2; omega
      exact (this.mono (F' := fun k => h11.size ≤ k ∧ k < h13.size) fun k hk hk2 => ⟨hk2, (this.foot hk).2⟩).rdF
    have o13 : OwX h13 F t xss := gb (gb o11 f12) f13
    have sep : ∀ k, F k ∧ k < h11.size ∨ h13.size ≤ k → F k := fun k hk => by
      rcases hk with hk | hk
      · exact hk.1
      · exact F2 _ (by omega)
    have o13' : OwX h13 (fun k => F k ∧ k < h11.size ∨ h13.size ≤ k) t xss := by
      have q1 : OwX h11 (fun k => F k ∧ k < h11.size) t xss := o11.mono fun k hk hk2 => ⟨hk2, hk⟩
      have q2 : OwX h12 (fun k => F k ∧ k < h11.size) t xss := OwR.fr q1 f12 fun k hk hk2 hk3 => by simp [In] at hk3; have := F1 _ hk2.1; omega
      have q3 : OwX h13 (fun k => F k ∧ k < h11.size) t xss := OwR.fr q2 f13 fun k hk hk2 hk3 => by simp [In] at hk3; have := F1 _ hk2.1; omega
      exact q3.mono fun k hk hk2 => .inl hk2
    rw [w64_eq (1 + y3) (by omega) (by omega)]
    refine ⟨fun m2 j h' => 0 ≤ j ∧ j ≤ 1 + y3 ∧ m2 = (1 + y3 - j).toNat ∧ CurD a (n + 50 + 210 * (2 - k).toNat + 202) h' d i13 ∧ RdI (fun k => h11.size ≤ k ∧ k < h13.size) h' w os ∧ (∃ zss, OwX h' (fun k => F k ∧ k < h11.size ∨ h13.size ≤ k) t zss ∧ zss.length = N ∧ ∀ r, r ∈ zss → r.length ≤ 2 + 5 * (2 - k).toNat + j.toNat) ∧ Fr (fun k => k = b ∨ h.size ≤ k) h h' ∧ h13.size ≤ h'.size, ⟨(1 + y3).toNat, by omega, by omega, by omega, D13.up (by omega), W13, ⟨xss, o13', e11, fun r hr => by have := r11 r hr; omega⟩, (f11.trans (inb f12)).trans (inb f13), by omega⟩, ?_⟩
    rintro m2 j h14 ⟨j0, j1, em2, D14, W14, ⟨zss, o14, e14, r14⟩, f14, z14⟩ hL14
    refine ⟨fun e2 => ?_, fun e2 => ?_⟩
    · simp only [decide_eq_true_eq] at e2
      rw [w64_eq (j + 1) (by omega) (by omega)]
      have mo0 : 0 ≤ (j + 1).tmod (1 + y3) := Int.tmod_nonneg _ (by omega)
      have mo1 : (j + 1).tmod (1 + y3) < 1 + y3 := Int.tmod_lt_of_pos _ (by omega)
      have aj := A12.get (show j.toNat < os.length by omega)
      generalize hpj : (os[j.toNat]'(by omega)) = pj at aj
      obtain ⟨aj0, aj1⟩ := aj
      have cj : hcell h14 (w.at j 1) = some (VI pj) := by rw [W14.get j0 (by omega), hpj]
      obtain ⟨si, c1, _⟩ := OwR.inner o14 aj0 (show pj < (zss.length : Int) by omega)
      have r14' := OwR.rd o14
      refine ⟨W14.inb j0 (by omega), pj, cj, W14.inb j0 (by omega), pj, cj, r14'.inb aj0 (by omega), si, c1, by omega, W14.inb mo0 (by omega), _, W14.get mo0 (by omega), ?_⟩
      have hin : ∀ h', Fr (fun k => F k ∧ k < h11.size ∨ h13.size ≤ k) h14 h' → RdI (fun k => h11.size ≤ k ∧ k < h13.size) h' w os := fun h' f => W14.fr f fun k hk hk2 => by rcases hk2 with hk2 | hk2 <;> omega
      refine row_put2 (A := fun x => hcell x (w.at j 1) = some (VI pj)) (fun h' f => by rw [(hin h' f).get j0 (by omega), hpj]) o14 (fun k hk => .inr (by omega)) aj0 (by omega) c1 hL14 (fun p hp hk => ?_) (by have := r14 _ (List.getElem_mem (show pj.toNat < zss.length by omega)); omega) _ _ fun h17 o17 f17 V17 => ?_
      · have := sep _ hk
        simp only [List.mem_cons, List.not_mem_nil, or_false] at hp
        rcases hp with rfl | rfl | rfl
        · exact F3 this
        · have := F1 _ this; simp only at this; omega
        · have := F1 _ this; simp only at this; omega
      have z17 := f17.size
      refine ⟨m2 - 1, by omega, by omega, by omega, by omega, D14.fr f17 fun k hk hk2 => ?_, hin _ f17, ⟨_, o17, by simp [e14], fun r hr => ?_⟩, f14.trans (f17.mono fun k _ hk => .inr ?_), by omega⟩
      · have := F1 _ (sep _ hk2); omega
      · have := rows_set r14 _ (show pj.toNat < zss.length by omega) _ r hr
        omega
      · have := F1 _ (sep _ hk); omega
    · simp only [decide_eq_false_iff_not] at e2
      rw [w64_eq (k - 1) (by omega) (by omega)]
      exact ⟨m - 1, by omega, rfl, by omega, by omega, by omega, D14.up (by omega), ⟨zss, o14.mono fun k _ hk => sep k hk, e14, fun r hr => by have := r14 r hr; omega⟩, f14, by omega⟩
  · have g18 : Fr (fun k => k = b ∨ h.size ≤ k) h11 h18 := f18.mono fun k _ hk => .inr (by simp [In] at hk; omega)
    have o18 : OwX h18 F t xss := OwR.fr o11 f18 fun k hk hk2 hk3 => by simp [In] at hk3; subst hk3; have := F1 _ hk2; omega
    simp only [decide_eq_false_iff_not] at e
    exact HK t xss i11 sd11 h18 (by omega) ((OwR.rd o18).mono fun k hk => by have := F1 _ hk.1; omega) hL18.tail.tail.head ((D11.fr f18 fun k hk hk2 => by simp [In] at hk2; omega).up (by omega)) (fin _ (f11.trans g18))
theorem k_drsinking {a n b : Nat} {h : Heap} {c : Sl} {i sd : Int} (V : IsVar h b [c.v, VI i, .int .u64 sd]) (hb : a ≤ b) (D : CurD a n h c i) (hn : n ≤ 100000) (K : Value → Heap → Prop) (HK : ∀ (t : Sl) (gs : List (List Int)) (p i' sd' : Int) h', gs.length ≤ 9 → RdR (fun k => h.size ≤ k) h' t gs → IsVar h' b [c.v, VI i', .int .u64 sd'] → CurD a (n + 710) h' c i' → Fr (In [b]) h h' → K (.tuple #[.agg #[t.v], VI p]) h') : callM Tryz.prog 105 #[VP b 0] h K := by
  have lb := V.lt
  refine v105 b c i sd h K (.cons V (by simp) .nil) fun b2 h1 hb2 f1 hL1 => ?_
  have f1 := f1.in_nil
  have z1 := f1.size
  have l2 : b2 < h1.size := hL1.head.lt
  have fin : ∀ (h' : Heap), Fr (fun k => k = b ∨ h.size ≤ k) h h' → Fr (In [b]) h h' := fun h' f => f.mono fun k hk hk2 => by
    rcases hk2 with e | e
    · simp [In, e]
    · omega
  have inb : ∀ {x y : Heap}, Fr (In [b]) x y → Fr (fun k => k = b ∨ h.size ≤ k) x y := fun f => f.mono fun k _ hk => .inl (by simpa [In] using hk)
  refine k_drgraph9 hL1.tail.head hb (D.no f1) (by omega) _ fun t gs i2 sd2 h2 gl G2 V2 D2 f2 => ⟨c, i2, sd2, t, rfl, vcur hL1 1 rfl f2 V2, fun b3 h4 hb3 f4 hL4 => ?_⟩
  have f4 := f4.in_nil
  have z2 := f2.size
  have z4 := f4.size
  have l3 : b3 < h4.size := hL4.head.lt
  have G4 : RdR (fun k => h.size ≤ k ∧ k ≠ b2 ∧ k ≠ b3 ∧ k ≠ b) h4 t gs := (G2.lowS.no f4).mono fun k hk => by omega
  have f04 : Fr (fun k => k = b ∨ h.size ≤ k) h h4 := (f1.of_no.trans (inb f2)).trans f4.of_no
  refine ⟨fun x d i' sd' h' => d = c ∧ CurD a (n + 704) h' c i' ∧ (∃ gs, gs.length ≤ 9 ∧ RdR (fun k => h.size ≤ k ∧ k ≠ b2 ∧ k ≠ b3 ∧ k ≠ b) h' x gs) ∧ Fr (fun k => k = b ∨ h.size ≤ k) h h' ∧ h4.size ≤ h'.size, ?_, ?_⟩
  · refine k_one hL4.tail.tail.head hb (D2.no f4) (by omega) 3 _ fun q i5 sd5 h5 V5 D5 f5 => ⟨c, i5, sd5, q, rfl, vcur hL4 2 rfl f5 V5, fun _ => ?_, fun _ => ?_⟩
    · have hL5 := vcur hL4 2 rfl f5 V5
      have z5 := f5.size
      refine k_drbalanced hL5.tail.tail.head hb D5 (by omega) _ fun t6 gs6 i6 sd6 h6 gl6 G6 V6 D6 f6 => ⟨c, i6, sd6, t6, rfl, vcur hL5 2 rfl f6 V6, fun h7 f7 hL7 => ?_⟩
      have z6 := f6.size
      refine ⟨rfl, (D6.fr f7 fun k hk hk2 => by simp [In] at hk2; omega).up (by omega), ⟨gs6, gl6, (G6.fr f7 fun k hk hk2 => by simp [In] at hk2; omega).mono fun k hk => by omega⟩, ((f04.trans (inb f5)).trans (inb f6)).trans (f7.mono fun k _ hk => .inr (by simp [In] at hk; omega)), by have := f7.size; omega⟩
    · exact ⟨rfl, D5.up (by omega), ⟨gs, gl, G4.fr f5 fun k hk hk2 => by simp [In] at hk2; omega⟩, f04.trans (inb f5), f5.size⟩
  rintro x d i8 sd8 h8 ⟨rfl, D8, ⟨gs8, gl8, G8⟩, f8, z8⟩ hL8
  refine k_drplace hL8.tail.tail.head hb D8 (by omega) x _ fun p i9 sd9 h9 V9 D9 f9 => ⟨d, i9, sd9, p, rfl, vcur hL8 2 rfl f9 V9, fun h10 f10 hL10 => ?_⟩
  have z9 := f9.size
  have G10 : RdR (fun k => h.size ≤ k ∧ k ≠ b2 ∧ k ≠ b3 ∧ k ≠ b) h10 x gs8 := (G8.fr f9 fun k hk hk2 => by simp [In] at hk2; omega).fr f10 fun k hk hk2 => by simp [In] at hk2; omega
  exact HK x gs8 p i9 sd9 h10 gl8 (G10.mono fun k hk => hk.1) hL10.tail.tail.head ((D9.fr f10 fun k hk hk2 => by simp [In] at hk2; omega).up (by omega)) (fin _ ((f8.trans (inb f9)).trans (f10.mono fun k _ hk => .inr (by simp [In] at hk; omega))))
theorem k_drstacked {a n b : Nat} {h : Heap} {c : Sl} {i sd : Int} (V : IsVar h b [c.v, VI i, .int .u64 sd]) (hb : a ≤ b) (D : CurD a n h c i) (hn : n ≤ 10000) (K : Value → Heap → Prop) (HK : ∀ (t s : Sl) (gs ls : List (List Int)) (p i' sd' : Int) h', gs.length ≤ 9 → RdR (fun k => h.size ≤ k) h' t gs → RdR (fun k => h.size ≤ k) h' s ls → IsVar h' b [c.v, VI i', .int .u64 sd'] → CurD a (n + 1100) h' c i' → Fr (In [b]) h h' → K (.tuple #[.agg #[t.v], VI p, .agg #[s.v]]) h') : callM Tryz.prog 51 #[VP b 0] h K := by
  have lb := V.lt
  refine v51 b c i sd h K (.cons V (by simp) .nil) fun b2 b3 h2 hb2 hb3 f2 hL2 => ?_
  have f2 := f2.in_nil
  have z2 := f2.size
  have l3 : b3 < h2.size := hL2.head.lt
  have l2 : b2 < h2.size := hL2.tail.head.lt
  have fin : ∀ (h' : Heap), Fr (fun k => k = b ∨ h.size ≤ k) h h' → Fr (In [b]) h h' := fun h' f => f.mono fun k hk hk2 => by
    rcases hk2 with e | e
    · simp [In, e]
    · omega
  have inb : ∀ {x y : Heap}, Fr (In [b]) x y → Fr (fun k => k = b ∨ h.size ≤ k) x y := fun f => f.mono fun k _ hk => .inl (by simpa [In] using hk)
  refine k_drsinking hL2.tail.tail.head hb (D.no f2) (by omega) _ fun t gs p i3 sd3 h3 gl G3 V3 D3 f3 => ⟨c, i3, sd3, t, p, rfl, vcur hL2 2 rfl f3 V3, fun b4 b5 h7 hb4 hb5 f7 hL7 => ?_⟩
  have f7 := f7.in_nil
  have z3 := f3.size
  have z7 := f7.size
  have l5 : b5 < h7.size := hL7.head.lt
  have l4 : b4 < h7.size := hL7.tail.head.lt
  have tn := G3.len
  have G7 : RdR (fun k => h2.size ≤ k ∧ k < h3.size) h7 t gs := G3.lowS.no f7
  have f07 : Fr (fun k => k = b ∨ h.size ≤ k) h h7 := (f2.of_no.trans (inb f3)).trans f7.of_no
  have gT : ∀ k, (h2.size ≤ k ∧ k < h3.size) → ¬ (k = b ∨ h7.size ≤ k ∨ k = b2 ∨ k = b3 ∨ k = b5) := fun k hk hk2 => by omega
  refine k_spec_grPlace G7 p _ fun h8 f8 => ⟨_, rfl, hL7.of_no f8, fun e h9 f9 hL9 h10 f10 hL10 => ?_, fun e => ?_⟩
  · have G10 : RdR (fun k => h2.size ≤ k ∧ k < h3.size) h10 t gs := ((G7.no f8).fr f9 fun k hk hk2 => by simp [In] at hk2; omega).fr f10 fun k hk hk2 => by simp [In] at hk2; omega
    exact HK t nilSl gs [] p i3 sd3 h10 gl (G10.mono fun k hk => by omega) ⟨[], rfl, RdV.nil _ _ _, fun i h1 => by simp at h1⟩ hL10.tail.tail.tail.tail.head (((((D3.no f7).no f8).fr f9 fun k hk hk2 => by simp [In] at hk2; omega).fr f10 fun k hk hk2 => by simp [In] at hk2; omega).up (by omega)) (fin _ (((f07.trans f8.of_no).trans (f9.mono fun k _ hk => .inr (by simp [In] at hk; omega))).trans (f10.mono fun k _ hk => .inr (by simp [In] at hk; omega))))
  obtain ⟨e0, e1, e2⟩ : gs.length = gs.length ∧ 0 ≤ p ∧ p < (gs.length : Int) := by
    simp only [Bool.not_eq_false', Bool.and_eq_true, inR, decide_eq_true_eq] at e
    omega
  have z8 := f8.size
  have f08 := f07.trans f8.of_no
  refine ⟨fun m q x d i' sd' h' => 0 ≤ q ∧ q + m = (gs.length : Int) ∧ d = c ∧ CurD a (n + 710 + 30 * q.toNat) h' c i' ∧ RdR (fun k => h2.size ≤ k ∧ k < h3.size) h' t gs ∧ (∃ ls, OwX h' (fun k => h7.size ≤ k) x ls ∧ ls.length = q.toNat ∧ ∀ r, r ∈ ls → r.length ≤ 11) ∧ Fr (fun k => k = b ∨ h.size ≤ k) h h' ∧ h7.size ≤ h'.size, ⟨gs.length, by omega, by omega, rfl, ((D3.no f7).no f8).up (by omega), G7.no f8, ⟨[], OwR.nil _ _ _ _, rfl, fun r hr => by cases hr⟩, f08, z8⟩, ?_⟩
  rintro m q x d i11 sd11 h11 ⟨q0, q1, rfl, D11, G11, ⟨ls, o11, e11, b11⟩, f11, z11⟩ hL11
  have gb : ∀ {X Y : Heap} {w : Sl} {zs : List (List Int)}, OwX X (fun k => h7.size ≤ k) w zs → Fr (In [b]) X Y → OwX Y (fun k => h7.size ≤ k) w zs := fun O f => OwR.fr O f fun k hk hk2 hk3 => by simp [In] at hk3; omega
  refine ⟨fun e => ?_, fun e => ?_⟩
  · simp only [decide_eq_true_eq] at e
    have q2 : q < (gs.length : Int) := by omega
    obtain ⟨si, c1, r11⟩ := G11.get q0 q2
    refine ⟨G11.inb q0 q2, si, c1, k_pick hL11.tail.tail.tail.tail.head hb D11 (by omega) 9 _ fun y i12 sd12 h12 y0 y1 V12 D12 f12 => ⟨d, i12, sd12, y, rfl, vcur hL11 4 rfl f12 V12, ?_⟩⟩
    have y1 := y1 (by omega)
    have z12 := f12.size
    rw [w64_eq (3 + y) (by omega) (by omega)]
    have q12 : OwX h12 (Iv h7.size h12.size) x ls := OwR.toIv (gb o11 f12)
    refine ⟨fun m2 l k d2 i' sd' h' => 0 ≤ k ∧ k ≤ 3 + y ∧ m2 = k.toNat ∧ d2 = d ∧ CurD a (n + 710 + 30 * q.toNat + 2 + 2 * (3 + y - k).toNat) h' d i' ∧ RdR (fun k => h2.size ≤ k ∧ k < h3.size) h' t gs ∧ OwX h' (Iv h7.size h12.size) x ls ∧ (∃ ys, OwI h' (fun k => h12.size ≤ k) l ys ∧ ys.length ≤ (3 + y - k).toNat) ∧ Fr (fun k => k = b ∨ h.size ≤ k) h h' ∧ h12.size ≤ h'.size, ⟨(3 + y).toNat, by omega, by omega, rfl, rfl, D12.up (by omega), G11.fr f12 fun k hk hk2 => by simp [In] at hk2; omega, q12, ⟨[], Ow.nil _ _ _ _, by simp⟩, f11.trans (inb f12), Nat.le_refl _⟩, ?_⟩
    rintro m2 l k d2 i13 sd13 h13 ⟨k0, k1, em, rfl, D13, G13, x13, ⟨ys, o13, y13⟩, f13, z13⟩ hL13
    have tail : ∀ (u : Sl) (H : Heap), OwX H (fun k => h7.size ≤ k) u (ls ++ [ys]) → Fr (fun k => h7.size ≤ k) h13 H → ∀ H', Fr (In [b5]) H H' → ∃ m' : Nat, m' < m ∧ (0 ≤ w64 (q + 1) ∧ w64 (q + 1) + m' = (gs.length : Int) ∧ d2 = d2 ∧ CurD a (n + 710 + 30 * (w64 (q + 1)).toNat) H' d2 i13 ∧ RdR (fun k => h2.size ≤ k ∧ k < h3.size) H' t gs ∧ (∃ ls, OwX H' (fun k => h7.size ≤ k) u ls ∧ ls.length = (w64 (q + 1)).toNat ∧ ∀ r, r ∈ ls → r.length ≤ 11) ∧ Fr (fun k => k = b ∨ h.size ≤ k) h H' ∧ h7.size ≤ H'.size) := fun u H oU fU H' f' => by
      rw [w64_eq (q + 1) (by omega) (by omega)]
      have zU := fU.size
      have z' := f'.size
      refine ⟨m - 1, by omega, by omega, by omega, rfl, ((D13.fr fU fun k hk hk2 => by omega).fr f' fun k hk hk2 => by simp [In] at hk2; omega).up (by omega), (G13.fr fU fun k hk hk2 => by omega).fr f' fun k hk hk2 => by simp [In] at hk2; omega, ⟨_, OwR.fr oU f' fun k hk hk2 hk3 => by simp [In] at hk3; omega, by simp; omega, fun r hr => by
        rcases List.mem_append.mp hr with hr | hr
        · exact b11 r hr
        · simp only [List.mem_cons, List.not_mem_nil, or_false] at hr; subst hr; omega⟩, (f13.trans (fU.mono fun k _ hk => .inr (by omega))).trans (f'.mono fun k _ hk => .inr (by simp [In] at hk; omega)), by omega⟩
    have off7 : ∀ A B C D E (r : Nat × List Value), r ∈ [(b5, A), (b4, B), (b3, C), (b2, D), (b, E)] → r.1 < h7.size := fun A B C D E r hr => by
      simp only [List.mem_cons, List.not_mem_nil, or_false] at hr
      rcases hr with rfl | rfl | rfl | rfl | rfl <;> simp only <;> omega
    refine ⟨fun e3 => ⟨fun e4 => ⟨fun e5 => ?_, fun e5 => ?_⟩, fun e4 => ?_⟩, fun e3 => ?_⟩
    · simp only [decide_eq_true_eq] at e3
      refine k_pick hL13.tail.tail.tail.tail.head hb D13 (by omega) _ _ fun y2 i14 sd14 h14 u0 u1 V14 D14 f14 => ⟨d2, i14, sd14, y2, rfl, vcur hL13 4 rfl f14 V14, ?_⟩
      have z14 := f14.size
      have o14 : OwI h14 (fun k => h12.size ≤ k) l ys := Ow.fr o13 f14 fun k hk hk2 => by have := (o13.foot hk).1; simp [In] at hk2; omega
      refine eop_put (lo := h12.size) o14 (by omega) (vcur hL13 4 rfl f14 V14) (fun r hr => by have := off7 _ _ _ _ _ r hr; omega) (by omega) _ fun u h16 o16 f16 V16 => ?_
      have z16 := f16.size
      rw [w64_eq (k - 1) (by omega) (by omega)]
      refine ⟨m2 - 1, by omega, by omega, by omega, by omega, rfl, (D14.fr f16 fun k hk hk2 => by omega).up (by omega), (G13.fr f14 fun k hk hk2 => by simp [In] at hk2; omega).fr f16 fun k hk hk2 => by omega, OwR.fr (OwR.fr x13 f14 fun k hk hk2 hk3 => by simp [In] at hk3; have := hk2.1; omega) f16 fun k hk hk2 hk3 => by have := hk2.2; omega, ⟨_, o16, by simp; omega⟩, (f13.trans (inb f14)).trans (f16.mono fun k _ hk => .inr (by omega)), by omega⟩
    · exact eop_putR (lo := h7.size) (m := h12.size) x13 o13 (by omega) (by omega) hL13 (off7 _ _ _ _ _) (by omega) _ fun u h18 o18 f18 V18 h19 f19 hL19 => tail u h18 o18 f18 h19 f19
    · exact eop_putR (lo := h7.size) (m := h12.size) x13 o13 (by omega) (by omega) hL13 (off7 _ _ _ _ _) (by omega) _ fun u h18 o18 f18 V18 h19 f19 hL19 => tail u h18 o18 f18 h19 f19
    · exact eop_putR (lo := h7.size) (m := h12.size) x13 o13 (by omega) (by omega) hL13 (off7 _ _ _ _ _) (by omega) _ fun u h18 o18 f18 V18 h19 f19 hL19 => tail u h18 o18 f18 h19 f19
  simp only [decide_eq_false_iff_not] at e
  have eq : q = (gs.length : Int) := by omega
  have lsn : ls.length = gs.length := by omega
  have xn := OwR.len o11
  have off7 : ∀ A B C D E (r : Nat × List Value), r ∈ [(b5, A), (b4, B), (b3, C), (b2, D), (b, E)] → ¬ h7.size ≤ r.1 := fun A B C D E r hr => by
    simp only [List.mem_cons, List.not_mem_nil, or_false] at hr
    rcases hr with rfl | rfl | rfl | rfl | rfl <;> simp only <;> omega
  refine ⟨fun x' d' i' sd' h' => d' = d ∧ CurD a (n + 1000) h' d i' ∧ RdR (fun k => h2.size ≤ k ∧ k < h3.size) h' t gs ∧ (∃ ls, RdR (fun k => h7.size ≤ k) h' x' ls) ∧ Fr (fun k => k = b ∨ h.size ≤ k) h h' ∧ h7.size ≤ h'.size, ?_, ?_⟩
  · refine k_pick hL11.tail.tail.tail.tail.head hb D11 (by omega) 16 _ fun y i12 sd12 h12 y0 y1 V12 D12 f12 => ⟨d, i12, sd12, y, rfl, vcur hL11 4 rfl f12 V12, ?_⟩
    have hL12 := vcur hL11 4 rfl f12 V12
    have z12 := f12.size
    have G12 : RdR (fun k => h2.size ≤ k ∧ k < h3.size) h12 t gs := G11.fr f12 fun k hk hk2 => by simp [In] at hk2; omega
    have o12 := gb o11 f12
    have f012 := f11.trans (inb f12)
    refine ⟨fun _ => ?_, fun _ => ⟨fun _ => ?_, fun _ => ⟨fun _ => ?_, fun _ => ⟨fun _ => ?_, fun _ => ?_⟩⟩⟩⟩
    · refine eop_lit rIs (fun k => h12.size ≤ k) (fun _ h => h) 1 (by omega) [VI 0] rfl rfl fun w h13 n13 c13 o13 f13 m13 _ => ⟨w, rfl, hL12.of_no f13, ?_⟩
      have z13 := f13.size
      have o12i : OwX h12 (fun k => h7.size ≤ k ∧ k < h12.size) x ls := o12.mono fun k hk hk2 => ⟨hk2, hk⟩
      have o13' : OwI h13 (fun k => h12.size ≤ k) w [0] := o13
      exact row_set (m := h12.size) (OwR.no o12i f13) o13' (fun k hk => by omega) e1 (by omega) (hL12.of_no f13) (off7 _ _ _ _ _) _ fun h14 o14 f14 V14 => ⟨rfl, ((D12.no f13).fr f14 fun k hk hk2 => by omega).up (by omega), (G12.no f13).fr f14 fun k hk hk2 => by omega, ⟨_, (OwR.rd o14).mono fun k hk => hk.1⟩, (f012.trans f13.of_no).trans (f14.mono fun k _ hk => .inr (by omega)), by have := f14.size; omega⟩
    · refine k_pick hL12.tail.tail.tail.tail.head hb D12 (by omega) _ _ fun y2 i13 sd13 h13 u0 u1 V13 D13 f13 => ⟨d, i13, sd13, y2, rfl, vcur hL12 4 rfl f13 V13, ?_⟩
      have u1 := u1 (by omega)
      have hL13 := vcur hL12 4 rfl f13 V13
      have z13 := f13.size
      have o13 := gb o12 f13
      have r13 := OwR.rd o13
      obtain ⟨sj, c2, _⟩ := OwR.inner o13 u0 (by omega)
      refine ⟨r13.inb u0 (by omega), sj, c2, ?_⟩
      refine eop_lit rIs (fun k => h13.size ≤ k) (fun _ h => h) 3 (by omega) [VI (-1), VI 4, VI 5] rfl rfl fun w h14 n14 c14 o14 f14 m14 _ => ⟨w, rfl, hL13.of_no f14, hcell_fr c2 f14 (fun h => h), ?_⟩
      have z14 := f14.size
      have r14 : RdI (fun k => h13.size ≤ k) h14 w [-1, 4, 5] := o14.rdF
      refine k_among (hL13.of_no f14).tail.tail.tail.tail.head hb (D13.no f14) (by omega) r14 (by omega) (by simp) _ fun v i15 sd15 h15 hv V15 D15 f15 => ⟨d, i15, sd15, v, rfl, vcur (hL13.of_no f14) 4 rfl f15 V15, ?_⟩
      have z15 := f15.size
      have c15 : hcell h15 (x.at y2 1) = some sj.v := cell_keep (r13.no f14) u0 (by omega) f15 (fun k hk hk2 => by simp [In] at hk2; omega) (hcell_fr c2 f14 fun h => h)
      have lr : ls.length ≤ 9 := by omega
      have hbig : (ls[y2.toNat]'(by omega)).length ≤ 1000000 := by have := b11 _ (List.getElem_mem (show y2.toNat < ls.length by omega)); omega
      refine ⟨c15, row_putF (gb (OwR.no o13 f14) f15) (fun k hk => by omega) u0 (by omega) c15 (vcur (hL13.of_no f14) 4 rfl f15 V15) (off7 _ _ _ _ _) hbig v _ fun h16 o16 f16 V16 => ⟨rfl, (D15.fr f16 fun k hk hk2 => by omega).up (by omega), (((G12.fr f13 fun k hk hk2 => by simp [In] at hk2; omega).no f14).fr f15 fun k hk hk2 => by simp [In] at hk2; omega).fr f16 fun k hk hk2 => by omega, ⟨_, (OwR.rd o16).mono fun k hk => hk.1⟩, (((f012.trans (inb f13)).trans f14.of_no).trans (inb f15)).trans (f16.mono fun k _ hk => .inr (by omega)), by have := f16.size; omega⟩⟩
    · refine k_pick hL12.tail.tail.tail.tail.head hb D12 (by omega) _ _ fun y2 i13 sd13 h13 u0 u1 V13 D13 f13 => ⟨d, i13, sd13, y2, rfl, vcur hL12 4 rfl f13 V13, ?_⟩
      have u1 := u1 (by omega)
      have hL13 := vcur hL12 4 rfl f13 V13
      have z13 := f13.size
      refine k_pick hL13.tail.tail.tail.tail.head hb D13 (by omega) 2 _ fun y3 i14 sd14 h14 w0 w1 V14 D14 f14 => ⟨d, i14, sd14, y3, rfl, vcur hL13 4 rfl f14 V14, ?_⟩
      have w1 := w1 (by omega)
      have hL14 := vcur hL13 4 rfl f14 V14
      have z14 := f14.size
      rw [w64_eq (12 + y3) (by omega) (by omega)]
      have ey : 12 + y3 = (((12 + y3).toNat : Nat) : Int) := by omega
      rw [ey]
      refine eop_make rIs (fun k => h14.size ≤ k) (fun _ h => h) .i64 .i64 (12 + y3).toNat (12 + y3).toNat (Nat.le_refl _) (by omega) fun w h15 n15 c15 o15 f15 m15 _ => ⟨w, rfl, hL14.of_no f15, ?_⟩
      have z15 := f15.size
      have o15' : OwI h15 (fun k => h14.size ≤ k) w (List.replicate (12 + y3).toNat 0) := by
        have e : (List.replicate (12 + y3).toNat [VI 0]).flatten = (List.replicate (12 + y3).toNat (0 : Int)).map VI := by simp [List.flatten_replicate_singleton]
        rw [e] at o15; exact o15
      have o14i : OwX h14 (fun k => h7.size ≤ k ∧ k < h14.size) x ls := (gb (gb o12 f13) f14).mono fun k hk hk2 => ⟨hk2, hk⟩
      exact row_set (m := h14.size) (OwR.no o14i f15) o15' (fun k hk => by omega) u0 (by omega) (hL14.of_no f15) (off7 _ _ _ _ _) _ fun h16 o16 f16 V16 => ⟨rfl, ((D14.no f15).fr f16 fun k hk hk2 => by omega).up (by omega), (((G12.fr f13 fun k hk hk2 => by simp [In] at hk2; omega).fr f14 fun k hk hk2 => by simp [In] at hk2; omega).no f15).fr f16 fun k hk hk2 => by omega, ⟨_, (OwR.rd o16).mono fun k hk => hk.1⟩, (((f012.trans (inb f13)).trans (inb f14)).trans f15.of_no).trans (f16.mono fun k _ hk => .inr (by omega)), by have := f16.size; omega⟩
    · refine pop_cut_l rIss .i64 (by omega) (by omega) ⟨_, rfl, fun h13 f13 hL13 => ?_⟩
      have r13 : RdR (fun k => h7.size ≤ k) h13 x ls := ((OwR.rd o12).mono fun k hk => hk.1).fr f13 fun k hk hk2 => by simp [In] at hk2; omega
      exact ⟨rfl, (D12.fr f13 fun k hk hk2 => by simp [In] at hk2; omega).up (by omega), G12.fr f13 fun k hk hk2 => by simp [In] at hk2; omega, ⟨_, RdR.tl r13 (by omega)⟩, f012.trans (f13.mono fun k _ hk => .inr (by simp [In] at hk; omega)), by have := f13.size; omega⟩
    · exact ⟨rfl, D12.up (by omega), G12, ⟨ls, (OwR.rd o12).mono fun k hk => hk.1⟩, f012, by omega⟩
  rintro x' d' i13 sd13 h40 ⟨rfl, D40, G40, ⟨ls40, R40⟩, f40, z40⟩ hL40 h41 f41 hL41 h42 f42 hL42
  exact HK t x' gs ls40 p i13 sd13 h42 gl (((G40.fr f41 fun k hk hk2 => by simp [In] at hk2; omega).fr f42 fun k hk hk2 => by simp [In] at hk2; omega).mono fun k hk => by omega) (((R40.fr f41 fun k hk hk2 => by simp [In] at hk2; omega).fr f42 fun k hk hk2 => by simp [In] at hk2; omega).mono fun k hk => by omega) hL42.tail.tail.tail.tail.head (((D40.fr f41 fun k hk hk2 => by simp [In] at hk2; omega).fr f42 fun k hk hk2 => by simp [In] at hk2; omega).up (by omega)) (fin _ ((f40.trans (f41.mono fun k _ hk => .inr (by simp [In] at hk; omega))).trans (f42.mono fun k _ hk => .inr (by simp [In] at hk; omega))))
theorem k_DrawPopAll {S : Nat → Prop} {h : Heap} {code : Sl} {vs : List Value} (C : RdV S h 1 code vs) (B : ∀ v, v ∈ vs → ∃ m : Int, v = Value.int .u8 m ∧ 0 ≤ m ∧ m ≤ 255) (K : Value → Heap → Prop) (HK : ∀ (t s u : Sl) (gs ls : List (List Int)) (p : Int) (cs : List Int) h', RdR (fun k => h.size ≤ k) h' t gs → RdR (fun k => h.size ≤ k) h' s ls → RdI (fun k => h.size ≤ k) h' u cs → (∀ n, n ∈ cs → (Lit.int .i64 n).wf = true) → Fr No h h' → K (.tuple #[.agg #[t.v], VI p, .agg #[s.v], u.v]) h') : callM Tryz.prog 6 #[code.v] h K := by
  refine v6 code h K fun b1 b2 b3 h3 hb1 hb2 hb3 f3 hL3 => ?_
  have f3 := f3.in_nil
  have z3 := f3.size
  have l3 : b3 < h3.size := hL3.head.lt
  have l2 : b2 < h3.size := hL3.tail.head.lt
  have l1 : b1 < h3.size := hL3.tail.tail.head.lt
  have D3 : CurD h.size 0 h3 code 0 := ⟨⟨vs, ((RdV.lt C).mono fun k hk => hk.2).no f3, B⟩, by omega, by omega⟩
  refine k_drstacked hL3.head hb3 D3 (by omega) _ fun t s gs ls p i4 sd4 h4 gl G4 R4 V4 D4 f4 => ⟨code, i4, sd4, t, p, s, rfl, vcur hL3 0 rfl f4 V4, fun b4 b5 h8 hb4 hb5 f8 hL8 => ?_⟩
  have f8 := f8.in_nil
  have z4 := f4.size
  have z8 := f8.size
  have l5 : b5 < h8.size := hL8.head.lt
  have l4 : b4 < h8.size := hL8.tail.head.lt
  have G8 : RdR (fun k => h3.size ≤ k ∧ k < h4.size) h8 t gs := G4.lowS.no f8
  have R8 : RdR (fun k => h3.size ≤ k ∧ k < h4.size) h8 s ls := R4.lowS.no f8
  have upf : ∀ {x y : Heap}, Fr (In [b3]) x y → Fr (fun k => h.size ≤ k) x y := fun f => f.mono fun k _ hk => by simp [In] at hk; omega
  have f08 : Fr (fun k => h.size ≤ k) h h8 := (f3.of_no.trans (upf f4)).trans f8.of_no
  refine k_pick hL8.tail.tail.head hb3 (D4.no f8) (by omega) 12 _ fun y i9 sd9 h9 y0 y1 V9 D9 f9 => ⟨code, i9, sd9, y, rfl, vcur hL8 2 rfl f9 V9, ?_⟩
  have y1 := y1 (by omega)
  have z9 := f9.size
  refine ⟨fun m l k d i' sd' h' => 0 ≤ k ∧ k ≤ 11 ∧ m = k.toNat ∧ d = code ∧ CurD h.size (1200 + 2 * (11 - k).toNat) h' code i' ∧ RdR (fun k => h3.size ≤ k ∧ k < h4.size) h' t gs ∧ RdR (fun k => h3.size ≤ k ∧ k < h4.size) h' s ls ∧ (∃ ys, OwI h' (fun k => h8.size ≤ k) l ys ∧ ys.length ≤ (11 - k).toNat ∧ ∀ z, z ∈ ys → 0 ≤ z ∧ z < 100) ∧ Fr (fun k => h.size ≤ k) h h' ∧ h8.size ≤ h'.size, ⟨y.toNat, y0, by omega, rfl, rfl, D9.up (by omega), G8.fr f9 fun k hk hk2 => by simp [In] at hk2; omega, R8.fr f9 fun k hk hk2 => by simp [In] at hk2; omega, ⟨[], Ow.nil _ _ _ _, by simp, fun z hz => by cases hz⟩, f08.trans (upf f9), by omega⟩, ?_⟩
  rintro m l k d i10 sd10 h10 ⟨k0, k1, em, rfl, D10, G10, R10, ⟨ys, o10, y10, q10⟩, f10, z10⟩ hL10
  have off : ∀ A B C D E (r : Nat × List Value), r ∈ [(b5, A), (b4, B), (b3, C), (b2, D), (b1, E)] → r.1 < h8.size := fun A B C D E r hr => by
    simp only [List.mem_cons, List.not_mem_nil, or_false] at hr
    rcases hr with rfl | rfl | rfl | rfl | rfl <;> simp only <;> omega
  have ob : ∀ {X Y : Heap} {w : Sl} {zs : List Int}, OwI X (fun k => h8.size ≤ k) w zs → Fr (In [b3]) X Y → OwI Y (fun k => h8.size ≤ k) w zs := fun O f => Ow.fr O f fun k hk hk2 => by have := (O.foot hk).1; simp [In] at hk2; omega
  refine ⟨fun e => ?_, fun e => ?_⟩
  · simp only [decide_eq_true_eq] at e
    refine k_pick hL10.tail.tail.head hb3 D10 (by omega) 100 _ fun y2 i11 sd11 h11 u0 u1 V11 D11 f11 => ⟨d, i11, sd11, y2, rfl, vcur hL10 2 rfl f11 V11, ?_⟩
    have u1 := u1 (by omega)
    have z11 := f11.size
    refine eop_put (lo := h8.size) (ob o10 f11) (by omega) (vcur hL10 2 rfl f11 V11) (off _ _ _ _ _) (by omega) _ fun u h13 o13 f13 V13 => ?_
    have z13 := f13.size
    rw [w64_eq (k - 1) (by omega) (by omega)]
    refine ⟨m - 1, by omega, by omega, by omega, by omega, rfl, (D11.fr f13 fun k hk hk2 => by omega).up (by omega), (G10.fr f11 fun k hk hk2 => by simp [In] at hk2; omega).fr f13 fun k hk hk2 => by omega, (R10.fr f11 fun k hk hk2 => by simp [In] at hk2; omega).fr f13 fun k hk hk2 => by omega, ⟨_, o13, by simp; omega, fun z hz => ?_⟩, (f10.trans (upf f11)).trans (f13.mono fun k _ hk => by omega), by omega⟩
    rcases List.mem_append.mp hz with hz | hz
    · exact q10 z hz
    · simp only [List.mem_cons, List.not_mem_nil, or_false] at hz
      subst hz
      omega
  have q10w : ∀ z, z ∈ ys → (Lit.int .i64 z).wf = true := fun z hz => wf_ok (by have := (q10 z hz).1; omega) (by have := (q10 z hz).2; omega)
  refine ⟨fun x d' i' sd' h' => d' = d ∧ RdR (fun k => h3.size ≤ k ∧ k < h4.size) h' t gs ∧ RdR (fun k => h3.size ≤ k ∧ k < h4.size) h' s ls ∧ (∃ ys, RdI (fun k => h8.size ≤ k) h' x ys ∧ ∀ z, z ∈ ys → (Lit.int .i64 z).wf = true) ∧ Fr (fun k => h.size ≤ k) h h' ∧ h8.size ≤ h'.size, ?_, ?_⟩
  · refine k_pick hL10.tail.tail.head hb3 D10 (by omega) 12 _ fun y2 i11 sd11 h11 u0 u1 V11 D11 f11 => ⟨d, i11, sd11, y2, rfl, vcur hL10 2 rfl f11 V11, ?_⟩
    have hL11 := vcur hL10 2 rfl f11 V11
    have z11 := f11.size
    have G11 : RdR (fun k => h3.size ≤ k ∧ k < h4.size) h11 t gs := G10.fr f11 fun k hk hk2 => by simp [In] at hk2; omega
    have R11 : RdR (fun k => h3.size ≤ k ∧ k < h4.size) h11 s ls := R10.fr f11 fun k hk hk2 => by simp [In] at hk2; omega
    have o11 := ob o10 f11
    have f011 := f10.trans (upf f11)
    refine ⟨fun _ => ?_, fun _ => ⟨fun _ => ?_, fun _ => ?_⟩⟩
    · refine k_pick hL11.tail.tail.head hb3 D11 (by omega) 2 _ fun y3 i12 sd12 h12 w0 w1 V12 D12 f12 => ⟨d, i12, sd12, y3, rfl, vcur hL11 2 rfl f12 V12, ?_⟩
      have w1 := w1 (by omega)
      have hL12 := vcur hL11 2 rfl f12 V12
      have z12 := f12.size
      rw [w64_eq (100 + y3) (by omega) (by omega)]
      have ey : 100 + y3 = (((100 + y3).toNat : Nat) : Int) := by omega
      rw [ey]
      refine eop_make rIs (fun k => h12.size ≤ k) (fun _ h => h) .i64 .i64 (100 + y3).toNat (100 + y3).toNat (Nat.le_refl _) (by omega) fun w h15 n15 c15 o15 f15 m15 _ => ⟨w, rfl, hL12.of_no f15, ?_⟩
      have z15 := f15.size
      have o15' : OwI h15 (fun k => h12.size ≤ k) w (List.replicate (100 + y3).toNat 0) := by
        have e : (List.replicate (100 + y3).toNat [VI 0]).flatten = (List.replicate (100 + y3).toNat (0 : Int)).map VI := by simp [List.flatten_replicate_singleton]
        rw [e] at o15; exact o15
      exact ⟨rfl, (G11.fr f12 fun k hk hk2 => by simp [In] at hk2; omega).no f15, (R11.fr f12 fun k hk hk2 => by simp [In] at hk2; omega).no f15, ⟨_, (show RdI _ h15 w _ from o15'.rdF).mono fun k hk => by omega, fun z hz => wf_ok (by rw [List.eq_of_mem_replicate hz]; omega) (by rw [List.eq_of_mem_replicate hz]; omega)⟩, (f011.trans (upf f12)).trans f15.of_no, by omega⟩
    · refine eop_lit rIs (fun k => h11.size ≤ k) (fun _ h => h) 2 (by omega) [VI (-1), VI 4611686018427387904] rfl rfl fun w h14 n14 c14 o14 f14 m14 _ => ⟨w, rfl, hL11.of_no f14, ?_⟩
      have z14 := f14.size
      have r14 : RdI (fun k => h11.size ≤ k) h14 w [-1, 4611686018427387904] := o14.rdF
      refine k_among (hL11.of_no f14).tail.tail.head hb3 (D11.no f14) (by omega) r14 (by omega) (by simp) _ fun v i15 sd15 h15 hv V15 D15 f15 => ⟨d, i15, sd15, v, rfl, vcur (hL11.of_no f14) 2 rfl f15 V15, ?_⟩
      have z15 := f15.size
      refine eop_put (lo := h8.size) (ob (Ow.no o11 f14) f15) (by omega) (vcur (hL11.of_no f14) 2 rfl f15 V15) (off _ _ _ _ _) (by omega) _ fun u h16 o16 f16 V16 => ?_
      have z16 := f16.size
      refine ⟨rfl, ((G11.no f14).fr f15 fun k hk hk2 => by simp [In] at hk2; omega).fr f16 fun k hk hk2 => by omega, ((R11.no f14).fr f15 fun k hk hk2 => by simp [In] at hk2; omega).fr f16 fun k hk hk2 => by omega, ⟨_, o16.rdF, fun z hz => ?_⟩, ((f011.trans f14.of_no).trans (upf f15)).trans (f16.mono fun k _ hk => by omega), by omega⟩
      rcases List.mem_append.mp hz with hz | hz
      · exact q10w z hz
      · simp only [List.mem_cons, List.not_mem_nil, or_false] at hz
        subst hz
        simp only [List.mem_cons, List.not_mem_nil, or_false] at hv
        rcases hv with rfl | rfl <;> exact wf_ok (by omega) (by omega)
    · exact ⟨rfl, G11, R11, ⟨ys, o11.rdF, q10w⟩, f011, by omega⟩
  rintro x d' i13 sd13 h21 ⟨rfl, G21, R21, ⟨xs, X21, q21⟩, f21, z21⟩ hL21 h22 f22 hL22 h23 f23 hL23
  have fr3 : ∀ {u : Sl} {zs : List (List Int)}, RdR (fun k => h3.size ≤ k ∧ k < h4.size) h21 u zs → RdR (fun k => h.size ≤ k) h23 u zs := fun H => ((H.fr f22 fun k hk hk2 => by simp [In] at hk2; omega).fr f23 fun k hk hk2 => by simp [In] at hk2; omega).mono fun k hk => by omega
  exact HK t s x gs ls p xs h23 (fr3 G21) (fr3 R21) (((X21.fr f22 fun k hk hk2 => by simp [In] at hk2; omega).fr f23 fun k hk hk2 => by simp [In] at hk2; omega).mono fun k hk => by omega) q21 (((f21.trans (f22.mono fun k _ hk => by simp [In] at hk; omega)).trans (f23.mono fun k _ hk => by simp [In] at hk; omega)).mono fun k hk hk2 => absurd hk2 (by omega))
theorem k_DrawTreeByWalks {S : Nat → Prop} {h : Heap} {code : Sl} {vs : List Value} (C : RdV S h 1 code vs) (B : ∀ v, v ∈ vs → ∃ m : Int, v = Value.int .u8 m ∧ 0 ≤ m ∧ m ≤ 255) (K : Value → Heap → Prop) (HK : ∀ (t s u : Sl) (gs ls : List (List Int)) (p : Int) (cs : List Int) h', RdR (fun k => h.size ≤ k) h' t gs → RdR (fun k => h.size ≤ k) h' s ls → RdI (fun k => h.size ≤ k) h' u cs → Fr No h h' → K (.tuple #[.agg #[t.v], VI p, .agg #[s.v], u.v]) h') : callM Tryz.prog 21 #[code.v] h K := by
  refine v21 code h K fun b1 b2 b3 h3 hb1 hb2 hb3 f3 hL3 => ?_
  have f3 := f3.in_nil
  have z3 := f3.size
  have l3 : b3 < h3.size := hL3.head.lt
  have l2 : b2 < h3.size := hL3.tail.head.lt
  have l1 : b1 < h3.size := hL3.tail.tail.head.lt
  have D3 : CurD h.size 0 h3 code 0 := ⟨⟨vs, ((RdV.lt C).mono fun k hk => hk.2).no f3, B⟩, by omega, by omega⟩
  refine k_drstacked hL3.head hb3 D3 (by omega) _ fun t s gs ls p i4 sd4 h4 gl G4 R4 V4 D4 f4 => ⟨code, i4, sd4, t, p, s, rfl, vcur hL3 0 rfl f4 V4, fun b4 b5 h8 hb4 hb5 f8 hL8 => ?_⟩
  have f8 := f8.in_nil
  have z4 := f4.size
  have z8 := f8.size
  have l5 : b5 < h8.size := hL8.head.lt
  have l4 : b4 < h8.size := hL8.tail.head.lt
  have tn := G4.len
  have G8 : RdR (fun k => h3.size ≤ k ∧ k < h4.size) h8 t gs := G4.lowS.no f8
  have R8 : RdR (fun k => h3.size ≤ k ∧ k < h4.size) h8 s ls := R4.lowS.no f8
  have upf : ∀ {x y : Heap}, Fr (In [b3]) x y → Fr (fun k => h.size ≤ k) x y := fun f => f.mono fun k _ hk => by simp [In] at hk; omega
  have f08 : Fr (fun k => h.size ≤ k) h h8 := (f3.of_no.trans (upf f4)).trans f8.of_no
  refine k_shufB hL8.tail.tail.head hb3 (D4.no f8) (by omega) (m := t.n) (by omega) _ fun w os i9 sd9 h9 O9 e9 A9 V9 D9 f9 => ⟨code, i9, sd9, w, rfl, vcur hL8 2 rfl f9 V9, ?_⟩
  have hL9 := vcur hL8 2 rfl f9 V9
  have z9 := f9.size
  have G9 : RdR (fun k => h3.size ≤ k ∧ k < h4.size) h9 t gs := G8.fr f9 fun k hk hk2 => by simp [In] at hk2; omega
  have R9 : RdR (fun k => h3.size ≤ k ∧ k < h4.size) h9 s ls := R8.fr f9 fun k hk hk2 => by simp [In] at hk2; omega
  have f09 := f08.trans (upf f9)
  have wn := RdI.len O9.rdF
  have off : ∀ A B C D E (r : Nat × List Value), r ∈ [(b5, A), (b4, B), (b3, C), (b2, D), (b1, E)] → ¬ h8.size ≤ r.1 := fun A B C D E r hr => by
    simp only [List.mem_cons, List.not_mem_nil, or_false] at hr
    rcases hr with rfl | rfl | rfl | rfl | rfl <;> simp only <;> omega
  have ob : ∀ {X Y : Heap} {w : Sl} {zs : List Int}, OwI X (fun k => h8.size ≤ k) w zs → Fr (In [b3]) X Y → OwI Y (fun k => h8.size ≤ k) w zs := fun O f => Ow.fr O f fun k hk hk2 => by have := (O.foot hk).1; simp [In] at hk2; omega
  refine ⟨fun d i' sd' h' => d = code ∧ RdR (fun k => h3.size ≤ k ∧ k < h4.size) h' t gs ∧ RdR (fun k => h3.size ≤ k ∧ k < h4.size) h' s ls ∧ (∃ ys, RdI (fun k => h8.size ≤ k) h' w ys) ∧ Fr (fun k => h.size ≤ k) h h' ∧ h8.size ≤ h'.size, ⟨fun e => ?_, fun e => ⟨rfl, G9, R9, ⟨os, O9.rdF⟩, f09, by omega⟩⟩, ?_⟩
  · simp only [decide_eq_true_eq] at e
    refine k_one hL9.tail.tail.head hb3 D9 (by omega) 10 _ fun q i10 sd10 h10 V10 D10 f10 => ⟨code, i10, sd10, q, rfl, vcur hL9 2 rfl f10 V10, fun _ => ?_, fun _ => ?_⟩
    · have hL10 := vcur hL9 2 rfl f10 V10
      have z10 := f10.size
      have G10 : RdR (fun k => h3.size ≤ k ∧ k < h4.size) h10 t gs := G9.fr f10 fun k hk hk2 => by simp [In] at hk2; omega
      have R10 : RdR (fun k => h3.size ≤ k ∧ k < h4.size) h10 s ls := R9.fr f10 fun k hk hk2 => by simp [In] at hk2; omega
      refine eop_lit rIs (fun k => h10.size ≤ k) (fun _ h => h) 3 (by omega) [VI (-1), VI 0, VI 1] rfl rfl fun u h14 n14 c14 o14 f14 m14 _ => ⟨u, rfl, hL10.of_no f14, ?_⟩
      have z14 := f14.size
      have r14 : RdI (fun k => h10.size ≤ k) h14 u [-1, 0, 1] := o14.rdF
      refine k_among (hL10.of_no f14).tail.tail.head hb3 (D10.no f14) (by omega) r14 (by omega) (by simp) _ fun v i15 sd15 h15 hv V15 D15 f15 => ⟨code, i15, sd15, v, rfl, vcur (hL10.of_no f14) 2 rfl f15 V15, ?_⟩
      have z15 := f15.size
      exact int_set (ob (Ow.no (ob O9 f10) f14) f15) (Int.le_refl 0) (by omega) (vcur (hL10.of_no f14) 2 rfl f15 V15) (off _ _ _ _ _) _ fun h16 o16 f16 V16 => ⟨rfl, ((G10.no f14).fr f15 fun k hk hk2 => by simp [In] at hk2; omega).fr f16 fun k hk hk2 => by omega, ((R10.no f14).fr f15 fun k hk hk2 => by simp [In] at hk2; omega).fr f16 fun k hk hk2 => by omega, ⟨_, o16.rdF⟩, (((f09.trans (upf f10)).trans f14.of_no).trans (upf f15)).trans (f16.mono fun k _ hk => by omega), by have := f16.size; omega⟩
    · exact ⟨rfl, G9.fr f10 fun k hk hk2 => by simp [In] at hk2; omega, R9.fr f10 fun k hk hk2 => by simp [In] at hk2; omega, ⟨os, (ob O9 f10).rdF⟩, f09.trans (upf f10), by have := f10.size; omega⟩
  rintro d i14 sd14 h14 ⟨rfl, G14, R14, ⟨ys, Y14⟩, f14, z14⟩ hL14 h15 f15 hL15 h16 f16 hL16
  have fr3 : ∀ {u : Sl} {zs : List (List Int)}, RdR (fun k => h3.size ≤ k ∧ k < h4.size) h14 u zs → RdR (fun k => h.size ≤ k) h16 u zs := fun H => ((H.fr f15 fun k hk hk2 => by simp [In] at hk2; omega).fr f16 fun k hk hk2 => by simp [In] at hk2; omega).mono fun k hk => by omega
  exact HK t s w gs ls p ys h16 (fr3 G14) (fr3 R14) (((Y14.fr f15 fun k hk hk2 => by simp [In] at hk2; omega).fr f16 fun k hk hk2 => by simp [In] at hk2; omega).mono fun k hk => by omega) (((f14.trans (f15.mono fun k _ hk => by simp [In] at hk; omega)).trans (f16.mono fun k _ hk => by simp [In] at hk; omega)).mono fun k hk hk2 => absurd hk2 (by omega))
def twN (f : Int → Int) (sink : Int) (n : Nat) : Nat → Nat → Int → Option Nat
  | 0, _, _ => none
  | r + 1, m, a => if a = sink then some m else if f a < 0 ∨ n < m then none else twN f sink n r (m + 1) (f a)
def twL (g : List (List Int)) (rs : List Int) (sink : Int) : Nat → Option (List Int)
  | 0 => some []
  | i + 1 => match twL g rs sink i with
    | none => none
    | some l => match twN (nx g rs) sink g.length (g.length + 3) 0 i with
      | none => none
      | some m => some (l ++ [(m : Int)])
def treeB (g : List (List Int)) (rs : List Int) (sink : Int) : Bool := (twL g rs sink g.length).isSome
theorem twL_none {g : List (List Int)} {rs : List Int} {sink : Int} {i : Nat} (h : twL g rs sink i = none) : ∀ m, twL g rs sink (i + m) = none
  | 0 => h
  | m + 1 => by rw [← Nat.add_assoc, twL, twL_none h m]
theorem twL_no {g : List (List Int)} {rs : List Int} {sink : Int} {i n : Nat} (h : twL g rs sink i = none) (hi : i ≤ n) : twL g rs sink n = none := by
  have := twL_none h (n - i)
  rwa [show i + (n - i) = n by omega] at this
theorem tree_of {g : List (List Int)} {rs : List Int} {sink : Int} (h : ∀ p : Nat, p < g.length → (twN (nx g rs) sink g.length (g.length + 3) 0 p).isSome = true) : treeB g rs sink = true := by
  have : ∀ i, i ≤ g.length → (twL g rs sink i).isSome = true := by
    intro i
    induction i with
    | zero => intro _; rfl
    | succ i ih =>
      intro hi
      have h1 := ih (by omega)
      have h2 := h i (by omega)
      rw [twL]
      cases h3 : twL g rs sink i with
      | none => rw [h3] at h1; cases h1
      | some l =>
        cases h4 : twN (nx g rs) sink g.length (g.length + 3) 0 i with
        | none => rw [h4] at h2; cases h2
        | some m => rfl
  exact this _ (Nat.le_refl _)
def sinkrB (g : List (List Int)) (sink : Int) (rs : List Int) : Bool := (graphB g && inR 0 ((g.length : Int) - 1) sink) && (walkB g rs 0 && decide (rs.getD sink.toNat 0 = 0))
def isTreeP (g : List (List Int)) (sink : Int) (rs : List Int) : Bool × Bool := if sinkrB g sink rs then (treeB g rs sink, true) else (false, false)
def topsOfP (g : List (List Int)) (sink : Int) (S : List (List Int)) : List Int × Bool := if stackB g sink S then topsP sink S else ([], false)
def cycsOfP (g : List (List Int)) (sink : Int) (S : List (List Int)) : List (List Int) × Bool := if stackB g sink S then (cycsP g S, true) else ([], false)
theorem sum_le : ∀ (xs : List Int), (∀ x, x ∈ xs → 0 ≤ x ∧ x ≤ 1000) → 0 ≤ xs.sum ∧ xs.sum ≤ 1000 * (xs.length : Int)
  | [], _ => by simp
  | x :: xs, h => by
    have := sum_le xs fun y hy => h y (List.mem_cons_of_mem _ hy)
    have h2 := h x (List.mem_cons_self ..)
    simp only [List.sum_cons, List.length_cons]
    omega
theorem k_treeWays {S S' : Nat → Prop} {h : Heap} {g w : Sl} {xss : List (List Int)} {rs : List Int} {a : Int} (G : RdR S h g xss) (H : RdI S' h w rs) (W : WOK xss (rs, a)) (hn : xss.length ≤ 1000) (sink : Int) (K : Value → Heap → Prop) (HK : ∀ t h', OwI h' (Iv h.size h'.size) t ((twL xss rs sink xss.length).getD []) → Fr No h h' → K (.tuple #[t.v, VB (treeB xss rs sink)]) h') : callM Tryz.prog 114 #[.agg #[g.v], VI sink, w.v] h K := by
  refine v114 g sink w h K fun b1 h1 hb1 f1 hL1 => ?_
  have f1 := f1.in_nil
  have z1 := f1.size
  have l1 : b1 < h1.size := hL1.head.lt
  have gn := G.len
  refine eop_lit rIs (fun k => h1.size ≤ k) (fun _ h => h) 0 (by omega) [] rfl rfl fun o h2 n2 c2 o2 f2 m2 _ => ⟨o, rfl, hL1.of_no f2, ?_⟩
  have z2 := f2.size
  have o2' : OwI h2 (fun k => h1.size ≤ k) o [] := o2
  have no_ : ∀ {x : Heap}, Fr (fun k => h1.size ≤ k) h x → Fr No h x := fun f => f.mono fun k hk hk2 => absurd hk2 (by omega)
  refine ⟨fun m x p h' => 0 ≤ p ∧ p + m = (xss.length : Int) ∧ (∃ l, twL xss rs sink p.toNat = some l ∧ OwI h' (fun k => h1.size ≤ k) x l ∧ l.length = p.toNat) ∧ Fr (fun k => h1.size ≤ k) h h' ∧ h2.size ≤ h'.size, ⟨xss.length, by omega, by omega, ⟨[], rfl, o2', rfl⟩, f1.of_no.trans f2.of_no, Nat.le_refl _⟩, ?_⟩
  rintro m x p h3 ⟨p0, p1, ⟨l, el, o3, ln⟩, f3, z3⟩ hL3
  have g3 := no_ f3
  refine ⟨fun e => ?_, fun e => ?_⟩
  · simp only [decide_eq_true_eq] at e
    refine ⟨fun m2 many at_ h' => m2 + many.toNat = xss.length + 2 ∧ 0 ≤ many ∧ many ≤ xss.length + 1 ∧ 0 ≤ at_ ∧ at_ < (xss.length : Int) ∧ twN (nx xss rs) sink xss.length (xss.length + 3) 0 p = twN (nx xss rs) sink xss.length (m2 + 1) many.toNat at_ ∧ Fr No h3 h', ⟨xss.length + 2, by omega, by omega, by omega, p0, by omega, by simp, Fr.refl _ _⟩, ?_⟩
    rintro m2 many at_ h4 ⟨e4, u0, u1, a0, a1, et, f4⟩ hL4
    have g4 := g3.trans f4
    have z4 := f4.size
    have bad : ∀ {h' : Heap}, Fr No h4 h' → twN (nx xss rs) sink xss.length (xss.length + 3) 0 p = none → K (.tuple #[nilSl.v, VB false]) h' := fun f e => by
      have e1 : twL xss rs sink (p.toNat + 1) = none := by rw [twL, el]; simp only; rw [show ((p.toNat : Nat) : Int) = p by omega, e]
      have e2 := twL_no e1 (show p.toNat + 1 ≤ xss.length by omega)
      have := HK nilSl _ (by rw [e2]; exact Ow.nil _ _ _ _) (g4.trans f)
      rwa [show treeB xss rs sink = false by unfold treeB; rw [e2]; rfl] at this
    refine ⟨fun e5 => ?_, fun e5 => ?_⟩
    · simp only [Bool.not_eq_true', decide_eq_false_iff_not] at e5
      refine k_next (G.no g4) (H.no g4) W a0 a1 _ fun h5 f5 => ⟨_, rfl, hL4.of_no f5, fun e6 => ?_, fun e6 => ⟨fun e7 => ?_, fun e7 => ?_⟩⟩
      · simp only [decide_eq_true_eq] at e6
        exact bad f5 (by rw [et, twN, if_neg e5, if_pos (.inl e6)])
      · simp only [decide_eq_true_eq] at e7
        exact bad f5 (by rw [et, twN, if_neg e5, if_pos (.inr (by omega))])
      · simp only [decide_eq_false_iff_not] at e6 e7
        have lt := nx_lt W a1
        refine ⟨m2 - 1, by omega, ?_, ?_, ?_, by omega, lt.2, ?_, f4.trans f5⟩
        · rw [w64_eq _ (by omega) (by omega)]; omega
        · rw [w64_eq _ (by omega) (by omega)]; omega
        · rw [w64_eq _ (by omega) (by omega)]; omega
        · rw [et, twN, if_neg e5, if_neg (by omega), w64_eq _ (by omega) (by omega), show m2 - 1 + 1 = m2 by omega, show (many + 1).toNat = many.toNat + 1 by omega]
    · simp only [Bool.not_eq_false', decide_eq_true_eq] at e5
      refine eop_put (lo := h1.size) (Ow.no o3 f4) (by omega) hL4 (fun q hq => by
        simp only [List.mem_cons, List.not_mem_nil, or_false] at hq
        subst hq; exact l1) (by omega) _ fun y h7 o7 f7 V7 => ?_
      rw [w64_eq (p + 1) (by omega) (by omega)]
      refine ⟨m - 1, by omega, by omega, by omega, ⟨_, ?_, o7, by simp; omega⟩, (f3.trans f4.of_no).trans f7, by have := f7.size; omega⟩
      rw [show (p + 1).toNat = p.toNat + 1 by omega, twL, el]
      simp only
      rw [show ((p.toNat : Nat) : Int) = p by omega, et, twN, if_pos e5]
      simp only [Option.some.injEq, List.append_cancel_left_eq, List.cons.injEq, and_true]
      omega
  · simp only [decide_eq_false_iff_not] at e
    have ep : p.toNat = xss.length := by omega
    rw [ep] at el
    have := HK x h3 (by rw [el]; exact o3.mono fun k hk hk2 => ⟨by omega, (o3.foot hk).2⟩) g3
    rwa [show treeB xss rs sink = true by unfold treeB; rw [el]; rfl] at this
theorem k_isTree {S S' : Nat → Prop} {h : Heap} {g w : Sl} {xss : List (List Int)} {rs : List Int} {a : Int} (G : RdR S h g xss) (H : RdI S' h w rs) (W : WOK xss (rs, a)) (hn : xss.length ≤ 1000) (sink : Int) : Ret Tryz.prog 63 #[.agg #[g.v], VI sink, w.v] h (VB (treeB xss rs sink)) := by
  intro K HK
  refine v63 g sink w h K fun b1 h1 hb1 f1 hL1 => ?_
  have f1 := f1.in_nil
  exact k_treeWays (G.no f1) (H.no f1) W hn sink _ fun t h2 o2 f2 => ⟨t, _, rfl, hL1.of_no f2, HK h2 (f1.trans f2)⟩
theorem k_areSinkRotors {S S' : Nat → Prop} {h : Heap} {g w : Sl} {xss : List (List Int)} {rs : List Int} (G : RdR S h g xss) (H : RdI S' h w rs) (sink : Int) : Ret Tryz.prog 62 #[.agg #[g.v], VI sink, w.v] h (VB (sinkrB xss sink rs)) := by
  intro K HK
  unfold sinkrB at HK
  refine v62 g sink w h K fun b1 h1 hb1 f1 hL1 => ?_
  have f1 := f1.in_nil
  refine eop_lit rIs (fun k => h1.size ≤ k) (fun _ h => h) 1 (by omega) [VI sink] rfl rfl fun o h2 n2 c2 o2 f2 m2 _ => ⟨o, rfl, hL1.of_no f2, ?_⟩
  have r2 : RdI (fun k => h1.size ≤ k) h2 o [sink] := o2.rdF
  have f02 := f1.trans f2
  refine k_has (G.no f02) r2 _ fun h3 f3 => ⟨_, rfl, (hL1.of_no f2).of_no f3, fun e => ?_, fun e => ?_⟩
  · simp only [List.all_cons, List.all_nil, Bool.and_true] at e
    have f03 := f02.trans f3
    rw [e, Bool.true_and] at HK
    refine k_areRotors (G.no f03) (H.no f03) _ fun h4 f4 => ⟨_, rfl, ((hL1.of_no f2).of_no f3).of_no f4, fun e2 => ?_, fun e2 => ?_⟩
    · rw [e2, Bool.true_and] at HK
      have W := wok_of e2
      have wl : rs.length = xss.length := W.len
      simp only [Bool.and_eq_true, inR, decide_eq_true_eq] at e
      have f04 := f03.trans f4
      have H4 := H.no f04
      refine ⟨H4.inb (by omega) (by omega), _, H4.get (by omega) (by omega), ?_⟩
      have e3 : rs.getD sink.toNat 0 = rs[sink.toNat]'(by omega) := getD_getI (by omega)
      rw [e3] at HK
      exact HK h4 f04
    · rw [e2] at HK
      exact HK h4 (f03.trans f4)
  · simp only [List.all_cons, List.all_nil, Bool.and_true] at e
    rw [e] at HK
    exact HK h3 (f02.trans f3)
theorem k_IsTree {S S' : Nat → Prop} {h : Heap} {g w : Sl} {xss : List (List Int)} {rs : List Int} (G : RdR S h g xss) (H : RdI S' h w rs) (sink : Int) : Ret Tryz.prog 17 #[.agg #[g.v], VI sink, w.v] h (.tuple #[VB (isTreeP xss sink rs).1, VB (isTreeP xss sink rs).2]) := by
  intro K HK
  unfold isTreeP at HK
  refine v17 g sink w h K fun b1 h1 hb1 f1 hL1 => ?_
  have f1 := f1.in_nil
  refine k_areSinkRotors (G.no f1) (H.no f1) sink _ fun h2 f2 => ⟨_, rfl, hL1.of_no f2, fun e => ?_, fun e => ?_⟩
  · simp only [Bool.not_eq_true'] at e
    rw [e] at HK
    exact HK h2 (f1.trans f2)
  · simp only [Bool.not_eq_false'] at e
    rw [if_pos e] at HK
    have W : WOK xss (rs, 0) := by
      unfold sinkrB at e
      simp only [Bool.and_eq_true] at e
      exact wok_of e.2.1
    have f02 := f1.trans f2
    exact k_isTree (G.no f02) (H.no f02) W (by have := graph_len W.graph; omega) sink _ fun h3 f3 => ⟨_, rfl, (hL1.of_no f2).of_no f3, HK h3 (f02.trans f3)⟩
theorem k_TopsOf {S S' : Nat → Prop} {h : Heap} {g s : Sl} {xss ls : List (List Int)} (G : RdR S h g xss) (H : RdR S' h s ls) (sink : Int) (K : Value → Heap → Prop) (HK : ∀ t h', OwI h' (Iv h.size h'.size) t (topsOfP xss sink ls).1 → Fr No h h' → K (.tuple #[t.v, VB (topsOfP xss sink ls).2]) h') : callM Tryz.prog 18 #[.agg #[g.v], VI sink, .agg #[s.v]] h K := by
  unfold topsOfP at HK
  refine v18 g sink s h K fun b1 b2 h2 hb1 hb2 f2 hL2 => ?_
  have f2 := f2.in_nil
  refine k_areStacks (G.no f2) (H.no f2) sink _ fun h3 f3 => ⟨_, rfl, hL2.of_no f3, fun e => ?_, fun e => ?_⟩
  · simp only [Bool.not_eq_true'] at e
    rw [e] at HK
    exact HK nilSl h3 (Ow.nil _ _ _ _) (f2.trans f3)
  · simp only [Bool.not_eq_false'] at e
    rw [if_pos e] at HK
    have f03 := f2.trans f3
    have W := (stack_of e).1
    refine k_tops (H.no f03) (by have := W.tot; omega) sink _ fun t h4 o4 f4 => ⟨t, _, rfl, (hL2.of_no f3).of_no f4, ?_⟩
    exact HK t h4 (o4.mono fun k _ hk => ⟨Nat.le_trans f03.size hk.1, hk.2⟩) (f03.trans f4)
theorem k_CyclesOf {S S' : Nat → Prop} {h : Heap} {g s : Sl} {xss ls : List (List Int)} (G : RdR S h g xss) (H : RdR S' h s ls) (sink : Int) (K : Value → Heap → Prop) (HK : ∀ t h', OwX h' (Iv h.size h'.size) t (cycsOfP xss sink ls).1 → Fr No h h' → K (.tuple #[t.v, VB (cycsOfP xss sink ls).2]) h') : callM Tryz.prog 19 #[.agg #[g.v], VI sink, .agg #[s.v]] h K := by
  unfold cycsOfP at HK
  refine v19 g sink s h K fun b1 b2 h2 hb1 hb2 f2 hL2 => ?_
  have f2 := f2.in_nil
  refine k_areStacks (G.no f2) (H.no f2) sink _ fun h3 f3 => ⟨_, rfl, hL2.of_no f3, fun e => ?_, fun e => ?_⟩
  · simp only [Bool.not_eq_true'] at e
    rw [e] at HK
    exact HK nilSl h3 (OwR.nil _ _ _ _) (f2.trans f3)
  · simp only [Bool.not_eq_false'] at e
    rw [if_pos e] at HK
    have f03 := f2.trans f3
    refine k_cycles (G.no f03) (H.no f03) (stack_of e).1 _ fun t h4 o4 f4 => ⟨t, rfl, (hL2.of_no f3).of_no f4, ?_⟩
    exact HK t h4 (OwR.ivs o4 f03.size (Nat.le_refl _)) (f03.trans f4)
theorem k_wStacks {S S' : Nat → Prop} {h : Heap} {a b : Sl} {xs ys : List (List Int)} (H : RdR S h a xs) (H' : RdR S' h b ys) (he : xs = ys) : Ret Tryz.prog 15 #[.agg #[a.v], .agg #[b.v]] h (VB true) := by
  intro K HK
  refine v15 a b h K fun b1 b2 h2 hb1 hb2 f2 hL2 => ?_
  have f2 := f2.in_nil
  exact k_wRows (H.no f2) (H'.no f2) he _ ⟨_, rfl, hL2, HK h2 f2⟩
theorem k_wSum {S : Nat → Prop} {h : Heap} {a : Sl} {xs : List Int} (H : RdI S h a xs) (hb : ∀ x, x ∈ xs → 0 ≤ x ∧ x ≤ 1000) (hn : xs.length ≤ 1000) (K : Value → Heap → Prop) (HK : K (VI xs.sum) h) : callM Tryz.prog 20 #[a.v] h K := by
  have an := RdI.len H
  refine v20 a h K ⟨fun m s p h' => h' = h ∧ 0 ≤ p ∧ p + m = (xs.length : Int) ∧ s = (xs.take p.toNat).sum, ⟨xs.length, rfl, by omega, by omega, by simp⟩, ?_⟩
  rintro m s p h1 ⟨rfl, p0, p1, rfl⟩ hL1
  refine ⟨fun e => ?_, fun e => ?_⟩
  · simp only [decide_eq_true_eq] at e
    have hp : p.toNat < xs.length := by omega
    have e1 : (xs.take (p.toNat + 1)).sum = (xs.take p.toNat).sum + xs[p.toNat] := by rw [List.take_add_one, List.getElem?_eq_getElem hp]; simp only [Option.toList_some, List.sum_append, List.sum_cons, List.sum_nil, Int.add_zero]
    have b1 := sum_le (xs.take (p.toNat + 1)) fun x hx => hb x (List.mem_of_mem_take hx)
    have l1 : (xs.take (p.toNat + 1)).length ≤ 1000 := by simp; omega
    refine ⟨H.inb p0 (by omega), _, H.get p0 (by omega), m - 1, by omega, rfl, ?_, ?_, ?_⟩
    · rw [w64_eq _ (by omega) (by omega)]; omega
    · rw [w64_eq _ (by omega) (by omega)]; omega
    · rw [w64_eq (p + 1) (by omega) (by omega), w64_eq _ (by omega) (by omega), show (p + 1).toNat = p.toNat + 1 by omega, e1]
  · simp only [decide_eq_false_iff_not] at e
    rw [List.take_of_length_le (by omega)]
    exact HK
theorem walk_to {g : List (List Int)} {rs : List Int} {p : Int} (W : WOK g (rs, p)) : walkB g rs p = true := by
  unfold walkB
  have h1 := W.lo
  have h2 := W.hi
  have h3 := W.len
  simp only at h1 h2 h3
  rw [W.graph, inR_iff.2 ⟨h1, by omega⟩, decide_eq_true h3, Bool.true_and, Bool.true_and, Bool.true_and, List.all_eq_true]
  intro x hx
  obtain ⟨i, hi, rfl⟩ := List.mem_iff_getElem.1 hx
  rw [List.length_zip] at hi
  have := W.rot i (by simp only; omega) (by omega)
  rw [List.getElem_zip]
  unfold rotB
  rw [inR_iff]
  exact this
theorem stack_to {g S : List (List Int)} {sink : Int} (W : SOK g S) (h0 : 0 ≤ sink) (h1 : sink < (g.length : Int)) (hz : (S.getD sink.toNat []).length = 0) : stackB g sink S = true := by
  have hl := W.len
  have hg := W.graph
  unfold stackB
  simp only [Bool.and_eq_true, decide_eq_true_eq, inR_iff]
  refine ⟨⟨hg, h0, by omega⟩, hl, hz, List.all_eq_true.2 fun q hq => ?_⟩
  obtain ⟨i, hi, rfl⟩ := List.getElem_of_mem hq
  have hi2 : i < g.length ∧ i < S.length := by simp only [List.length_zip] at hi; omega
  rw [List.getElem_zip]
  have s1 := W.short i hi2.2
  have s2 := W.ent i hi2.2 hi2.1
  simp only [Bool.and_eq_true, Bool.not_eq_true', decide_eq_false_iff_not]
  refine ⟨by omega, List.all_eq_true.2 fun x hx => ?_⟩
  rw [inR_iff]
  have := s2 x hx
  omega
theorem diffL_get (S E : List (List Int)) : ∀ n i, i < n → (diffL S E n).getD i 0 = ((S.getD i []).length : Int) - (E.getD i []).length
  | 0, i, h => by omega
  | n + 1, i, h => by
    rw [diffL]
    by_cases e : i < n
    · rw [getD_getI (by simp [diffL_len]; omega), List.getElem_append_left (by rw [diffL_len]; exact e), ← getD_getI, diffL_get S E n i e]
    · have ei : i = n := by omega
      subst ei
      rw [getD_getI (by simp [diffL_len]), List.getElem_append_right (by rw [diffL_len]; exact Nat.le_refl _)]
      simp [diffL_len]
theorem popped_all {g : List (List Int)} {sink : Int} {S : List (List Int)} {cs : List Int} (h : (poppedP g sink S cs).2.2 = true) : ∃ (E : List (List Int)) (k : Nat), poppedP g sink S cs = (E, (k : Int), true) ∧ poppedP g sink S [] = (E, (k : Int), true) ∧ stackB g sink S = true ∧ SOK g S ∧ SOK g E ∧ 0 ≤ sink ∧ sink < (g.length : Int) ∧ (S.getD sink.toNat []).length = 0 ∧ Red g k S E ∧ (cycsP g E).length = 0 ∧ (topsP sink E).2 = true := by
  by_cases hb : (stackB g sink S && (decide (cs.length ≤ 100) && !cs.any fun c => decide (c < 0))) = true
  · have e : poppedP g sink S cs = endP g sink cs 201 0 S := by unfold poppedP; exact if_pos hb
    rw [e] at h ⊢
    rw [Bool.and_eq_true, Bool.and_eq_true] at hb
    obtain ⟨W, s0, s1, sz⟩ := stack_of hb.1
    have hcs := cs_ok hb.2.2
    obtain ⟨k, k1, hr, hk, hc, ht⟩ := endP_red hcs 201 0 S W h
    have hE := (endP_ok 201 0 S W h).1
    have hno := normal_of hE hc
    refine ⟨(endP g sink cs 201 0 S).1, k, ?_, ?_, hb.1, W, hE, s0, s1, sz, hr, hc, ht⟩
    · have := endP_of hcs hno ht 201 0 k S W hr k1
      rw [this]; simp
    · rw [popped_yes hb.1]
      have := endP_of (cs := []) (fun c hc => by cases hc) hno ht 201 0 k S W hr k1
      rw [this]; simp
  · unfold poppedP at h
    rw [if_neg hb] at h
    simp at h
theorem tops_wok {g E : List (List Int)} {sink : Int} (W : SOK g E) (ht : (topsP sink E).2 = true) : WOK g ((topsP sink E).1, 0) := by
  obtain ⟨hl, hg⟩ := tops_get ht
  have el := W.len
  have gl := graph_len W.graph
  refine ⟨W.graph, by simp only; omega, Int.le_refl 0, by simp only; omega, fun i a b => ?_⟩
  simp only at a ⊢
  obtain ⟨e1, e2⟩ := hg i (by omega)
  rw [getD_getI a] at e1
  rw [e1]
  by_cases hs : (i : Int) = sink
  · rw [if_pos hs]; omega
  · rw [if_neg hs]
    have e3 := e2 hs
    rw [getD_get (by omega)] at e3 ⊢
    rw [getD_getI (by omega)]
    have := W.ent i (by omega) b _ (List.getElem_mem (show 0 < (E[i]'(by omega)).length by omega))
    omega
theorem nx_tops {g E : List (List Int)} {sink : Int} (W : SOK g E) (ht : (topsP sink E).2 = true) {p : Int} (h0 : 0 ≤ p) (h1 : p < (g.length : Int)) (hs : p ≠ sink) : nx g (topsP sink E).1 p = sx g E p := by
  obtain ⟨hl, hg⟩ := tops_get ht
  have el := W.len
  obtain ⟨e1, e2⟩ := hg p.toNat (by omega)
  rw [show ((p.toNat : Nat) : Int) = p by omega] at e1 e2
  rw [if_neg hs] at e1
  have e3 := e2 hs
  have hE : (E.getD p.toNat []).length = (E[p.toNat]'(by omega)).length := by rw [getD_get (by omega)]
  have hne : (g.getD p.toNat []).length ≠ 0 := by
    have := W.ent p.toNat (by omega) (by omega) _ (List.getElem_mem (show 0 < (E[p.toNat]'(by omega)).length by omega))
    rw [getD_get (by omega)]
    omega
  unfold nx sx
  rw [if_neg (by omega), if_neg hne, if_neg (by omega), if_neg e3, e1]
theorem tops_tw {g E : List (List Int)} {sink : Int} (W : SOK g E) (ht : (topsP sink E).2 = true) : ∀ (k m r : Nat) (p : Int), itf (sx g E) p k = sink → (∀ j, j ≤ k → 0 ≤ itf (sx g E) p j ∧ itf (sx g E) p j < (g.length : Int)) → m + k ≤ g.length + 1 → k < r → (twN (nx g (topsP sink E).1) sink g.length r m p).isSome = true
  | k, m, 0, p, _, _, _, hr => by omega
  | k, m, r + 1, p, hk, hp, hm, hr => by
    rw [twN]
    by_cases e : p = sink
    · rw [if_pos e]; rfl
    · rw [if_neg e]
      match k, hk, hp, hm, hr with
      | 0, hk, _, _, _ => exact absurd hk e
      | k + 1, hk, hp, hm, hr =>
        have p0 : 0 ≤ p ∧ p < (g.length : Int) := hp 0 (by omega)
        have p1 : 0 ≤ sx g E p ∧ sx g E p < (g.length : Int) := hp 1 (by omega)
        have sh : ∀ j, itf (sx g E) (sx g E p) j = itf (sx g E) p (j + 1) := fun j => by
          rw [Nat.add_comm, itf_add]; rfl
        rw [nx_tops W ht p0.1 p0.2 e, if_neg (by omega)]
        exact tops_tw W ht k (m + 1) r _ (by rw [sh]; exact hk) (fun j hj => by rw [sh]; exact hp (j + 1) (by omega)) (by omega) (by omega)
theorem tops_tree {g E : List (List Int)} {sink : Int} (W : SOK g E) (hn : (cycsP g E).length = 0) (ht : (topsP sink E).2 = true) : treeB g (topsP sink E).1 sink = true := by
  refine tree_of fun p hp => ?_
  obtain ⟨k, k1, k2, k3⟩ := to_sink W (normal_of W hn) ht (p := (p : Int)) (by omega) (by omega)
  exact tops_tw W ht k 0 _ _ k2 (fun j hj => ⟨k3 j hj, (its_lt W (p := (p : Int)) (by omega) (by omega) j).2⟩) (by omega) (by omega)
theorem tops_sinkr {g E : List (List Int)} {sink : Int} (W : SOK g E) (h0 : 0 ≤ sink) (h1 : sink < (g.length : Int)) (ht : (topsP sink E).2 = true) : sinkrB g sink (topsP sink E).1 = true := by
  have w := walk_to (tops_wok W ht)
  obtain ⟨hl, hg⟩ := tops_get ht
  have el := W.len
  obtain ⟨e1, _⟩ := hg sink.toNat (by omega)
  rw [if_pos (by omega)] at e1
  unfold sinkrB
  rw [w, e1, W.graph, inR_iff.2 ⟨h0, by omega⟩]
  rfl
theorem popped_law {g : List (List Int)} {sink : Int} {S : List (List Int)} {cs : List Int} (h : (poppedP g sink S cs).2.2 = true) : ∃ E : List (List Int), popAllP g sink S cs = (E, true) ∧ popAllP g sink S [] = (E, true) ∧ (popsP g sink S).2 = true ∧ (countP g sink S).2 = true ∧ (treeP g sink S).2 = true ∧ 0 ≤ sink ∧ sink < (g.length : Int) ∧ (popsP g sink S).1.length = g.length ∧ E.length = g.length ∧ S.length = g.length ∧ (popsP g sink S).1.getD sink.toNat 0 = 0 ∧ (∀ p, p < g.length → 0 ≤ (popsP g sink S).1.getD p 0 ∧ (popsP g sink S).1.getD p 0 ≤ 12 ∧ ((E.getD p []).length : Int) = ((S.getD p []).length : Int) - (popsP g sink S).1.getD p 0 ∧ E.getD p [] = (S.getD p []).drop ((popsP g sink S).1.getD p 0).toNat) ∧ isTreeP g sink (treeP g sink S).1 = (true, true) ∧ topsOfP g sink E = ((treeP g sink S).1, true) ∧ cycsOfP g sink E = ([], true) ∧ ((countP g sink S).1 = 0 ↔ (popsP g sink S).1.sum = 0) ∧ (countP g sink S).1 ≤ (popsP g sink S).1.sum := by
  obtain ⟨E, k, e1, e2, hB, W, WE, s0, s1, sz, hr, hc, ht⟩ := popped_all h
  have sl := W.len
  have el := WE.len
  obtain ⟨_, rest⟩ := hr.rest
  have ez : (E.getD sink.toNat []).length = 0 := by
    obtain ⟨m, hm⟩ := rest sink.toNat
    rw [hm, List.length_drop]; omega
  have hP : popsP g sink S = (diffL S E S.length, true) := by unfold popsP; rw [e2]; rfl
  have hT : treeP g sink S = topsP sink E := by unfold treeP; rw [e2]; rfl
  have hC : countP g sink S = ((k : Int), true) := by unfold countP; rw [e2]
  have hEB := stack_to WE s0 s1 ez
  have hsum := diff_sum S E S.length (Nat.le_refl _) (by omega)
  have rl := red_len W hr
  rw [← sl] at rl
  refine ⟨E, by unfold popAllP; rw [e1], by unfold popAllP; rw [e2], by rw [hP], by rw [hC], by rw [hT]; exact ht, s0, s1, by rw [hP]; simp only [diffL_len]; exact sl, el, sl, ?_, fun p hp => ?_, ?_, ?_, ?_, ?_, ?_⟩
  · rw [hP]; simp only; rw [diffL_get _ _ _ _ (by omega)]; omega
  · rw [hP]; simp only; rw [diffL_get _ _ _ _ (by omega)]
    obtain ⟨m, hm⟩ := rest p
    have hlen : (E.getD p []).length = (S.getD p []).length - m := by rw [hm]; simp
    have sh := W.short p (by omega)
    have hS : (S.getD p []).length = (S[p]'(by omega)).length := by rw [getD_get (by omega)]
    refine ⟨by omega, by omega, by omega, ?_⟩
    by_cases hle : m ≤ (S.getD p []).length
    · rw [show (((S.getD p []).length : Int) - ((E.getD p []).length : Int)).toNat = m by omega]; exact hm
    · rw [show (((S.getD p []).length : Int) - ((E.getD p []).length : Int)).toNat = (S.getD p []).length by omega, hm, List.drop_eq_nil_of_le (by omega), List.drop_eq_nil_of_le (Nat.le_refl _)]
  · unfold isTreeP; rw [hT, tops_sinkr WE s0 s1 ht, tops_tree WE hc ht]; rfl
  · unfold topsOfP; rw [hEB, hT, if_pos rfl]
    exact Prod.ext rfl ht
  · unfold cycsOfP; rw [hEB, if_pos rfl, List.length_eq_zero_iff.1 hc]
  · rw [hP, hC]; simp only; rw [hsum]; constructor
    · intro hk; have := rl.2 (by omega); omega
    · intro hk; have := rl.1; omega
  · rw [hP, hC]; simp only; rw [hsum]; have := rl.1; omega
def w3_1 (P : Program) (J_1 : Heap → Prop) (b_5 : Nat) (t81_1 : Sl) (b_4 : Nat) (t74_1 : Sl) (b_3 : Nat) (t66_1 : Sl) (b_2 : Nat) (t56_3 : Sl) (b_1 : Nat) (t56_1 : Sl) (more1_1 : Sl) (K : Value → Heap → Prop) : Prop :=
  ∀ (h_34 : Heap), J_1  h_34 → Vars h_34 [(b_5, [(Sl.v t81_1)]), (b_4, [(Sl.v t74_1)]), (b_3, [(Sl.v t66_1)]), (b_2, [(Sl.v t56_3)]), (b_1, [(Sl.v t56_1)])] →
  callM P 21 #[(Sl.v more1_1)] h_34 fun rv_24 h_35 => ∃ t310_1 : Sl, ∃ t310_2 : Int, ∃ t310_3 : Sl, ∃ t310_4 : Sl, rv_24 = (Value.tuple #[(Value.agg #[(Sl.v t310_1)]), (VI t310_2), (Value.agg #[(Sl.v t310_3)]), (Sl.v t310_4)]) ∧ Vars h_35 [(b_5, [(Sl.v t81_1)]), (b_4, [(Sl.v t74_1)]), (b_3, [(Sl.v t66_1)]), (b_2, [(Sl.v t56_3)]), (b_1, [(Sl.v t56_1)])] ∧
  ∀ (b_6 : Nat) (b_7 : Nat) (h_39 : Heap), h_35.size ≤ b_6 → h_35.size ≤ b_7 → Fr (In []) h_35 h_39 → Vars h_39 [(b_7, [(Sl.v t310_3)]), (b_6, [(Sl.v t310_1)]), (b_5, [(Sl.v t81_1)]), (b_4, [(Sl.v t74_1)]), (b_3, [(Sl.v t66_1)]), (b_2, [(Sl.v t56_3)]), (b_1, [(Sl.v t56_1)])] →
  callM P 22 #[(Value.agg #[(Sl.v t310_1)]), (VI t310_2), (Value.agg #[(Sl.v t310_3)]), (Sl.v t310_4)] h_39 fun rv_25 h_40 => ∃ t320_1 : Sl, ∃ t320_2 : Bool, rv_25 = (Value.tuple #[(Sl.v t320_1), (VB t320_2)]) ∧ Vars h_40 [(b_7, [(Sl.v t310_3)]), (b_6, [(Sl.v t310_1)]), (b_5, [(Sl.v t81_1)]), (b_4, [(Sl.v t74_1)]), (b_3, [(Sl.v t66_1)]), (b_2, [(Sl.v t56_3)]), (b_1, [(Sl.v t56_1)])] ∧
  callM P 23 #[(Value.agg #[(Sl.v t310_1)]), (VI t310_2), (Value.agg #[(Sl.v t310_3)]), (Sl.v t310_4)] h_40 fun rv_26 h_41 => ∃ t328_1 : Sl, ∃ t328_2 : Bool, rv_26 = (Value.tuple #[(Sl.v t328_1), (VB t328_2)]) ∧ Vars h_41 [(b_7, [(Sl.v t310_3)]), (b_6, [(Sl.v t310_1)]), (b_5, [(Sl.v t81_1)]), (b_4, [(Sl.v t74_1)]), (b_3, [(Sl.v t66_1)]), (b_2, [(Sl.v t56_3)]), (b_1, [(Sl.v t56_1)])] ∧
  callM P 24 #[(Value.agg #[(Sl.v t310_1)]), (VI t310_2), (Value.agg #[(Sl.v t310_3)]), (Sl.v t310_4)] h_41 fun rv_27 h_42 => ∃ t336_1 : Int, ∃ t336_2 : Bool, rv_27 = (Value.tuple #[(VI t336_1), (VB t336_2)]) ∧ Vars h_42 [(b_7, [(Sl.v t310_3)]), (b_6, [(Sl.v t310_1)]), (b_5, [(Sl.v t81_1)]), (b_4, [(Sl.v t74_1)]), (b_3, [(Sl.v t66_1)]), (b_2, [(Sl.v t56_3)]), (b_1, [(Sl.v t56_1)])] ∧
  callM P 25 #[(Value.agg #[(Sl.v t310_1)]), (VI t310_2), (Value.agg #[(Sl.v t310_3)]), (Sl.v t310_4)] h_42 fun rv_28 h_43 => ∃ t344_1 : Int, ∃ t344_2 : Bool, rv_28 = (Value.tuple #[(VI t344_1), (VB t344_2)]) ∧ Vars h_43 [(b_7, [(Sl.v t310_3)]), (b_6, [(Sl.v t310_1)]), (b_5, [(Sl.v t81_1)]), (b_4, [(Sl.v t74_1)]), (b_3, [(Sl.v t66_1)]), (b_2, [(Sl.v t56_3)]), (b_1, [(Sl.v t56_1)])] ∧
  ((!(t320_2 == t328_2)) = true →
  K (VB false) h_43) ∧
  ((!(t320_2 == t328_2)) = false →
  callM P 16 #[(Sl.v t320_1), (Sl.v t328_1)] h_43 fun rv_29 h_44 => ∃ t353_1 : Bool, rv_29 = (VB t353_1) ∧ Vars h_44 [(b_7, [(Sl.v t310_3)]), (b_6, [(Sl.v t310_1)]), (b_5, [(Sl.v t81_1)]), (b_4, [(Sl.v t74_1)]), (b_3, [(Sl.v t66_1)]), (b_2, [(Sl.v t56_3)]), (b_1, [(Sl.v t56_1)])] ∧
  ((!t353_1) = true →
  K (VB false) h_44) ∧
  ((!t353_1) = false →
  ((!(t336_2 == t344_2)) = true →
  K (VB false) h_44) ∧
  ((!(t336_2 == t344_2)) = false →
  ((!decide (t336_1 = t344_1)) = true →
  K (VB false) h_44) ∧
  ((!decide (t336_1 = t344_1)) = false →
  ((!(t336_2 == t320_2)) = true →
  K (VB false) h_44) ∧
  ((!(t336_2 == t320_2)) = false →
  (t320_2 = true →
  callM P 13 #[(Value.agg #[(Sl.v t310_1)]), (VI t310_2), (Value.agg #[(Sl.v t310_3)])] h_44 fun rv_30 h_45 => ∃ t376_1 : Sl, ∃ t376_2 : Bool, rv_30 = (Value.tuple #[(Sl.v t376_1), (VB t376_2)]) ∧ Vars h_45 [(b_7, [(Sl.v t310_3)]), (b_6, [(Sl.v t310_1)]), (b_5, [(Sl.v t81_1)]), (b_4, [(Sl.v t74_1)]), (b_3, [(Sl.v t66_1)]), (b_2, [(Sl.v t56_3)]), (b_1, [(Sl.v t56_1)])] ∧
  callM P 9 #[(Value.agg #[(Sl.v t310_1)]), (VI t310_2), (Value.agg #[(Sl.v t310_3)])] h_45 fun rv_31 h_46 => ∃ t383_1 : Sl, ∃ t383_2 : Bool, rv_31 = (Value.tuple #[(Sl.v t383_1), (VB t383_2)]) ∧ Vars h_46 [(b_7, [(Sl.v t310_3)]), (b_6, [(Sl.v t310_1)]), (b_5, [(Sl.v t81_1)]), (b_4, [(Sl.v t74_1)]), (b_3, [(Sl.v t66_1)]), (b_2, [(Sl.v t56_3)]), (b_1, [(Sl.v t56_1)])] ∧
  (t376_2 = true →
  callM P 16 #[(Sl.v t376_1), (Sl.v t320_1)] h_46 fun rv_32 h_47 => ∃ t390_1 : Bool, rv_32 = (VB t390_1) ∧ Vars h_47 [(b_7, [(Sl.v t310_3)]), (b_6, [(Sl.v t310_1)]), (b_5, [(Sl.v t81_1)]), (b_4, [(Sl.v t74_1)]), (b_3, [(Sl.v t66_1)]), (b_2, [(Sl.v t56_3)]), (b_1, [(Sl.v t56_1)])] ∧
  (t390_1 = true →
  (t383_2 = true →
  callM P 20 #[(Sl.v t383_1)] h_47 fun rv_33 h_48 => ∃ t398_1 : Int, rv_33 = (VI t398_1) ∧ Vars h_48 [(b_7, [(Sl.v t310_3)]), (b_6, [(Sl.v t310_1)]), (b_5, [(Sl.v t81_1)]), (b_4, [(Sl.v t74_1)]), (b_3, [(Sl.v t66_1)]), (b_2, [(Sl.v t56_3)]), (b_1, [(Sl.v t56_1)])] ∧
  K (VB (decide (t336_1 = (w64 ((w64 (t398_1 + (t310_1.n : Int))) - 1))))) h_48) ∧
  (t383_2 = false →
  K (VB false) h_47)) ∧
  (t390_1 = false →
  K (VB false) h_47)) ∧
  (t376_2 = false →
  K (VB false) h_46)) ∧
  (t320_2 = false →
  K (VB true) h_44))))))
def w3 (P : Program) (code0_1 : Sl) (more1_1 : Sl) (h : Heap) (K : Value → Heap → Prop) : Prop :=
  callM P 5 #[(Sl.v code0_1), (Sl.v more1_1)] h fun rv_1 h_1 => ∃ t53_1 : Bool, rv_1 = (VB t53_1) ∧ Vars h_1 [] ∧
  (t53_1 = true →
  K (VB true) h_1) ∧
  (t53_1 = false →
  callM P 6 #[(Sl.v code0_1)] h_1 fun rv_2 h_2 => ∃ t56_1 : Sl, ∃ t56_2 : Int, ∃ t56_3 : Sl, ∃ t56_4 : Sl, rv_2 = (Value.tuple #[(Value.agg #[(Sl.v t56_1)]), (VI t56_2), (Value.agg #[(Sl.v t56_3)]), (Sl.v t56_4)]) ∧ Vars h_2 [] ∧
  ∀ (b_1 : Nat) (b_2 : Nat) (h_6 : Heap), h_2.size ≤ b_1 → h_2.size ≤ b_2 → Fr (In []) h_2 h_6 → Vars h_6 [(b_2, [(Sl.v t56_3)]), (b_1, [(Sl.v t56_1)])] →
  callM P 7 #[(Value.agg #[(Sl.v t56_1)]), (VI t56_2), (Value.agg #[(Sl.v t56_3)]), (Sl.v t56_4)] h_6 fun rv_3 h_7 => ∃ t66_1 : Sl, ∃ t66_2 : Bool, rv_3 = (Value.tuple #[(Value.agg #[(Sl.v t66_1)]), (VB t66_2)]) ∧ Vars h_7 [(b_2, [(Sl.v t56_3)]), (b_1, [(Sl.v t56_1)])] ∧
  ∀ (b_3 : Nat) (h_9 : Heap), h_7.size ≤ b_3 → Fr (In []) h_7 h_9 → Vars h_9 [(b_3, [(Sl.v t66_1)]), (b_2, [(Sl.v t56_3)]), (b_1, [(Sl.v t56_1)])] →
  callM P 8 #[(Value.agg #[(Sl.v t56_1)]), (VI t56_2), (Value.agg #[(Sl.v t56_3)]), (Sl.v t56_4)] h_9 fun rv_4 h_10 => ∃ t74_1 : Sl, ∃ t74_2 : Bool, rv_4 = (Value.tuple #[(Value.agg #[(Sl.v t74_1)]), (VB t74_2)]) ∧ Vars h_10 [(b_3, [(Sl.v t66_1)]), (b_2, [(Sl.v t56_3)]), (b_1, [(Sl.v t56_1)])] ∧
  ∀ (b_4 : Nat) (h_12 : Heap), h_10.size ≤ b_4 → Fr (In []) h_10 h_12 → Vars h_12 [(b_4, [(Sl.v t74_1)]), (b_3, [(Sl.v t66_1)]), (b_2, [(Sl.v t56_3)]), (b_1, [(Sl.v t56_1)])] →
  callM P 7 #[(Value.agg #[(Sl.v t56_1)]), (VI t56_2), (Value.agg #[(Sl.v t56_3)]), (Sl.v nilSl)] h_12 fun rv_5 h_13 => ∃ t81_1 : Sl, ∃ t81_2 : Bool, rv_5 = (Value.tuple #[(Value.agg #[(Sl.v t81_1)]), (VB t81_2)]) ∧ Vars h_13 [(b_4, [(Sl.v t74_1)]), (b_3, [(Sl.v t66_1)]), (b_2, [(Sl.v t56_3)]), (b_1, [(Sl.v t56_1)])] ∧
  ∀ (b_5 : Nat) (h_15 : Heap), h_13.size ≤ b_5 → Fr (In []) h_13 h_15 → Vars h_15 [(b_5, [(Sl.v t81_1)]), (b_4, [(Sl.v t74_1)]), (b_3, [(Sl.v t66_1)]), (b_2, [(Sl.v t56_3)]), (b_1, [(Sl.v t56_1)])] →
  callM P 9 #[(Value.agg #[(Sl.v t56_1)]), (VI t56_2), (Value.agg #[(Sl.v t56_3)])] h_15 fun rv_6 h_16 => ∃ t88_1 : Sl, ∃ t88_2 : Bool, rv_6 = (Value.tuple #[(Sl.v t88_1), (VB t88_2)]) ∧ Vars h_16 [(b_5, [(Sl.v t81_1)]), (b_4, [(Sl.v t74_1)]), (b_3, [(Sl.v t66_1)]), (b_2, [(Sl.v t56_3)]), (b_1, [(Sl.v t56_1)])] ∧
  callM P 10 #[(Value.agg #[(Sl.v t56_1)]), (VI t56_2), (Value.agg #[(Sl.v t56_3)])] h_16 fun rv_7 h_17 => ∃ t95_1 : Sl, ∃ t95_2 : Bool, rv_7 = (Value.tuple #[(Sl.v t95_1), (VB t95_2)]) ∧ Vars h_17 [(b_5, [(Sl.v t81_1)]), (b_4, [(Sl.v t74_1)]), (b_3, [(Sl.v t66_1)]), (b_2, [(Sl.v t56_3)]), (b_1, [(Sl.v t56_1)])] ∧
  callM P 11 #[(Value.agg #[(Sl.v t56_1)]), (VI t56_2), (Value.agg #[(Sl.v t56_3)])] h_17 fun rv_8 h_18 => ∃ t102_1 : Int, ∃ t102_2 : Bool, rv_8 = (Value.tuple #[(VI t102_1), (VB t102_2)]) ∧ Vars h_18 [(b_5, [(Sl.v t81_1)]), (b_4, [(Sl.v t74_1)]), (b_3, [(Sl.v t66_1)]), (b_2, [(Sl.v t56_3)]), (b_1, [(Sl.v t56_1)])] ∧
  callM P 12 #[(Value.agg #[(Sl.v t56_1)]), (VI t56_2), (Value.agg #[(Sl.v t56_3)])] h_18 fun rv_9 h_19 => ∃ t109_1 : Int, ∃ t109_2 : Bool, rv_9 = (Value.tuple #[(VI t109_1), (VB t109_2)]) ∧ Vars h_19 [(b_5, [(Sl.v t81_1)]), (b_4, [(Sl.v t74_1)]), (b_3, [(Sl.v t66_1)]), (b_2, [(Sl.v t56_3)]), (b_1, [(Sl.v t56_1)])] ∧
  callM P 13 #[(Value.agg #[(Sl.v t56_1)]), (VI t56_2), (Value.agg #[(Sl.v t56_3)])] h_19 fun rv_10 h_20 => ∃ t116_1 : Sl, ∃ t116_2 : Bool, rv_10 = (Value.tuple #[(Sl.v t116_1), (VB t116_2)]) ∧ Vars h_20 [(b_5, [(Sl.v t81_1)]), (b_4, [(Sl.v t74_1)]), (b_3, [(Sl.v t66_1)]), (b_2, [(Sl.v t56_3)]), (b_1, [(Sl.v t56_1)])] ∧
  callM P 14 #[(Value.agg #[(Sl.v t56_1)]), (VI t56_2), (Value.agg #[(Sl.v t56_3)])] h_20 fun rv_11 h_21 => ∃ t123_1 : Sl, ∃ t123_2 : Bool, rv_11 = (Value.tuple #[(Sl.v t123_1), (VB t123_2)]) ∧ Vars h_21 [(b_5, [(Sl.v t81_1)]), (b_4, [(Sl.v t74_1)]), (b_3, [(Sl.v t66_1)]), (b_2, [(Sl.v t56_3)]), (b_1, [(Sl.v t56_1)])] ∧
  ((!(t66_2 == t74_2)) = true →
  K (VB false) h_21) ∧
  ((!(t66_2 == t74_2)) = false →
  callM P 15 #[(Value.agg #[(Sl.v t66_1)]), (Value.agg #[(Sl.v t74_1)])] h_21 fun rv_12 h_22 => ∃ t132_1 : Bool, rv_12 = (VB t132_1) ∧ Vars h_22 [(b_5, [(Sl.v t81_1)]), (b_4, [(Sl.v t74_1)]), (b_3, [(Sl.v t66_1)]), (b_2, [(Sl.v t56_3)]), (b_1, [(Sl.v t56_1)])] ∧
  ((!t132_1) = true →
  K (VB false) h_22) ∧
  ((!t132_1) = false →
  ((!(t88_2 == t95_2)) = true →
  K (VB false) h_22) ∧
  ((!(t88_2 == t95_2)) = false →
  callM P 16 #[(Sl.v t88_1), (Sl.v t95_1)] h_22 fun rv_13 h_23 => ∃ t143_1 : Bool, rv_13 = (VB t143_1) ∧ Vars h_23 [(b_5, [(Sl.v t81_1)]), (b_4, [(Sl.v t74_1)]), (b_3, [(Sl.v t66_1)]), (b_2, [(Sl.v t56_3)]), (b_1, [(Sl.v t56_1)])] ∧
  ((!t143_1) = true →
  K (VB false) h_23) ∧
  ((!t143_1) = false →
  ((!(t102_2 == t109_2)) = true →
  K (VB false) h_23) ∧
  ((!(t102_2 == t109_2)) = false →
  ((!decide (t102_1 = t109_1)) = true →
  K (VB false) h_23) ∧
  ((!decide (t102_1 = t109_1)) = false →
  ((!(t116_2 == t123_2)) = true →
  K (VB false) h_23) ∧
  ((!(t116_2 == t123_2)) = false →
  callM P 16 #[(Sl.v t116_1), (Sl.v t123_1)] h_23 fun rv_14 h_24 => ∃ t164_1 : Bool, rv_14 = (VB t164_1) ∧ Vars h_24 [(b_5, [(Sl.v t81_1)]), (b_4, [(Sl.v t74_1)]), (b_3, [(Sl.v t66_1)]), (b_2, [(Sl.v t56_3)]), (b_1, [(Sl.v t56_1)])] ∧
  ((!t164_1) = true →
  K (VB false) h_24) ∧
  ((!t164_1) = false →
  ((!(t81_2 == t88_2)) = true →
  K (VB false) h_24) ∧
  ((!(t81_2 == t88_2)) = false →
  ((!(t102_2 == t88_2)) = true →
  K (VB false) h_24) ∧
  ((!(t102_2 == t88_2)) = false →
  ((!(t116_2 == t88_2)) = true →
  K (VB false) h_24) ∧
  ((!(t116_2 == t88_2)) = false →
  (t66_2 = true →
  ((!t81_2) = true →
  K (VB false) h_24) ∧
  ((!t81_2) = false →
  ∃ J_1 : Heap → Prop, (callM P 15 #[(Value.agg #[(Sl.v t66_1)]), (Value.agg #[(Sl.v t81_1)])] h_24 fun rv_15 h_25 => ∃ t192_1 : Bool, rv_15 = (VB t192_1) ∧ Vars h_25 [(b_5, [(Sl.v t81_1)]), (b_4, [(Sl.v t74_1)]), (b_3, [(Sl.v t66_1)]), (b_2, [(Sl.v t56_3)]), (b_1, [(Sl.v t56_1)])] ∧
  ((!t192_1) = true →
  K (VB false) h_25) ∧
  ((!t192_1) = false →
  ((!decide ((t88_1.n : Int) = (t56_1.n : Int))) = true →
  K (VB false) h_25) ∧
  ((!decide ((t88_1.n : Int) = (t56_1.n : Int))) = false →
  InB t88_1 t56_2 ∧
  ∃ t206_1 : Int, hcell h_25 (Sl.at t88_1 t56_2 1) = some (VI t206_1) ∧
  ((!decide (t206_1 = 0)) = true →
  K (VB false) h_25) ∧
  ((!decide (t206_1 = 0)) = false →
  ∃ J_2 : Nat → Int → Heap → Prop, (∃ n0 : Nat, J_2 n0 0 h_25) ∧
  ∀ (n_1 : Nat) (t211_1 : Int) (h_26 : Heap), J_2 n_1 t211_1 h_26 → Vars h_26 [(b_5, [(Sl.v t81_1)]), (b_4, [(Sl.v t74_1)]), (b_3, [(Sl.v t66_1)]), (b_2, [(Sl.v t56_3)]), (b_1, [(Sl.v t56_1)])] →
  ((decide (t211_1 < (t88_1.n : Int))) = true →
  InB t88_1 t211_1 ∧
  ∃ t215_1 : Int, hcell h_26 (Sl.at t88_1 t211_1 1) = some (VI t215_1) ∧
  InB t66_1 t211_1 ∧
  ∃ t220_1 : Sl, hcell h_26 (Sl.at t66_1 t211_1 1) = some (Sl.v t220_1) ∧
  InB t56_3 t211_1 ∧
  ∃ t226_1 : Sl, hcell h_26 (Sl.at t56_3 t211_1 1) = some (Sl.v t226_1) ∧
  ((!decide ((t220_1.n : Int) = (w64 ((t226_1.n : Int) - t215_1)))) = true →
  hcell h_26 (Sl.at t56_3 t211_1 1) = some (Sl.v t226_1) ∧
  hcell h_26 (Sl.at t66_1 t211_1 1) = some (Sl.v t220_1) ∧
  K (VB false) h_26) ∧
  ((!decide ((t220_1.n : Int) = (w64 ((t226_1.n : Int) - t215_1)))) = false →
  InB t66_1 t211_1 ∧
  ∃ t236_1 : Sl, hcell h_26 (Sl.at t66_1 t211_1 1) = some (Sl.v t236_1) ∧
  InB t56_3 t211_1 ∧
  ∃ t241_1 : Sl, hcell h_26 (Sl.at t56_3 t211_1 1) = some (Sl.v t241_1) ∧
  pop P (Instr.sliceAt 29 (Sl.v t241_1) (some (VI t215_1)) none none) fun rv_16 => ∃ t243_1 : Sl, rv_16 = (Sl.v t243_1) ∧
  callM P 16 #[(Sl.v t236_1), (Sl.v t243_1)] h_26 fun rv_17 h_27 => ∃ t244_1 : Bool, rv_17 = (VB t244_1) ∧ Vars h_27 [(b_5, [(Sl.v t81_1)]), (b_4, [(Sl.v t74_1)]), (b_3, [(Sl.v t66_1)]), (b_2, [(Sl.v t56_3)]), (b_1, [(Sl.v t56_1)])] ∧
  hcell h_27 (Sl.at t56_3 t211_1 1) = some (Sl.v t241_1) ∧
  hcell h_27 (Sl.at t56_3 t211_1 1) = some (Sl.v t226_1) ∧
  hcell h_27 (Sl.at t66_1 t211_1 1) = some (Sl.v t220_1) ∧
  ((!t244_1) = true →
  K (VB false) h_27) ∧
  ((!t244_1) = false →
  ∃ m : Nat, m < n_1 ∧ J_2 m (w64 (t211_1 + 1)) h_27))) ∧
  ((decide (t211_1 < (t88_1.n : Int))) = false →
  callM P 17 #[(Value.agg #[(Sl.v t56_1)]), (VI t56_2), (Sl.v t116_1)] h_26 fun rv_18 h_28 => ∃ t252_1 : Bool, ∃ t252_2 : Bool, rv_18 = (Value.tuple #[(VB t252_1), (VB t252_2)]) ∧ Vars h_28 [(b_5, [(Sl.v t81_1)]), (b_4, [(Sl.v t74_1)]), (b_3, [(Sl.v t66_1)]), (b_2, [(Sl.v t56_3)]), (b_1, [(Sl.v t56_1)])] ∧
  callM P 18 #[(Value.agg #[(Sl.v t56_1)]), (VI t56_2), (Value.agg #[(Sl.v t66_1)])] h_28 fun rv_19 h_29 => ∃ t259_1 : Sl, ∃ t259_2 : Bool, rv_19 = (Value.tuple #[(Sl.v t259_1), (VB t259_2)]) ∧ Vars h_29 [(b_5, [(Sl.v t81_1)]), (b_4, [(Sl.v t74_1)]), (b_3, [(Sl.v t66_1)]), (b_2, [(Sl.v t56_3)]), (b_1, [(Sl.v t56_1)])] ∧
  callM P 19 #[(Value.agg #[(Sl.v t56_1)]), (VI t56_2), (Value.agg #[(Sl.v t66_1)])] h_29 fun rv_20 h_30 => ∃ t266_1 : Sl, ∃ t266_2 : Bool, rv_20 = (Value.tuple #[(Sl.v t266_1), (VB t266_2)]) ∧ Vars h_30 [(b_5, [(Sl.v t81_1)]), (b_4, [(Sl.v t74_1)]), (b_3, [(Sl.v t66_1)]), (b_2, [(Sl.v t56_3)]), (b_1, [(Sl.v t56_1)])] ∧
  ((!t252_2) = true →
  K (VB false) h_30) ∧
  ((!t252_2) = false →
  ((!t252_1) = true →
  K (VB false) h_30) ∧
  ((!t252_1) = false →
  ((!t259_2) = true →
  K (VB false) h_30) ∧
  ((!t259_2) = false →
  callM P 16 #[(Sl.v t259_1), (Sl.v t116_1)] h_30 fun rv_21 h_31 => ∃ t282_1 : Bool, rv_21 = (VB t282_1) ∧ Vars h_31 [(b_5, [(Sl.v t81_1)]), (b_4, [(Sl.v t74_1)]), (b_3, [(Sl.v t66_1)]), (b_2, [(Sl.v t56_3)]), (b_1, [(Sl.v t56_1)])] ∧
  ((!t282_1) = true →
  K (VB false) h_31) ∧
  ((!t282_1) = false →
  ((!t266_2) = true →
  K (VB false) h_31) ∧
  ((!t266_2) = false →
  ((!decide ((t266_1.n : Int) = 0)) = true →
  K (VB false) h_31) ∧
  ((!decide ((t266_1.n : Int) = 0)) = false →
  callM P 20 #[(Sl.v t88_1)] h_31 fun rv_22 h_32 => ∃ t298_1 : Int, rv_22 = (VI t298_1) ∧ Vars h_32 [(b_5, [(Sl.v t81_1)]), (b_4, [(Sl.v t74_1)]), (b_3, [(Sl.v t66_1)]), (b_2, [(Sl.v t56_3)]), (b_1, [(Sl.v t56_1)])] ∧
  ((!((decide (t102_1 = 0)) == (decide (t298_1 = 0)))) = true →
  K (VB false) h_32) ∧
  ((!((decide (t102_1 = 0)) == (decide (t298_1 = 0)))) = false →
  callM P 20 #[(Sl.v t88_1)] h_32 fun rv_23 h_33 => ∃ t305_1 : Int, rv_23 = (VI t305_1) ∧ Vars h_33 [(b_5, [(Sl.v t81_1)]), (b_4, [(Sl.v t74_1)]), (b_3, [(Sl.v t66_1)]), (b_2, [(Sl.v t56_3)]), (b_1, [(Sl.v t56_1)])] ∧
  ((decide (t305_1 < t102_1)) = true →
  K (VB false) h_33) ∧
  ((decide (t305_1 < t102_1)) = false →
  J_1  h_33))))))))))))) ∧
  w3_1 P J_1 b_5 t81_1 b_4 t74_1 b_3 t66_1 b_2 t56_3 b_1 t56_1 more1_1 K)) ∧
  (t66_2 = false →
  ∃ J_3 : Heap → Prop, (J_3  h_24) ∧
  w3_1 P J_3 b_5 t81_1 b_4 t74_1 b_3 t66_1 b_2 t56_3 b_1 t56_1 more1_1 K)))))))))))))
theorem x3 (code0_1 : Sl) (more1_1 : Sl) (h : Heap) (K : Value → Heap → Prop) (H : w3 Tryz.prog code0_1 more1_1 h K) : callM Tryz.prog 3 #[(Sl.v code0_1), (Sl.v more1_1)] h K := v3 code0_1 more1_1 h K H
theorem tp_two (g : List (List Int)) (sink : Int) (S : List (List Int)) : (treeP g sink S).2 = (popsP g sink S).2 := by
  by_cases h : (poppedP g sink S []).2.2 = true
  · obtain ⟨E, _, _, l3, _, l5, _⟩ := popped_law h
    rw [l5, l3]
  · unfold treeP popsP
    rw [if_neg h, if_neg h]
theorem pops_mem {g : List (List Int)} {sink : Int} {S : List (List Int)} (h : (poppedP g sink S []).2.2 = true) : ∀ x, x ∈ (popsP g sink S).1 → 0 ≤ x ∧ x ≤ 12 := fun x hx => by
  obtain ⟨E, _, _, _, _, _, _, _, hl, _, _, _, hp, _⟩ := popped_law h
  obtain ⟨i, hi, rfl⟩ := List.getElem_of_mem hx
  have := hp i (by omega)
  rw [getD_getI hi] at this
  exact ⟨this.1, this.2.1⟩
theorem walk_told (g : List (List Int)) (sink : Int) (S : List (List Int)) (ord : List Int) : (walkSP g sink S ord).2 = (walkTP g sink S ord).2 := by
  unfold walkSP walkTP
  have := tp_two g sink S
  by_cases hn : namesB ord g.length = true
  · rw [if_pos hn, this, hn, Bool.true_and]
    cases h2 : (popsP g sink S).2 <;> simp
  · rw [if_neg hn, if_neg fun e => hn (by rw [Bool.and_eq_true] at e; exact e.1)]
theorem walk_law {g : List (List Int)} {sink : Int} {S : List (List Int)} {ord : List Int} (h : (walkTP g sink S ord).2 = true) : treeP g sink S = ((walkTP g sink S ord).1, true) ∧ (popsP g sink S).2 = true ∧ (walkSP g sink S ord).1 = (popsP g sink S).1.sum + g.length - 1 ∧ (∀ x, x ∈ (popsP g sink S).1 → 0 ≤ x ∧ x ≤ 12) ∧ (popsP g sink S).1.length = g.length ∧ g.length ≤ 8 := by
  have hn : namesB ord g.length = true := by
    by_cases hn : namesB ord g.length = true
    · exact hn
    · unfold walkTP at h; rw [if_neg hn] at h; cases h
  have e1 : walkTP g sink S ord = treeP g sink S := by unfold walkTP; rw [if_pos hn]
  rw [e1] at h ⊢
  have h2 : (popsP g sink S).2 = true := by rw [← tp_two]; exact h
  have h3 : (poppedP g sink S []).2.2 = true := by
    by_cases h3 : (poppedP g sink S []).2.2 = true
    · exact h3
    · unfold popsP at h2; rw [if_neg h3] at h2; cases h2
  obtain ⟨E, k, _, _, hB, W, _⟩ := popped_all h3
  obtain ⟨_, _, _, _, _, _, _, _, hl, _⟩ := popped_law h3
  refine ⟨Prod.ext rfl h, h2, ?_, pops_mem h3, hl, (graph_len W.graph).2⟩
  unfold walkSP
  rw [hn, h2]
  rfl
theorem stp_tail {h0 : Heap} {S1 : Nat → Prop} {s1 : Sl} {x1 : List Value} (G1 : RdV S1 h0 1 s1 x1) (B1 : ∀ v, v ∈ x1 → ∃ m : Int, v = Value.int .u8 m ∧ 0 ≤ m ∧ m ≤ 255) (J : Heap → Prop) (HJ : ∀ h', J h' → Fr No h0 h') (b5 : Nat) (u5 : Sl) (b4 : Nat) (u4 : Sl) (b3 : Nat) (u3 : Sl) (b2 : Nat) (u2 : Sl) (b1 : Nat) (u1 : Sl) {K : Value → Heap → Prop} (HK : ∀ h', Fr No h0 h' → K (VB true) h') : w3_1 Tryz.prog J b5 u5 b4 u4 b3 u3 b2 u2 b1 u1 s1 K := by
  unfold w3_1
  intro h34 hJ hL34
  have f34 := HJ _ hJ
  refine k_DrawTreeByWalks (G1.no f34) B1 _ fun t s u gs ls p cs h35 G35 R35 U35 f35 => ⟨t, p, s, u, rfl, hL34.of_no f35, fun b6 b7 h39 _ _ f39 hL39 => ?_⟩
  have f39 := f39.in_nil
  have G39 := G35.no f39
  have R39 := R35.no f39
  have U39 := U35.no f39
  refine k_TreeByWalks G39 R39 U39 p _ fun v h40 o40 f40 => ⟨v, _, rfl, hL39.of_no f40, ?_⟩
  refine k_spec_TreeByWalks (G39.no f40) (R39.no f40) (U39.no f40) p _ fun v' h41 o41 f41 => ⟨v', _, rfl, (hL39.of_no f40).of_no f41, ?_⟩
  have f4041 := f40.no_trans f41
  refine k_StepsByWalks (G39.no f4041) (R39.no f4041) (U39.no f4041) p _ fun h42 f42 => ⟨_, _, rfl, ((hL39.of_no f40).of_no f41).of_no f42, ?_⟩
  have f4042 := f4041.no_trans f42
  refine k_spec_StepsByWalks (G39.no f4042) (R39.no f4042) (U39.no f4042) p _ fun h43 f43 => ⟨_, _, rfl, (((hL39.of_no f40).of_no f41).of_no f42).of_no f43, fun e => by simp at e, fun _ => ?_⟩
  have f4043 := f4042.no_trans f43
  have hL43 := (((hL39.of_no f40).of_no f41).of_no f42).of_no f43
  have V43 : RdI _ h43 v _ := RdI.no o40.rdF ((f41.no_trans f42).no_trans f43)
  have V43' : RdI _ h43 v' _ := RdI.no o41.rdF (f42.no_trans f43)
  have G43 := G39.no f4043
  have R43 := R39.no f4043
  have f043 : Fr No h0 h43 := f34.no_trans (f35.no_trans (f39.no_trans f4043))
  refine k_wSame V43 V43' _ ⟨_, rfl, hL43, fun e => by simp at e, fun _ => ⟨fun e => by simp at e, fun _ => ⟨fun e => by simp at e, fun _ => ⟨fun e => ?_, fun _ => ⟨fun e => ?_, fun _ => HK h43 f043⟩⟩⟩⟩⟩
  · rw [walk_told] at e; simp at e
  obtain ⟨w1, w2, w3, w4, w5, w6⟩ := walk_law e
  refine k_TreeOfStacks G43 R43 p _ fun y h45 o45 f45 => ⟨y, _, rfl, hL43.of_no f45, ?_⟩
  refine k_PopsOf (G43.no f45) (R43.no f45) p _ fun z h46 o46 f46 => ⟨z, _, rfl, (hL43.of_no f45).of_no f46, fun _ => ?_, fun e2 => ?_⟩
  · have Y46 : RdI _ h46 y _ := RdI.no o45.rdF f46
    refine k_wSame Y46 (V43.no (f45.no_trans f46)) _ ⟨_, rfl, (hL43.of_no f45).of_no f46, fun _ => ⟨fun _ => ?_, fun e3 => ?_⟩, fun e3 => ?_⟩
    · have Z46 : RdI _ h46 z _ := o46.rdF
      refine k_wSum Z46 (fun x hx => by have := w4 x hx; omega) (by omega) _ ⟨_, rfl, (hL43.of_no f45).of_no f46, ?_⟩
      have sl := sum_le _ fun x hx => (show 0 ≤ x ∧ x ≤ 1000 by have := w4 x hx; omega)
      have gl := G43.len
      rw [w3, gl, w64_eq ((popsP gs p ls).1.sum + (gs.length : Int)) (by omega) (by omega), w64_eq _ (by omega) (by omega), decide_eq_true (by omega)]
      exact HK h46 (f043.no_trans (f45.no_trans f46))
    · rw [w2] at e3; cases e3
    · rw [w1] at e3; simp at e3
  · rw [w1] at e2; cases e2
set_option maxHeartbeats 4000000 in
theorem k_lawStacksPopped {h : Heap} {S0 S1 : Nat → Prop} {s0 s1 : Sl} {x0 x1 : List Value} (G0 : RdV S0 h 1 s0 x0) (B0 : ∀ v, v ∈ x0 → ∃ m : Int, v = Value.int .u8 m ∧ 0 ≤ m ∧ m ≤ 255) (G1 : RdV S1 h 1 s1 x1) (B1 : ∀ v, v ∈ x1 → ∃ m : Int, v = Value.int .u8 m ∧ 0 ≤ m ∧ m ≤ 255) : Ret Tryz.prog 3 #[s0.v, s1.v] h (VB true) := by
  intro K HK
  refine x3 s0 s1 h K ?_
  unfold w3
  refine k_big s0 s1 h _ fun b0 => ⟨b0, rfl, .nil, fun _ => HK h (Fr.refl _ _), fun _ => ?_⟩
  refine k_DrawPopAll G0 B0 _ fun t s u gs ls p cs h2 G2 R2 U2 C2 f2 => ⟨t, p, s, u, rfl, .nil, fun b1 b2 h6 _ _ f6 hL6 => ?_⟩
  have f6 := f6.in_nil
  have F6 := f2.no_trans f6
  have G6 := G2.no f6
  have R6 := R2.no f6
  have U6 := U2.no f6
  refine k_PopAll G6 R6 U6 C2 p _ fun a h7 o7 f7 => ⟨a, _, rfl, hL6.of_no f7, fun b3 h9 _ f9 hL9 => ?_⟩
  have f9 := f9.in_nil
  have f69 := f7.no_trans f9
  refine k_spec_PopAll (G6.no f69) (R6.no f69) (U6.no f69) C2 p _ fun a' h10 o10 f10 => ⟨a', _, rfl, hL9.of_no f10, fun b4 h12 _ f12 hL12 => ?_⟩
  have f12 := f12.in_nil
  have f612 := f69.no_trans (f10.no_trans f12)
  refine k_PopAll (G6.no f612) (R6.no f612) (rdI_nil h12) (fun n hn => by cases hn) p _ fun a2 h13 o13 f13 => ⟨a2, _, rfl, hL12.of_no f13, fun b5 h15 _ f15 hL15 => ?_⟩
  have f15 := f15.in_nil
  have f615 := f612.no_trans (f13.no_trans f15)
  refine k_PopsOf (G6.no f615) (R6.no f615) p _ fun q h16 o16 f16 => ⟨q, _, rfl, hL15.of_no f16, ?_⟩
  have f616 := f615.no_trans f16
  refine k_spec_PopsOf (G6.no f616) (R6.no f616) p _ fun q' h17 o17 f17 => ⟨q', _, rfl, (hL15.of_no f16).of_no f17, ?_⟩
  have f617 := f616.no_trans f17
  refine k_CountPops (G6.no f617) (R6.no f617) p _ fun h18 f18 => ⟨_, _, rfl, ((hL15.of_no f16).of_no f17).of_no f18, ?_⟩
  have f618 := f617.no_trans f18
  refine k_spec_CountPops (G6.no f618) (R6.no f618) p _ fun h19 f19 => ⟨_, _, rfl, (((hL15.of_no f16).of_no f17).of_no f18).of_no f19, ?_⟩
  have f619 := f618.no_trans f19
  refine k_TreeOfStacks (G6.no f619) (R6.no f619) p _ fun y h20 o20 f20 => ⟨y, _, rfl, ((((hL15.of_no f16).of_no f17).of_no f18).of_no f19).of_no f20, ?_⟩
  have f620 := f619.no_trans f20
  refine k_spec_TreeOfStacks (G6.no f620) (R6.no f620) p _ fun y' h21 o21 f21 => ⟨y', _, rfl, (((((hL15.of_no f16).of_no f17).of_no f18).of_no f19).of_no f20).of_no f21, fun e => by simp at e, fun _ => ?_⟩
  have hL21 := (((((hL15.of_no f16).of_no f17).of_no f18).of_no f19).of_no f20).of_no f21
  have f2021 := f20.no_trans f21
  have f1921 := f19.no_trans f2021
  have f1821 := f18.no_trans f1921
  have f1721 := f17.no_trans f1821
  have f1621 := f16.no_trans f1721
  have f1521 := f15.no_trans f1621
  have f1221 := f13.no_trans f1521
  have f1021 := f12.no_trans f1221
  have f921 := f10.no_trans f1021
  have f721 := f9.no_trans f921
  have A21 := (OwR.rd o7).no f721
  have A21' := (OwR.rd o10).no f1021
  have A212 := (OwR.rd o13).no f1521
  have Q21 : RdI _ h21 q _ := RdI.no o16.rdF f1721
  have Q21' : RdI _ h21 q' _ := RdI.no o17.rdF f1821
  have Y21 : RdI _ h21 y _ := RdI.no o20.rdF f21
  have Y21' : RdI _ h21 y' _ := o21.rdF
  have f021 : Fr No h h21 := F6.no_trans (f7.no_trans f721)
  have G21 := G6.no (f7.no_trans f721)
  have R21 := R6.no (f7.no_trans f721)
  refine k_wStacks A21 A21' rfl _ fun h22 f22 => ⟨_, rfl, hL21.of_no f22, fun e => by simp at e, fun _ => ⟨fun e => by simp at e, fun _ => ?_⟩⟩
  refine k_wSame (Q21.no f22) (Q21'.no f22) _ ⟨_, rfl, hL21.of_no f22, fun e => by simp at e, fun _ => ⟨fun e => by simp at e, fun _ => ⟨fun e => by simp at e, fun _ => ⟨fun e => by simp at e, fun _ => ?_⟩⟩⟩⟩
  have one : (popAllP gs p ls []).2 = (popsP gs p ls).2 := by
    unfold popAllP popsP
    cases (poppedP gs p ls []).2.2 <;> rfl
  have four : (countP gs p ls).2 = (popsP gs p ls).2 := by
    unfold countP popsP
    cases (poppedP gs p ls []).2.2 <;> rfl
  refine k_wSame (Y21.no f22) (Y21'.no f22) _ ⟨_, rfl, hL21.of_no f22, fun e => by simp at e, fun _ => ⟨fun e => by rw [one] at e; simp at e, fun _ => ⟨fun e => by rw [four] at e; simp at e, fun _ => ⟨fun e => by rw [tp_two] at e; simp at e, fun _ => ⟨fun e => ?_, fun _ => ?_⟩⟩⟩⟩⟩
  · have e' : (poppedP gs p ls cs).2.2 = true := e
    obtain ⟨E, l1, l2, l3, l4, l5, l6, l7, l8, l9, l10, l11, l12, l13, l14, l15, l16, l17⟩ := popped_law e'
    refine ⟨fun e2 => by rw [l2] at e2; simp at e2, fun _ => ⟨fun h' => Fr No h22 h', ?_, ?_⟩⟩
    · rw [l1] at A21
      rw [l2] at A212
      simp only at A21 A212
      have P22 := Q21.no f22
      have G22 := G21.no f22
      have R22 := R21.no f22
      refine k_wStacks (A21.no f22) (A212.no f22) rfl _ fun h25 f25 => ⟨_, rfl, (hL21.of_no f22).of_no f25, fun e => by simp at e, fun _ => ?_⟩
      have P25 := P22.no f25
      have qn := P25.len
      have gn := G22.len
      have hL25 := (hL21.of_no f22).of_no f25
      refine ⟨fun e3 => by simp only [Bool.not_eq_true', decide_eq_false_iff_not] at e3; omega, fun _ => ⟨P25.inb l6 (by omega), _, P25.get l6 (by omega), fun e3 => ?_, fun _ => ?_⟩⟩
      · rw [getD_getI (by omega)] at l11
        rw [l11] at e3
        simp at e3
      refine ⟨fun m i h' => 0 ≤ i ∧ i + m = (gs.length : Int) ∧ Fr No h22 h', ⟨gs.length, by omega, by omega, f25⟩, ?_⟩
      rintro m i h26 ⟨i0, i1, f26⟩ hL26
      have P26 := P22.no f26
      have A26 := (A21.no f22).no f26
      have R26 := R22.no f26
      have G26 := G22.no f26
      refine ⟨fun e3 => ?_, fun e3 => ?_⟩
      · have hi := P26.lt e3
        obtain ⟨x1, c1, r1⟩ := A26.get i0 (by omega)
        obtain ⟨x2, c2, r2⟩ := R26.get i0 (by omega)
        obtain ⟨g1, g2, g3, g4⟩ := l12 i.toNat (by omega)
        rw [getD_getI (by omega)] at g1 g2 g3 g4
        rw [getD_get (by omega), getD_get (by omega)] at g3 g4
        have n1 := r1.len
        obtain ⟨_, _, _, _, hB, W, _⟩ := popped_all e'
        have sh := W.short i.toNat (by omega)
        have n2 := r2.len
        refine ⟨P26.inb i0 (by omega), _, P26.get i0 (by omega), A26.inb i0 (by omega), x1, c1, R26.inb i0 (by omega), x2, c2, fun e4 => ?_, fun _ => ?_⟩
        · rw [w64_eq _ (by omega) (by omega)] at e4
          simp only [Bool.not_eq_true', decide_eq_false_iff_not] at e4
          omega
        refine ⟨A26.inb i0 (by omega), x1, c1, R26.inb i0 (by omega), x2, c2, pop_cut_l rIs .i64 g1 (by omega) ⟨_, rfl, ?_⟩⟩
        have r3 := RdI.cut r2 (l := ((popsP gs p ls).1[i.toNat]'(by omega)).toNat) (m := x2.n) (by omega) (by omega)
        rw [List.take_of_length_le (by rw [List.length_drop]; omega)] at r3
        refine k_wSame r1 r3 _ ⟨_, rfl, hL26, c2, c2, c1, fun e5 => ?_, fun _ => ?_⟩
        · rw [decide_eq_true g4] at e5; cases e5
        · rw [P26.succ i0 hi]
          exact ⟨m - 1, by omega, by omega, by omega, f26⟩
      have Y26 := (Y21.no f22).no f26
      refine k_IsTree G26 Y26 p _ fun h28 f28 => ⟨_, _, rfl, hL26.of_no f28, ?_⟩
      refine k_TopsOf (G26.no f28) (A26.no f28) p _ fun z h29 o29 f29 => ⟨z, _, rfl, (hL26.of_no f28).of_no f29, ?_⟩
      have f2829 := f28.no_trans f29
      refine k_CyclesOf (G26.no f2829) (A26.no f2829) p _ fun v h30 o30 f30 => ⟨v, _, rfl, ((hL26.of_no f28).of_no f29).of_no f30, fun e4 => ?_, fun _ => ⟨fun e4 => ?_, fun _ => ⟨fun e4 => ?_, fun _ => ?_⟩⟩⟩
      · rw [l13] at e4; cases e4
      · rw [l13] at e4; cases e4
      · rw [l14] at e4; cases e4
      have f2830 := f2829.no_trans f30
      have hL30 := ((hL26.of_no f28).of_no f29).of_no f30
      have Z30 : RdI _ h30 z _ := RdI.no o29.rdF f30
      have v0 := (OwR.rd o30).len
      refine k_wSame Z30 (Y26.no f2830) _ ⟨_, rfl, hL30, fun e4 => ?_, fun _ => ⟨fun e4 => ?_, fun _ => ⟨fun e4 => ?_, fun _ => ?_⟩⟩⟩
      · rw [l14] at e4; simp at e4
      · rw [l15] at e4; cases e4
      · rw [l15] at v0
        simp only [List.length_nil] at v0
        rw [v0] at e4
        simp at e4
      have P30 := P26.no f2830
      have b1 : ∀ x, x ∈ (popsP gs p ls).1 → 0 ≤ x ∧ x ≤ 1000 := fun x hx => by
        have := pops_mem (by have : (popsP gs p ls).2 = true := l3; unfold popsP at this; by_cases hh : (poppedP gs p ls []).2.2 = true; exact hh; rw [if_neg hh] at this; cases this) x hx
        omega
      refine k_wSum P30 b1 (by have := G26.len; have := graph_len (show graphB gs = true by obtain ⟨_, _, _, _, hB, W, _⟩ := popped_all e'; exact W.graph); omega) _ ⟨_, rfl, hL30, fun e4 => ?_, fun _ => ?_⟩
      · by_cases hz : (countP gs p ls).1 = 0
        · rw [decide_eq_true hz, decide_eq_true (l16.1 hz)] at e4; cases e4
        · rw [decide_eq_false hz, decide_eq_false fun hh => hz (l16.2 hh)] at e4; cases e4
      refine k_wSum P30 b1 (by have := graph_len (show graphB gs = true by obtain ⟨_, _, _, _, hB, W, _⟩ := popped_all e'; exact W.graph); omega) _ ⟨_, rfl, hL30, fun e4 => ?_, fun _ => ?_⟩
      · simp only [decide_eq_true_eq] at e4; omega
      · exact f26.no_trans f2830
    · exact stp_tail (G1.no (f021.no_trans f22)) B1 _ (fun h' f => f) _ _ _ _ _ _ _ _ _ _ fun h' f => HK h' ((f021.no_trans f22).no_trans f)
  · exact ⟨fun h' => Fr No h22 h', Fr.refl _ _, stp_tail (G1.no (f021.no_trans f22)) B1 _ (fun h' f => f) _ _ _ _ _ _ _ _ _ _ fun h' f => HK h' ((f021.no_trans f22).no_trans f)⟩
end Go.Proofs.YtkjkfjkapbpgiaaGreat
