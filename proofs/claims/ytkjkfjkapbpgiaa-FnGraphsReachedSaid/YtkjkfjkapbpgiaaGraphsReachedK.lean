import Derived.Test.YtkjkfjkapbpgiaaGraphsReachedK0
set_option linter.unusedVariables false
set_option linter.unusedSimpArgs false
namespace Go.Proofs.Ytkjkfjkapbpgiaa
open Go Go.Mx
theorem row_put {L : List (Nat × List Value)} {lo : Nat} {h : Heap} {s : Sl} {xss : List (List Int)} {i : Int} (O : OwX h (fun k => lo ≤ k) s xss) (hlo : lo ≤ h.size) (h0 : 0 ≤ i) (h1 : i < (xss.length : Int)) (hL : Vars h L) (hoff : ∀ p, p ∈ L → p.1 < lo) (hb : (xss[i.toNat]'(by omega)).length ≤ 1000000) (x : Int) : ∃ si : Sl, hcell h (s.at i 1) = some si.v ∧ ∀ R : Heap → Prop, (∀ h', OwX h' (fun k => lo ≤ k) s (xss.set i.toNat (xss[i.toNat]'(by omega) ++ [x])) → Fr (fun k => lo ≤ k) h h' → Vars h' L → R h') → eop Try.prog (Instr.buildSlice tIs 1 #[(0, VI x)]) h fun rv h1 => ∃ t : Sl, rv = t.v ∧ Vars h1 L ∧ hcell h1 (s.at i 1) = some si.v ∧ eop Try.prog (appS tIs tIs tIs si.v t.v) h1 fun rv2 h2 => ∃ t2 : Sl, rv2 = t2.v ∧ Vars h2 L ∧ InB s i ∧ Writable h2 (s.at i 1) ∧ Vars (hset h2 (s.at i 1) t2.v) L ∧ ∀ h3, h3 = hset h2 (s.at i 1) t2.v → Vars h3 L → R h3 := by
  have Oi := OwR.toIv O
  obtain ⟨si, c1, c2, _⟩ := Oi.inner h0 h1
  refine ⟨si, c1, fun R HR => ?_⟩
  refine eop_lit rIs (fun k => h.size ≤ k) (fun _ h => h) 1 (by omega) [VI x] rfl rfl fun t h9 n9 c9 o9 f9 m9 _ => ⟨t, rfl, hL.of_no f9, hcell_fr c1 f9 (fun h => h), ?_⟩
  have s9 := f9.size
  have O9 := OwR.no Oi f9
  have c2' : OwI h9 (fun k => lo ≤ k) si (xss[i.toNat]'(by omega)) := (Ow.no c2 f9).mono fun k _ hk => hk.1
  have on := c2'.rd.len
  have tn := o9.rd.len
  simp only [List.length_map, Nat.mul_one, List.length_cons, List.length_nil] at on tn
  refine eop_append rIs c2' (fun k hk => by omega) o9.rd (plainVI [x]) (by omega) fun w h10 n10 o10 f10 d10 => ?_
  have g10 : Fr (fun k => lo ≤ k) h9 h10 := f10.mono fun k _ hk => (c2'.foot hk).1
  have V10 : Vars h10 L := (hL.of_no f9).fr g10 fun p hp hk => by have := hoff p hp; omega
  have o10' : OwI h10 (fun k => lo ≤ k) w (xss[i.toNat]'(by omega) ++ [x]) := by rw [OwI, List.map_append]; exact o10
  obtain ⟨i11, w11, o11, f11⟩ := O9.outer2 h0 h1 (hcell_fr c1 f9 fun h => h) f10 (F' := fun k => lo ≤ k) o10' (fun k _ hk => hk.1) fun k hk => (d10 k hk).imp id fun hk2 hk3 => by have := hk3.2; omega
  have g11 : Fr (fun k => lo ≤ k) h10 _ := (O9.ownF f11).mono fun k _ hk => hk.1
  have V11 := V10.fr g11 fun p hp hk => by have := hoff p hp; omega
  exact ⟨w, rfl, V10, i11, w11, V11, fun h3 e3 V3 => HR h3 (by rw [e3]; exact o11) (by rw [e3]; exact (f9.of_no.trans g10).trans g11) V3⟩
def GR (N : Int) (q : Nat) (xss : List (List Int)) : Prop := ∀ l, l ∈ xss → l.length ≤ q ∧ ∀ x, x ∈ l → 0 ≤ x ∧ x < N
theorem GR.nil (N : Int) (q : Nat) : GR N q [] := fun l hl => by cases hl
theorem GR.snoc {N : Int} {q : Nat} {xss : List (List Int)} {l : List Int} (H : GR N q xss) (h1 : l.length ≤ q) (h2 : ∀ x, x ∈ l → 0 ≤ x ∧ x < N) : GR N q (xss ++ [l]) := fun y hy => by
  rcases List.mem_append.1 hy with a | a
  · exact H y a
  · simp only [List.mem_cons, List.not_mem_nil, or_false] at a; rw [a]; exact ⟨h1, h2⟩
theorem GR.set {N : Int} {q : Nat} {xss : List (List Int)} {l : List Int} (H : GR N q xss) (i : Nat) (h1 : l.length ≤ q) (h2 : ∀ x, x ∈ l → 0 ≤ x ∧ x < N) : GR N q (xss.set i l) := fun y hy => by
  rcases List.mem_or_eq_of_mem_set hy with a | a
  · exact H y a
  · rw [a]; exact ⟨h1, h2⟩
theorem GR.up {N : Int} {q r : Nat} {xss : List (List Int)} (H : GR N q xss) (h : q ≤ r) : GR N r xss := fun l hl => ⟨Nat.le_trans (H l hl).1 h, (H l hl).2⟩
theorem GR.graph {q : Nat} {xss : List (List Int)} (H : GR xss.length q xss) (hq : q ≤ 5) (h1 : 1 ≤ xss.length) (h2 : xss.length ≤ 8) : graphB xss = true := by
  rw [graphB_eq (inR_iff.2 ⟨by omega, by omega⟩), List.all_eq_true]
  intro l hl
  have := H l hl
  rw [Bool.and_eq_true, Bool.not_eq_true', decide_eq_false_iff_not, List.all_eq_true]
  exact ⟨by omega, fun x hx => inR_iff.2 (by have := this.2 x hx; omega)⟩
theorem cyc_GR {n : Nat} (hn : 1 ≤ n) (both : Bool) : GR n 2 (cycP n both) := by
  have key : ∀ p, GR n 2 (cycL' n both p) := by
    intro p
    induction p with
    | zero => exact GR.nil _ _
    | succ p ih =>
      rw [cycL']
      refine ih.snoc ?_ ?_
      · unfold cycR; split <;> simp
      · intro x hx
        unfold cycR at hx
        rcases List.mem_append.1 hx with a | a
        · simp only [List.mem_cons, List.not_mem_nil, or_false] at a
          rw [a]; exact ⟨Int.tmod_nonneg _ (by omega), Int.tmod_lt_of_pos _ (by omega)⟩
        · split at a
          · simp only [List.mem_cons, List.not_mem_nil, or_false] at a
            rw [a]; exact ⟨Int.tmod_nonneg _ (by omega), Int.tmod_lt_of_pos _ (by omega)⟩
          · cases a
  exact key n
theorem k_sureGraph {a n b : Nat} {h : Heap} {c : Sl} {i sd : Int} (V : IsVar h b [c.v, VI i, .int .u64 sd]) (hb : a ≤ b) (D : CurD a n h c i) (hn : n ≤ 1000000000) {most : Int} (hm1 : 1 ≤ most) (hm2 : most ≤ 8) (K : Value → Heap → Prop) (HK : ∀ (t : Sl) (xss : List (List Int)) (i' sd' : Int) h', OwX h' (Iv h.size h'.size) t xss → GR xss.length 4 xss → 1 ≤ xss.length → (xss.length : Int) ≤ most → IsVar h' b [c.v, VI i', .int .u64 sd'] → CurD a (n + 100) h' c i' → Fr (In [b]) h h' → K (.agg #[t.v]) h') : callM Try.prog 109 #[VP b 0, VI most] h K := by
  have lb := V.lt
  refine v109 b c i sd most h K (.cons V (by simp) .nil) fun b2 h1 hb2 f1 hL1 => ?_
  have f1 := f1.in_nil
  have z1 := f1.size
  have l2 : b2 < h1.size := hL1.head.lt
  have fin : ∀ (h' : Heap), Fr (fun k => k = b ∨ h.size ≤ k) h h' → Fr (In [b]) h h' := fun h' f => f.mono fun k hk hk2 => by
    rcases hk2 with e | e
    · simp [In, e]
    · omega
  have inb : ∀ {x y : Heap}, Fr (In [b]) x y → Fr (fun k => k = b ∨ h.size ≤ k) x y := fun f => f.mono fun k _ hk => .inl (by simpa [In] using hk)
  refine k_pick hL1.tail.head hb (D.no f1) (by omega) most _ fun r i2 sd2 h2 r0 r1 V2 D2 f2 => ⟨c, i2, sd2, r, rfl, vcur hL1 1 rfl f2 V2, ?_⟩
  have hr := r1 hm1
  rw [w64_eq (1 + r) (by omega) (by omega)]
  have hL2 := vcur hL1 1 rfl f2 V2
  refine k_one V2 hb D2 (by omega) _ _ fun q i3 sd3 h3 V3 D3 f3 => ⟨c, i3, sd3, q, rfl, vcur hL2 1 rfl f3 V3, fun eq => ?_, fun eq => ?_⟩
  · have hL3 := vcur hL2 1 rfl f3 V3
    refine k_one V3 hb D3 (by omega) _ _ fun q4 i4 sd4 h4 V4 D4 f4 => ⟨c, i4, sd4, q4, rfl, vcur hL3 1 rfl f4 V4, ?_⟩
    have hL4 := vcur hL3 1 rfl f4 V4
    have en : (1 + r) = (((1 + r).toNat : Nat) : Int) := by omega
    rw [en]
    refine k_grCycle (1 + r).toNat (by omega) q4 _ fun t h5 o5 f5 => ⟨t, rfl, hL4.of_no f5, fun h6 f6 hL6 => ?_⟩
    have z2 := f2.size
    have z3 := f3.size
    have z4 := f4.size
    have z5 := f5.size
    have o6 : OwX h6 (Iv h4.size h5.size) t (cycP (1 + r).toNat q4) := OwR.fr o5 f6 fun k hk hk2 hk3 => by simp [In] at hk3; have := hk2.1; omega
    have z6 := f6.size
    have hl : (cycP (1 + r).toNat q4).length = (1 + r).toNat := cycL_length _ _ _
    refine HK t _ i4 sd4 h6 (OwR.ivs o6 (by omega) z6) ?_ (by omega) (by omega) hL6.tail.head ?_ (fin h6 ?_)
    · rw [hl]; exact (cyc_GR (by omega) q4).up (by omega)
    · exact (((D4.no f5).fr f6 fun k hk hk2 => by simp [In] at hk2; omega)).up (by omega)
    · exact ((((f1.of_no.trans (inb f2)).trans (inb f3)).trans (inb f4)).trans f5.of_no).trans (f6.mono fun k _ hk => .inr (by simp [In] at hk; omega))
  · intro b3 h8 hb3 f8 hL8
    have f8 := f8.in_nil
    have z2 := f2.size
    have z3 := f3.size
    have z8 := f8.size
    have l3 : b3 < h8.size := hL8.head.lt
    have f08 : Fr (fun k => k = b ∨ h.size ≤ k) h h8 := ((f1.of_no.trans (inb f2)).trans (inb f3)).trans f8.of_no
    refine ⟨fun m p x d i' sd' h' => 0 ≤ p ∧ p + m = 1 + r ∧ d = c ∧ CurD a (n + 4 + 10 * p.toNat) h' c i' ∧ (∃ rows, OwX h' (fun k => h8.size ≤ k) x rows ∧ GR (1 + r) 3 rows ∧ rows.length = p.toNat) ∧ Fr (fun k => k = b ∨ h.size ≤ k) h h' ∧ h8.size ≤ h'.size, ⟨(1 + r).toNat, by omega, by omega, rfl, (D3.no f8).up (by omega), ⟨[], OwR.nil _ _ _ _, GR.nil _ _, rfl⟩, f08, Nat.le_refl _⟩, ?_⟩
    rintro m p x d i9 sd9 h9 ⟨p0, p1, rfl, D9, ⟨rows, o9, g9, e9⟩, f9, z9⟩ hL9
    have hoff : ∀ (A B C : List Value) (q : Nat × List Value), q ∈ [(b3, A), (b2, B), (b, C)] → q.1 < h8.size := fun A B C q hq => by
      simp only [List.mem_cons, List.not_mem_nil, or_false] at hq
      rcases hq with rfl | rfl | rfl <;> simp only <;> omega
    refine ⟨fun e => ?_, fun e => ?_⟩
    · simp only [decide_eq_true_eq] at e
      refine k_pick hL9.tail.tail.head hb D9 (by omega) 3 _ fun y i10 sd10 h10 y0 y1 V10 D10 f10 => ⟨d, i10, sd10, y, rfl, vcur hL9 2 rfl f10 V10, ?_⟩
      have y1 := y1 (by omega)
      rw [w64_eq (1 + y) (by omega) (by omega)]
      have z10 := f10.size
      have o10 := OwR.fr (OwR.toIv o9) f10 fun k hk hk2 hk3 => by simp [In] at hk3; have := hk2.1; omega
      refine ⟨fun m l k d' i' sd' h' => m = k.toNat ∧ 0 ≤ k ∧ d' = d ∧ CurD a (n + 6 + 10 * p.toNat + 2 * (3 - k).toNat) h' d i' ∧ (∃ ys, OwI h' (fun k => h9.size ≤ k) l ys ∧ (∀ x, x ∈ ys → 0 ≤ x ∧ x < 1 + r) ∧ (ys.length : Int) + k ≤ 3) ∧ OwX h' (Iv h8.size h9.size) x rows ∧ Fr (fun k => k = b ∨ h.size ≤ k) h h' ∧ h9.size ≤ h'.size, ⟨(1 + y).toNat, rfl, by omega, rfl, D10.up (by omega), ⟨[], Ow.nil _ _ _ _, by simp, by simp; omega⟩, o10, f9.trans (inb f10), z10⟩, ?_⟩
      rintro m2 l k d' i11 sd11 h11 ⟨rfl, k0, rfl, D11, ⟨ys, q11, r11, e11⟩, o11, f11, z11⟩ hL11
      refine ⟨fun ek => ?_, fun ek => ?_⟩
      · simp only [decide_eq_true_eq] at ek
        refine k_pick hL11.tail.tail.head hb D11 (by omega) (1 + r) _ fun w i12 sd12 h12 w0 w1 V12 D12 f12 => ⟨d', i12, sd12, w, rfl, vcur hL11 2 rfl f12 V12, ?_⟩
        have w1 := w1 (by omega)
        have z12 := f12.size
        have q12 : OwI h12 (fun k => h9.size ≤ k) l ys := Ow.fr q11 f12 fun k hk hk3 => by have := (q11.foot hk).1; simp [In] at hk3; omega
        have hL12 := vcur hL11 2 rfl f12 V12
        refine eop_put (lo := h9.size) q12 (by omega) hL12 (fun q hq => by have := hoff _ _ _ q hq; omega) (by omega) _ fun u h14 o14 f14 V14 => ?_
        rw [w64_eq (k - 1) (by omega) (by omega)]
        have z14 := f14.size
        refine ⟨(k - 1).toNat, by omega, rfl, by omega, rfl, ?_, ⟨ys ++ [w], o14, ?_, by simp; omega⟩, ?_, ?_, by omega⟩
        · exact (D12.fr f14 fun k hk hk2 => by omega).up (by omega)
        · intro v hv
          rcases List.mem_append.1 hv with a | a
          · exact r11 v a
          · simp only [List.mem_cons, List.not_mem_nil, or_false] at a; omega
        · refine OwR.fr (OwR.fr o11 f12 fun k hk hk2 hk3 => by simp [In] at hk3; have := hk2.1; omega) f14 fun k hk hk2 hk3 => by have := hk2.2; omega
        · exact (f11.trans (inb f12)).trans (f14.mono fun k _ hk => .inr (by have := f9.size; omega))
      · simp only [decide_eq_false_iff_not] at ek
        have ek0 : k = 0 := by omega
        subst ek0
        refine ⟨fun y2 d2 i2' sd2' h' => d2 = d' ∧ (∃ zs, OwI h' (fun k => h9.size ≤ k) y2 zs ∧ (∀ x, x ∈ zs → 0 ≤ x ∧ x < 1 + r) ∧ zs.length ≤ 3) ∧ OwX h' (Iv h8.size h9.size) x rows ∧ CurD a (n + 14 + 10 * p.toNat) h' d' i2' ∧ Fr (fun k => k = b ∨ h.size ≤ k) h h' ∧ h9.size ≤ h'.size, ?_, ?_⟩
        · refine k_one hL11.tail.tail.head hb D11 (by omega) 8 _ fun q15 i15 sd15 h15 V15 D15 f15 => ⟨d', i15, sd15, q15, rfl, vcur hL11 2 rfl f15 V15, fun _ => ?_, fun _ => ?_⟩
          · exact ⟨rfl, ⟨[], Ow.nil _ _ _ _, by simp, by simp⟩, OwR.fr o11 f15 fun k hk hk2 hk3 => by simp [In] at hk3; have := hk2.1; omega, D15.up (by omega), f11.trans (inb f15), by have := f15.size; omega⟩
          · exact ⟨rfl, ⟨ys, Ow.fr q11 f15 fun k hk hk3 => by have := (q11.foot hk).1; simp [In] at hk3; omega, r11, by omega⟩, OwR.fr o11 f15 fun k hk hk2 hk3 => by simp [In] at hk3; have := hk2.1; omega, D15.up (by omega), f11.trans (inb f15), by have := f15.size; omega⟩
        rintro y2 d2 i16 sd16 h16 ⟨rfl, ⟨zs, q16, r16, e16⟩, o16, D16, f16, z16⟩ hL16
        refine eop_putR (lo := h8.size) (m := h9.size) o16 q16 z9 z16 hL16 (fun q hq => hoff _ _ _ q hq) (by omega) _ fun u h18 o18 f18 V18 h19 f19 hL19 => ?_
        rw [w64_eq (p + 1) (by omega) (by omega)]
        have z18 := f18.size
        have z19 := f19.size
        refine ⟨m - 1, by omega, by omega, by omega, rfl, ?_, ⟨rows ++ [zs], OwR.fr o18 f19 fun k hk hk2 hk3 => by simp [In] at hk3; omega, g9.snoc e16 r16, by simp; omega⟩, ?_, by omega⟩
        · exact ((D16.fr f18 fun k hk hk2 => by omega).fr f19 fun k hk hk2 => by simp [In] at hk2; omega).up (by omega)
        · exact (f16.trans (f18.mono fun k _ hk => .inr (by omega))).trans (f19.mono fun k _ hk => .inr (by simp [In] at hk; omega))
    · simp only [decide_eq_false_iff_not] at e
      have hrl : (rows.length : Int) = 1 + r := by omega
      refine k_one hL9.tail.tail.head hb D9 (by omega) 2 _ fun q20 i20 sd20 h20 V20 D20 f20 => ⟨d, i20, sd20, q20, rfl, vcur hL9 2 rfl f20 V20, fun _ => ?_, fun _ => ?_⟩
      · have z20 := f20.size
        have o20 : OwX h20 (fun k => h8.size ≤ k) x rows := OwR.fr o9 f20 fun k hk hk2 hk3 => by simp [In] at hk3; omega
        have hL20 := vcur hL9 2 rfl f20 V20
        refine ⟨fun m2 j h' => 0 ≤ j ∧ j + m2 = 1 + r ∧ CurD a (n + 100) h' d i20 ∧ (∃ rs, OwX h' (fun k => h8.size ≤ k) x rs ∧ GR (1 + r) 4 rs ∧ (rs.length : Int) = 1 + r ∧ ∀ k (hk : k < rs.length), j ≤ (k : Int) → rs[k].length ≤ 3) ∧ Fr (fun k => k = b ∨ h.size ≤ k) h h' ∧ h8.size ≤ h'.size, ⟨(1 + r).toNat, by omega, by omega, D20.up (by omega), ⟨rows, o20, g9.up (by omega), hrl, fun k hk _ => (g9 _ (List.getElem_mem hk)).1⟩, f9.trans (inb f20), by omega⟩, ?_⟩
        rintro m2 j h21 ⟨j0, j1, D21, ⟨rs, o21, g21, e21, s21⟩, f21, z21⟩ hL21
        have hxn : (x.n : Int) = 1 + r := by have := OwR.len o21; omega
        refine ⟨fun ej => ?_, fun ej => ?_⟩
        · simp only [decide_eq_true_eq] at ej
          have hj : j < (rs.length : Int) := by omega
          have hsj := s21 j.toNat (by omega) (by omega)
          obtain ⟨si, c1, c2⟩ := row_put o21 z21 j0 hj hL21 (fun q hq => hoff _ _ _ q hq) (by omega) ((w64 (j + 1)).tmod (1 + r))
          refine ⟨(OwR.rd o21).inb j0 hj, si, c1, by omega, c2 _ fun h24 o24 f24 V24 => ?_⟩
          rw [w64_eq (j + 1) (by omega) (by omega)] at o24 ⊢
          refine ⟨m2 - 1, by omega, by omega, by omega, D21.fr f24 fun k hk hk2 => by omega, ⟨_, o24, g21.set _ (by simp; omega) ?_, by simp; omega, fun k hk hk2 => ?_⟩, f21.trans (f24.mono fun k _ hk => .inr (by omega)), by have := f24.size; omega⟩
          · intro v hv
            rcases List.mem_append.1 hv with a | a
            · exact (g21 _ (List.getElem_mem _)).2 v a
            · simp only [List.mem_cons, List.not_mem_nil, or_false] at a
              rw [a]; exact ⟨Int.tmod_nonneg _ (by omega), Int.tmod_lt_of_pos _ (by omega)⟩
          · rw [List.getElem_set, if_neg (by omega)]
            exact s21 k (by simpa using hk) (by omega)
        · intro h25 f25 hL25
          have o25 : OwX h25 (fun k => h8.size ≤ k) x rs := OwR.fr o21 f25 fun k hk hk2 hk3 => by simp [In] at hk3; omega
          refine HK x rs i20 sd20 h25 (OwR.ivs (OwR.toIv o25) (by omega) (Nat.le_refl _)) (by rw [e21]; exact g21) (by omega) (by omega) hL25.tail.tail.head (D21.fr f25 fun k hk hk2 => by simp [In] at hk2; omega) (fin _ (f21.trans (f25.mono fun k _ hk => .inr (by simp [In] at hk; omega))))
      · intro h26 f26 hL26
        have z20 := f20.size
        have o26 : OwX h26 (fun k => h8.size ≤ k) x rows := OwR.fr (OwR.fr o9 f20 fun k hk hk2 hk3 => by simp [In] at hk3; omega) f26 fun k hk hk2 hk3 => by simp [In] at hk3; omega
        refine HK x rows i20 sd20 h26 (OwR.ivs (OwR.toIv o26) (by omega) (Nat.le_refl _)) (by rw [hrl]; exact g9.up (by omega)) (by omega) (by omega) hL26.tail.tail.head ((D20.fr f26 fun k hk hk2 => by simp [In] at hk2; omega).up (by omega)) (fin _ ((f9.trans (inb f20)).trans (f26.mono fun k _ hk => .inr (by simp [In] at hk; omega))))
theorem row_set {L : List (Nat × List Value)} {F : Nat → Prop} {m : Nat} {h : Heap} {s x : Sl} {xss : List (List Int)} {ys : List Int} {i : Int} (O : OwX h (fun k => F k ∧ k < m) s xss) (X : OwI h (fun k => m ≤ k) x ys) (hF : ∀ k, m ≤ k → F k) (h0 : 0 ≤ i) (h1 : i < (xss.length : Int)) (hL : Vars h L) (hoff : ∀ p, p ∈ L → ¬ F p.1) (R : Heap → Prop) (HR : ∀ h', OwX h' F s (xss.set i.toNat ys) → Fr F h h' → Vars h' L → R h') : InB s i ∧ Writable h (s.at i 1) ∧ Vars (hset h (s.at i 1) x.v) L ∧ ∀ h3, h3 = hset h (s.at i 1) x.v → Vars h3 L → R h3 := by
  obtain ⟨si, c1, c2, _⟩ := O.inner h0 h1
  obtain ⟨i11, w11, o11, f11⟩ := O.outer2 h0 h1 c1 (Fr.refl _ _) (F' := F) (X.mono fun k _ hk => hF k hk) (fun k _ hk => hk.1) fun k hk => .inr fun hk2 => by have := (X.foot hk).1; have := hk2.2; omega
  have g11 : Fr F h _ := (O.ownF f11).mono fun k _ hk => hk.1
  have V11 := hL.fr g11 hoff
  exact ⟨i11, w11, V11, fun h3 e3 V3 => HR h3 (by rw [e3]; exact o11) (by rw [e3]; exact g11) V3⟩
theorem cell_keep {S T : Nat → Prop} {h h' : Heap} {s : Sl} {xss : List (List Int)} {i : Int} (R : RdR S h s xss) (h0 : 0 ≤ i) (h1 : i < (xss.length : Int)) (f : Fr T h h') (hd : ∀ k, S k → ¬ T k) {v : Value} (c : hcell h (s.at i 1) = some v) : hcell h' (s.at i 1) = some v := by
  obtain ⟨ss, e, V, _⟩ := R.out
  obtain ⟨a, ha, hs, _⟩ := V.cell i.toNat (by simp; omega)
  refine hcell_fr c f ?_
  rw [at_one ha, add_block]
  exact hd _ hs
theorem slv_inj {a b : Sl} (h : some a.v = some b.v) : a = b := by
  cases a; cases b; simp [Sl.v] at h; simp [h]
theorem row_putF {L : List (Nat × List Value)} {F : Nat → Prop} {h : Heap} {s si : Sl} {xss : List (List Int)} {i : Int} (O : OwX h F s xss) (hF : ∀ k, h.size ≤ k → F k) (h0 : 0 ≤ i) (h1 : i < (xss.length : Int)) (c0 : hcell h (s.at i 1) = some si.v) (hL : Vars h L) (hoff : ∀ p, p ∈ L → ¬ F p.1) (hb : (xss[i.toNat]'(by omega)).length ≤ 1000000) (x : Int) (R : Heap → Prop) (HR : ∀ h', OwX h' F s (xss.set i.toNat (xss[i.toNat]'(by omega) ++ [x])) → Fr F h h' → Vars h' L → R h') : eop Try.prog (Instr.buildSlice tIs 1 #[(0, VI x)]) h fun rv h1 => ∃ t : Sl, rv = t.v ∧ Vars h1 L ∧ hcell h1 (s.at i 1) = some si.v ∧ eop Try.prog (appS tIs tIs tIs si.v t.v) h1 fun rv2 h2 => ∃ t2 : Sl, rv2 = t2.v ∧ Vars h2 L ∧ InB s i ∧ Writable h2 (s.at i 1) ∧ Vars (hset h2 (s.at i 1) t2.v) L ∧ ∀ h3, h3 = hset h2 (s.at i 1) t2.v → Vars h3 L → R h3 := by
  have Oi : OwX h (fun k => F k ∧ k < h.size) s xss := O.mono fun k hk hk2 => ⟨hk2, hk⟩
  obtain ⟨sj, c1, c2, _⟩ := Oi.inner h0 h1
  have : sj = si := slv_inj (c1.symm.trans c0)
  subst this
  refine eop_lit rIs (fun k => h.size ≤ k) (fun _ h => h) 1 (by omega) [VI x] rfl rfl fun t h9 n9 c9 o9 f9 m9 _ => ⟨t, rfl, hL.of_no f9, hcell_fr c1 f9 (fun h => h), ?_⟩
  have s9 := f9.size
  have O9 := OwR.no Oi f9
  have c2' : OwI h9 F sj (xss[i.toNat]'(by omega)) := (Ow.no c2 f9).mono fun k _ hk => hk.1
  have on := c2'.rd.len
  have tn := o9.rd.len
  simp only [List.length_map, Nat.mul_one, List.length_cons, List.length_nil] at on tn
  refine eop_append rIs c2' (fun k hk => hF k (by omega)) o9.rd (plainVI [x]) (by omega) fun w h10 n10 o10 f10 d10 => ?_
  have g10 : Fr F h9 h10 := f10.mono fun k _ hk => (c2'.foot hk).1
  have V10 : Vars h10 L := (hL.of_no f9).fr g10 hoff
  have o10' : OwI h10 F w (xss[i.toNat]'(by omega) ++ [x]) := by rw [OwI, List.map_append]; exact o10
  obtain ⟨i11, w11, o11, f11⟩ := O9.outer2 h0 h1 (hcell_fr c1 f9 fun h => h) f10 (F' := F) o10' (fun k _ hk => hk.1) fun k hk => (d10 k hk).imp id fun hk2 hk3 => by have := hk3.2; omega
  have g11 : Fr F h10 _ := (O9.ownF f11).mono fun k _ hk => hk.1
  have V11 := V10.fr g11 hoff
  exact ⟨w, rfl, V10, i11, w11, V11, fun h3 e3 V3 => HR h3 (by rw [e3]; exact o11) (by rw [e3]; exact (f9.of_no.trans g10).trans g11) V3⟩
theorem eop_putF {L : List (Nat × List Value)} {F : Nat → Prop} {m : Nat} {h : Heap} {s x : Sl} {xss : List (List Int)} {ys : List Int} (O : OwX h (fun k => F k ∧ k < m) s xss) (X : OwI h (fun k => m ≤ k) x ys) (hF : ∀ k, m ≤ k → F k) (hm : m ≤ h.size) (hL : Vars h L) (hoff : ∀ p, p ∈ L → ¬ F p.1) (hb : xss.length ≤ 1000000) (R : Sl → Heap → Prop) (HR : ∀ t h', OwX h' F t (xss ++ [ys]) → Fr F h h' → Vars h' L → R t h') : eop Try.prog (Instr.buildSlice tIss 1 #[(0, x.v)]) h fun rv h1 => ∃ t : Sl, rv = t.v ∧ Vars h1 L ∧ eop Try.prog (appS tIss tIss tIss s.v t.v) h1 fun rv2 h2 => ∃ t2 : Sl, rv2 = t2.v ∧ Vars h2 L ∧ R t2 h2 := by
  refine eop_lit rIss (fun k => h.size ≤ k) (fun _ h => h) 1 (by omega) [x.v] rfl rfl fun t h1 n1 c1 o1 f1 m1 _ => ⟨t, rfl, hL.of_no f1, ?_⟩
  have z1 := f1.size
  refine OwR.snoc rIss (OwR.no O f1) (F' := F) (fun k _ hk => hk.1) (fun k hk => hF k (by omega)) ((Ow.no X f1).mono fun k _ hk => hF k hk) (fun k hk hk2 => by have := (X.foot hk).1; have := hk2.2; omega) o1.rd (by omega) fun y h2 o2 f2 => ?_
  have g2 : Fr F h1 h2 := f2.mono fun k _ hk => hk.1
  have V2 : Vars h2 L := (hL.of_no f1).fr g2 hoff
  exact ⟨y, rfl, V2, HR y h2 o2 (f1.of_no.trans g2) V2⟩
theorem k_drplace {a n b : Nat} {h : Heap} {c : Sl} {i sd : Int} (V : IsVar h b [c.v, VI i, .int .u64 sd]) (hb : a ≤ b) (D : CurD a n h c i) (hn : n ≤ 10000000) (g : Sl) (K : Value → Heap → Prop) (HK : ∀ (p i' sd' : Int) h', IsVar h' b [c.v, VI i', .int .u64 sd'] → CurD a (n + 4) h' c i' → Fr (In [b]) h h' → K (VI p) h') : callM Try.prog 64 #[VP b 0, .agg #[g.v]] h K := by
  have lb := V.lt
  have ub : ∀ {x y z : Heap}, Fr No x y → Fr (In [b]) y z → Fr (In [b]) x z := fun f g => f.of_no.trans g
  refine v64 b c i sd g h K (.cons V (by simp) .nil) ⟨fun _ b2 h1 hb2 f1 hL1 => ?_, fun e b2 h1 hb2 f1 hL1 => ?_⟩
  · have f1 := f1.in_nil
    have z1 := f1.size
    refine eop_lit rIs (fun k => h1.size ≤ k) (fun _ h => h) 4 (by omega) [VI (-1), VI 0, VI (g.n : Int), VI 4611686018427387904] rfl rfl fun w h6 n6 c6 o6 f6 m6 _ => ⟨w, rfl, hL1.of_no f6, ?_⟩
    have r6 : RdI (fun k => h1.size ≤ k) h6 w [-1, 0, (g.n : Int), 4611686018427387904] := o6.rdF
    exact k_among (hL1.of_no f6).tail.head hb ((D.no f1).no f6) (by omega) r6 (by omega) (by simp) _ fun v i7 sd7 h7 hv V7 D7 f7 => ⟨c, i7, sd7, v, rfl, vcur (hL1.of_no f6) 1 rfl f7 V7, HK v i7 sd7 h7 V7 (D7.up (by omega)) (ub (f1.no_trans f6) f7)⟩
  · have f1 := f1.in_nil
    have z1 := f1.size
    refine k_one hL1.tail.head hb (D.no f1) (by omega) 14 _ fun q i2 sd2 h2 V2 D2 f2 => ⟨c, i2, sd2, q, rfl, vcur hL1 1 rfl f2 V2, fun _ => ?_, fun _ => ?_⟩
    · have z2 := f2.size
      have hL2 := vcur hL1 1 rfl f2 V2
      refine eop_lit rIs (fun k => h2.size ≤ k) (fun _ h => h) 4 (by omega) [VI (-1), VI 0, VI (g.n : Int), VI 4611686018427387904] rfl rfl fun w h6 n6 c6 o6 f6 m6 _ => ⟨w, rfl, hL2.of_no f6, ?_⟩
      have r6 : RdI (fun k => h2.size ≤ k) h6 w [-1, 0, (g.n : Int), 4611686018427387904] := o6.rdF
      exact k_among (hL2.of_no f6).tail.head hb (D2.no f6) (by omega) r6 (by omega) (by simp) _ fun v i7 sd7 h7 hv V7 D7 f7 => ⟨c, i7, sd7, v, rfl, vcur (hL2.of_no f6) 1 rfl f7 V7, HK v i7 sd7 h7 V7 (D7.up (by omega)) ((ub f1 f2).trans (ub f6 f7))⟩
    · have hL2 := vcur hL1 1 rfl f2 V2
      exact k_pick hL2.tail.head hb D2 (by omega) _ _ fun v i5 sd5 h5 v0 v1 V5 D5 f5 => ⟨c, i5, sd5, v, rfl, vcur hL2 1 rfl f5 V5, HK v i5 sd5 h5 V5 (D5.up (by omega)) ((ub f1 f2).trans f5)⟩
theorem k_drgraph9 {a n b : Nat} {h : Heap} {c : Sl} {i sd : Int} (V : IsVar h b [c.v, VI i, .int .u64 sd]) (hb : a ≤ b) (D : CurD a n h c i) (hn : n ≤ 10000000) (K : Value → Heap → Prop) (HK : ∀ (t : Sl) (gs : List (List Int)) (i' sd' : Int) h', gs.length ≤ 9 → RdR (fun k => h.size ≤ k) h' t gs → IsVar h' b [c.v, VI i', .int .u64 sd'] → CurD a (n + 200) h' c i' → Fr (In [b]) h h' → K (.agg #[t.v]) h') : callM Try.prog 63 #[VP b 0] h K := by
  have lb := V.lt
  refine v63 b c i sd h K (.cons V (by simp) .nil) fun b2 h1 hb2 f1 hL1 => ?_
  have f1 := f1.in_nil
  have z1 := f1.size
  have l2 : b2 < h1.size := hL1.head.lt
  have fin : ∀ (h' : Heap), Fr (fun k => k = b ∨ h.size ≤ k) h h' → Fr (In [b]) h h' := fun h' f => f.mono fun k hk hk2 => by
    rcases hk2 with e | e
    · simp [In, e]
    · omega
  have inb : ∀ {x y : Heap}, Fr (In [b]) x y → Fr (fun k => k = b ∨ h.size ≤ k) x y := fun f => f.mono fun k _ hk => .inl (by simpa [In] using hk)
  refine k_sureGraph hL1.tail.head hb (D.no f1) (by omega) (most := 6) (by omega) (by omega) _ fun t xss i2 sd2 h2 o2 g2 n1 n2 V2 D2 f2 => ⟨c, i2, sd2, t, rfl, vcur hL1 1 rfl f2 V2, fun b3 h4 hb3 f4 hL4 => ?_⟩
  have f4 := f4.in_nil
  have z2 := f2.size
  have z4 := f4.size
  have l3 : b3 < h4.size := hL4.head.lt
  have tn := OwR.len o2
  generalize hF : (fun k => (h1.size ≤ k ∧ k < h2.size) ∨ h4.size ≤ k) = F
  have F1 : ∀ k, F k → h1.size ≤ k := fun k hk => by rw [← hF] at hk; rcases hk with a | a <;> omega
  have F2 : ∀ k, h4.size ≤ k → F k := fun k hk => by rw [← hF]; exact .inr hk
  have F3 : ¬ F b3 := fun hk => by rw [← hF] at hk; rcases hk with a | a <;> omega
  have o4 : OwX h4 F t xss := (OwR.no o2 f4).mono fun k hk hk2 => by rw [← hF]; exact .inl hk2
  have f04 : Fr (fun k => k = b ∨ h.size ≤ k) h h4 := (f1.of_no.trans (inb f2)).trans f4.of_no
  have gb : ∀ {X Y : Heap} {w : Sl} {zs : List (List Int)}, OwX X F w zs → Fr (In [b]) X Y → OwX Y F w zs := fun O f => OwR.fr O f fun k hk hk2 hk3 => by simp [In] at hk3; have := F1 _ hk2; omega
  have fT : ∀ {x y : Heap}, Fr F x y → Fr (fun k => k = b ∨ h.size ≤ k) x y := fun f => f.mono fun k _ hk => .inr (by have := F1 _ hk; omega)
  have hoff : ∀ (A B C : List Value) (q : Nat × List Value), q ∈ [(b3, A), (b2, B), (b, C)] → ¬ F q.1 := fun A B C q hq => by
    simp only [List.mem_cons, List.not_mem_nil, or_false] at hq
    rcases hq with rfl | rfl | rfl
    · exact F3
    · exact fun hk => by have := F1 _ hk; omega
    · exact fun hk => by have := F1 _ hk; omega
  have out : ∀ (w : Sl) (zs : List (List Int)) (i' sd' : Int) (X Y : Heap), OwX X F w zs → zs.length ≤ 9 → CurD a (n + 200) X c i' → Fr (fun k => k = b ∨ h.size ≤ k) h X → Fr (In [b2]) X Y → IsVar Y b [c.v, VI i', .int .u64 sd'] → K (.agg #[w.v]) Y := fun w zs i' sd' X Y O zl DD ff f VV => by
    have OY : OwX Y F w zs := OwR.fr O f fun k hk hk2 hk3 => by simp [In] at hk3; subst hk3; have := F1 _ hk2; omega
    exact HK w zs i' sd' Y zl ((OwR.rd OY).mono fun k hk => by have := F1 _ hk.1; omega) VV (DD.fr f fun k hk hk2 => by simp [In] at hk2; omega) (fin _ (ff.trans (f.mono fun k _ hk => .inr (by simp [In] at hk; omega))))
  refine k_pick hL4.tail.tail.head hb (D2.no f4) (by omega) 16 _ fun s i5 sd5 h5 s0 s1 V5 D5 f5 => ⟨c, i5, sd5, s, rfl, vcur hL4 2 rfl f5 V5, fun _ => ?_, fun _ => ⟨fun _ => ?_, fun _ => ⟨fun _ => ?_, fun _ => ⟨fun _ h24 f24 hL24 => ?_, fun _ h25 f25 hL25 => ?_⟩⟩⟩⟩
  · have o5 := gb o4 f5
    have z5 := f5.size
    have hL5 : Vars h5 [(b3, [t.v]), (b2, [nilSl.v]), (b, [c.v, VI i5, .int .u64 sd5])] := vcur hL4 2 rfl f5 V5
    have hp : (0 : Int) < (xss.length : Int) := by omega
    obtain ⟨si, c1, c2, _⟩ := OwR.inner o5 (Int.le_refl 0) hp
    have r5 := OwR.rd o5
    refine ⟨r5.inb (Int.le_refl 0) hp, si, c1, ?_⟩
    refine eop_lit rIs (fun k => h5.size ≤ k) (fun _ h => h) 3 (by omega) [VI (-1), VI (t.n : Int), VI 4611686018427387904] rfl rfl fun w h6 n6 c6 o6 f6 m6 _ => ⟨w, rfl, hL5.of_no f6, hcell_fr c1 f6 (fun h => h), ?_⟩
    have z6 := f6.size
    have r6 : RdI (fun k => h5.size ≤ k) h6 w [-1, (t.n : Int), 4611686018427387904] := o6.rdF
    refine k_among (hL5.of_no f6).tail.tail.head hb (D5.no f6) (by omega) r6 (by omega) (by simp) _ fun v i7 sd7 h7 hv V7 D7 f7 => ⟨c, i7, sd7, v, rfl, vcur (hL5.of_no f6) 2 rfl f7 V7, ?_⟩
    have z7 := f7.size
    have hL7 : Vars h7 [(b3, [t.v]), (b2, [nilSl.v]), (b, [c.v, VI i7, .int .u64 sd7])] := vcur (hL5.of_no f6) 2 rfl f7 V7
    have c7 : hcell h7 (t.at 0 1) = some si.v := cell_keep (r5.no f6) (Int.le_refl 0) hp f7 (fun k hk hk2 => by simp [In] at hk2; have := F1 _ hk.1; omega) (hcell_fr c1 f6 fun h => h)
    have g0 := (g2 _ (List.getElem_mem (show (0 : Int).toNat < xss.length by omega))).1
    refine ⟨c7, row_putF (gb (OwR.no o5 f6) f7) (fun k hk => F2 k (by omega)) (Int.le_refl 0) hp c7 hL7 (fun q hq => hoff _ _ _ q hq) (by omega) v _ fun h10 o10 f10 V10 h11 f11 hL11 => ?_⟩
    exact out t _ i7 sd7 h10 h11 o10 (by simp; omega) ((D7.fr f10 fun k hk hk2 => by have := F1 _ hk2; omega).up (by omega)) ((((f04.trans (inb f5)).trans f6.of_no).trans (inb f7)).trans (fT f10)) f11 hL11.tail.tail.head
  · have o5 := gb o4 f5
    have z5 := f5.size
    have hL5 : Vars h5 [(b3, [t.v]), (b2, [nilSl.v]), (b, [c.v, VI i5, .int .u64 sd5])] := vcur hL4 2 rfl f5 V5
    have hp : (0 : Int) < (xss.length : Int) := by omega
    refine k_pick hL5.tail.tail.head hb D5 (by omega) 2 _ fun y i6 sd6 h6 y0 y1 V6 D6 f6 => ⟨c, i6, sd6, y, rfl, vcur hL5 2 rfl f6 V6, ?_⟩
    have y1 := y1 (by omega)
    have z6 := f6.size
    have hL6 : Vars h6 [(b3, [t.v]), (b2, [nilSl.v]), (b, [c.v, VI i6, .int .u64 sd6])] := vcur hL5 2 rfl f6 V6
    rw [w64_eq (5 + y) (by omega) (by omega)]
    have ey : 5 + y = (((5 + y).toNat : Nat) : Int) := by omega
    rw [ey]
    refine eop_make rIs (fun k => h6.size ≤ k) (fun _ h => h) .i64 .i64 (5 + y).toNat (5 + y).toNat (Nat.le_refl _) (by omega) fun w h7 n7 c7 o7 f7 m7 _ => ⟨w, rfl, hL6.of_no f7, ?_⟩
    have z7 := f7.size
    have o7' : OwI h7 (fun k => h6.size ≤ k) w (List.replicate (5 + y).toNat 0) := by
      have e : (List.replicate (5 + y).toNat [VI 0]).flatten = (List.replicate (5 + y).toNat (0 : Int)).map VI := by simp [List.flatten_replicate_singleton]
      rw [e] at o7; exact o7
    have o6i : OwX h6 (fun k => F k ∧ k < h6.size) t xss := (gb o5 f6).mono fun k hk hk2 => ⟨hk2, hk⟩
    exact row_set (m := h6.size) (OwR.no o6i f7) o7' (fun k hk => F2 k (by omega)) (Int.le_refl 0) hp (hL6.of_no f7) (fun q hq => hoff _ _ _ q hq) _ fun h10 o10 f10 V10 h11 f11 hL11 => out t _ i6 sd6 h10 h11 o10 (by simp; omega) (((D6.no f7).fr f10 fun k hk hk2 => by have := F1 _ hk2; omega).up (by omega)) ((((f04.trans (inb f5)).trans (inb f6)).trans f7.of_no).trans (fT f10)) f11 hL11.tail.tail.head
  · have o5 := gb o4 f5
    have z5 := f5.size
    refine ⟨fun m x d i' sd' h' => d = c ∧ CurD a (n + 104 + 4 * (9 - m)) h' c i' ∧ m ≤ 9 ∧ (∃ zs, OwX h' F x zs ∧ zs.length + m = 9) ∧ Fr (fun k => k = b ∨ h.size ≤ k) h h' ∧ h4.size ≤ h'.size, ⟨9 - xss.length, rfl, D5.up (by omega), by omega, ⟨xss, o5, by omega⟩, f04.trans (inb f5), by omega⟩, ?_⟩
    rintro m x d i16 sd16 h16 ⟨rfl, D16, m9, ⟨zs, o16, e16⟩, f16, z16⟩ hL16
    have xn := OwR.len o16
    refine k_pick hL16.tail.tail.head hb D16 (by omega) 2 _ fun y i17 sd17 h17 y0 y1 V17 D17 f17 => ⟨d, i17, sd17, y, rfl, vcur hL16 2 rfl f17 V17, fun e => ?_, fun e h22 f22 hL22 => ?_⟩
    · have y1 := y1 (by omega)
      have z17 := f17.size
      rw [w64_eq (8 + y) (by omega) (by omega)] at e
      simp only [decide_eq_true_eq] at e
      have hL17 : Vars h17 [(b3, [x.v]), (b2, [nilSl.v]), (b, [d.v, VI i17, .int .u64 sd17])] := vcur hL16 2 rfl f17 V17
      refine eop_lit rIs (fun k => h17.size ≤ k) (fun _ h => h) 1 (by omega) [VI 0] rfl rfl fun w h18 n18 c18 o18 f18 m18 _ => ⟨w, rfl, hL17.of_no f18, ?_⟩
      have z18 := f18.size
      have o17i : OwX h17 (fun k => F k ∧ k < h17.size) x zs := (gb o16 f17).mono fun k hk hk2 => ⟨hk2, hk⟩
      refine eop_putF (m := h17.size) (xss := zs) (ys := [0]) (OwR.no o17i f18) o18 (fun k hk => F2 k (by omega)) z18 (hL17.of_no f18) (fun q hq => hoff _ _ _ q hq) (by omega) _ fun u h20 o20 f20 V20 h21 f21 hL21 => ?_
      have z20 := f20.size
      have z21 := f21.size
      have o21 : OwX h21 F u (zs ++ [[0]]) := OwR.fr o20 f21 fun k hk hk2 hk3 => by simp [In] at hk3; subst hk3; exact F3 hk2
      refine ⟨m - 1, by omega, rfl, ?_, by omega, ⟨_, o21, by simp; omega⟩, ?_, by omega⟩
      · exact (((D17.no f18).fr f20 fun k hk hk2 => by have := F1 _ hk2; omega).fr f21 fun k hk hk2 => by simp [In] at hk2; omega).up (by omega)
      · exact (((f16.trans (inb f17)).trans f18.of_no).trans (fT f20)).trans (f21.mono fun k _ hk => .inr (by simp [In] at hk; omega))
    · exact out x zs i17 sd17 h17 h22 (gb o16 f17) (by omega) (D17.up (by omega)) (f16.trans (inb f17)) f22 hL22.tail.tail.head
  · have g24 : Fr (fun k => k = b ∨ h.size ≤ k) h5 h24 := f24.mono fun k _ hk => .inr (by simp [In] at hk; omega)
    exact HK nilSl [] i5 sd5 h24 (by simp) ⟨[], rfl, RdV.nil _ _ _, fun i h1 => by simp at h1⟩ hL24.tail.tail.head ((D5.fr f24 fun k hk hk2 => by simp [In] at hk2; omega).up (by omega)) (fin _ ((f04.trans (inb f5)).trans g24))
  · exact out t xss i5 sd5 h5 h25 (gb o4 f5) (by omega) (D5.up (by omega)) (f04.trans (inb f5)) f25 hL25.tail.tail.head
theorem k_drgraph {a n b : Nat} {h : Heap} {c : Sl} {i sd : Int} (V : IsVar h b [c.v, VI i, .int .u64 sd]) (hb : a ≤ b) (D : CurD a n h c i) (hn : n ≤ 10000000) (K : Value → Heap → Prop) (HK : ∀ (t : Sl) (gs : List (List Int)) (i' sd' : Int) h', RdR (fun k => h.size ≤ k) h' t gs → IsVar h' b [c.v, VI i', .int .u64 sd'] → CurD a (n + 200) h' c i' → Fr (In [b]) h h' → K (.agg #[t.v]) h') : callM Try.prog 63 #[VP b 0] h K :=
  k_drgraph9 V hb D hn K fun t gs i' sd' h' _ => HK t gs i' sd' h'
theorem k_big (s t : Sl) (h : Heap) (K : Value → Heap → Prop) (HK : ∀ b, K (VB b) h) : callM Try.prog 23 #[s.v, t.v] h K :=
  v23 s t h K ⟨fun _ => HK true, fun _ => HK _⟩
theorem k_wSame {S S' : Nat → Prop} {h : Heap} {a b : Sl} {xs ys : List Int} (H : RdI S h a xs) (H' : RdI S' h b ys) (K : Value → Heap → Prop) (HK : K (VB (decide (xs = ys))) h) : callM Try.prog 29 #[a.v, b.v] h K := by
  refine v29 a b h K ⟨fun e => ?_, fun e => ?_⟩
  · have e1 := not_t e
    rw [H.len, H'.len] at e1
    have : ¬ xs = ys := fun e2 => by subst e2; simp at e1
    rw [decide_eq_false this] at HK
    exact HK
  · have e1 := not_f e
    rw [H.len, H'.len] at e1
    have hl : xs.length = ys.length := by simp at e1; omega
    refine ⟨fun n i h' => h' = h ∧ 0 ≤ i ∧ i + n = (xs.length : Int) ∧ decide (xs = ys) = decide (xs.drop i.toNat = ys.drop i.toNat), ⟨xs.length, rfl, by omega, by omega, by simp⟩, ?_⟩
    rintro n i hh ⟨rfl, h0, h1, h2⟩ hL
    refine ⟨fun e => ?_, fun e => ?_⟩
    · have hi := H.lt e
      have hi' : i < (ys.length : Int) := by omega
      refine ⟨H.inb h0 hi, _, H.get h0 hi, H'.inb h0 hi', _, H'.get h0 hi', fun e => ?_, fun e => ?_⟩
      · rw [drop_cons xs h0 hi, drop_cons ys h0 hi'] at h2
        have e3 := not_t e
        simp only [decide_eq_false_iff_not] at e3
        rw [h2, decide_eq_false (fun e4 => e3 (List.cons.inj e4).1)] at HK
        exact HK
      · rw [drop_cons xs h0 hi, drop_cons ys h0 hi'] at h2
        have e3 := not_f e
        simp only [decide_eq_true_eq] at e3
        rw [H.succ h0 hi]
        refine ⟨n - 1, by omega, rfl, by omega, by omega, h2.trans ?_⟩
        rw [e3]
        simp
    · have hi := H.ge e
      rw [List.drop_of_length_le (by omega), List.drop_of_length_le (by omega)] at h2
      rw [h2] at HK
      exact HK
theorem k_wRows {S S' : Nat → Prop} {h : Heap} {a b : Sl} {xs ys : List (List Int)} (H : RdR S h a xs) (H' : RdR S' h b ys) (he : xs = ys) (K : Value → Heap → Prop) (HK : K (VB true) h) : callM Try.prog 37 #[a.v, b.v] h K := by
  subst he
  refine v37 a b h K ⟨fun e => ?_, fun e => ?_⟩
  · have e1 := not_t e
    rw [H.len, H'.len] at e1
    simp at e1
  · refine ⟨fun n i h' => h = h' ∧ 0 ≤ i ∧ i + n = (xs.length : Int), ⟨xs.length, rfl, by omega, by omega⟩, ?_⟩
    rintro n i hh ⟨rfl, h0, h1⟩ hL
    refine ⟨fun e => ?_, fun e => HK⟩
    have hi := H.lt e
    obtain ⟨si, c1, r1⟩ := H.get h0 hi
    obtain ⟨sj, c2, r2⟩ := H'.get h0 hi
    refine ⟨H.inb h0 hi, si, c1, H'.inb h0 hi, sj, c2, k_wSame r1 r2 _ ⟨_, rfl, .nil, fun e => by simp at e, fun _ => ?_⟩⟩
    rw [H.succ h0 hi]
    exact ⟨n - 1, by omega, rfl, by omega, by omega⟩
theorem k_wGraph {S S' : Nat → Prop} {h : Heap} {a b : Sl} {xs ys : List (List Int)} (H : RdR S h a xs) (H' : RdR S' h b ys) (he : xs = ys) : Ret Try.prog 41 #[.agg #[a.v], .agg #[b.v]] h (VB true) := by
  intro K HK
  refine v41 a b h K fun b1 b2 h2 hb1 hb2 f2 hL2 => ?_
  have f2 := f2.in_nil
  exact k_wRows (H.no f2) (H'.no f2) he _ ⟨_, rfl, hL2, HK h2 f2⟩
theorem k_reach {S : Nat → Prop} {h : Heap} {g : Sl} {xss : List (List Int)} (G : RdR S h g xss) (hg : graphB xss = true) {p : Int} (h0 : 0 ≤ p) (h1 : p < (xss.length : Int)) (K : Value → Heap → Prop) (HK : ∀ (t : Sl) (h' : Heap), t.n = (farP xss p).countP (fun x => decide (0 ≤ x)) → Fr No h h' → K t.v h') : callM Try.prog 69 #[.agg #[g.v], VI p] h K := by
  refine v69 g p h K fun b1 h1' hb1 f1 hL1 => ?_
  have f1 := f1.in_nil
  have hgl := graph_len hg
  have l1 : b1 < h1'.size := hL1.head.lt
  refine eop_lit rIs (fun k => h1'.size ≤ k) (fun _ h => h) 0 (by omega) [] rfl rfl fun t h2 n2 c2 o2 f2 m2 _ => ⟨t, rfl, hL1.of_no f2, ?_⟩
  have z2 := f2.size
  refine k_lengths ((G.no f1).no f2) hg h0 h1 _ fun w h3 o3 fl f3 => ⟨w, rfl, (hL1.of_no f2).of_no f3, ?_⟩
  have z3 := f3.size
  have R3 : RdI (Iv h2.size h3.size) h3 w _ := Ow.rdI o3
  have o2' : OwI h3 (fun k => (Iv h1'.size h2.size k ∨ h3.size ≤ k)) t [] := (Ow.no o2 f3).mono fun k _ hk => by
    have := (o2.foot (by assumption)).2
    exact .inl ⟨hk, this⟩
  refine ⟨fun n x i h' => 0 ≤ i ∧ i + n = ((farP xss p).length : Int) ∧ (∃ ys, OwI h' (fun k => Iv h1'.size h2.size k ∨ h3.size ≤ k) x ys ∧ ys.length = ((farP xss p).take i.toNat).countP (fun x => decide (0 ≤ x))) ∧ RdI (Iv h2.size h3.size) h' w (farP xss p) ∧ Fr (fun k => Iv h1'.size h2.size k ∨ h3.size ≤ k) h3 h' ∧ h3.size ≤ h'.size, ⟨(farP xss p).length, by omega, by omega, ⟨[], o2', by simp⟩, R3, Fr.refl _ _, Nat.le_refl _⟩, ?_⟩
  rintro n x i h4 ⟨i0, i1, ⟨ys, o4, e4⟩, R4, f4, z4⟩ hL4
  have wn := R4.len
  refine ⟨fun e => ?_, fun e => ?_⟩
  · have hi := R4.lt e
    have hcl : ((farP xss p).take i.toNat).countP (fun x => decide (0 ≤ x)) ≤ (farP xss p).length := Nat.le_trans List.countP_le_length (by rw [List.length_take]; exact Nat.min_le_right _ _)
    have es : ((farP xss p).take (i + 1).toNat).countP (fun x => decide (0 ≤ x)) = ((farP xss p).take i.toNat).countP (fun x => decide (0 ≤ x)) + (if 0 ≤ ((farP xss p)[i.toNat]'(by omega)) then 1 else 0) := by
      rw [take_snoc _ i0 hi, List.countP_append, List.countP_singleton]
      simp only [decide_eq_true_eq]
    refine ⟨R4.inb i0 hi, _, R4.get i0 hi, fun c => ?_, fun c => ?_⟩
    · simp only [decide_eq_true_eq] at c
      refine eop_lit rIs (fun k => h4.size ≤ k) (fun _ h => h) 1 (by omega) [VI i] rfl rfl fun u h5 n5 c5 o5 f5 m5 _ => ⟨u, rfl, hL4.of_no f5, ?_⟩
      have z5 := f5.size
      have o4n := Ow.no o4 f5
      have on := o4n.rd.len
      have un := o5.rd.len
      simp only [List.length_map, Nat.mul_one, List.length_cons, List.length_nil] at on un
      refine eop_append rIs o4n (fun k hk => .inr (by omega)) o5.rd (plainVI [i]) (by omega) fun y h6 n6 o6 f6 d6 => ?_
      have g6 : Fr (fun k => Iv h1'.size h2.size k ∨ h3.size ≤ k) h5 h6 := f6.mono fun k _ hk => (o4n.foot hk).1
      have V6 := (hL4.of_no f5).fr g6 fun q hq hk => by
        simp only [List.mem_cons, List.not_mem_nil, or_false] at hq
        subst hq
        simp only at hk
        rcases hk with e | e
        · have := e.1; omega
        · omega
      rw [R4.succ i0 hi]
      refine ⟨y, rfl, V6, n - 1, by omega, by omega, by omega, ⟨ys ++ [i], by rw [OwI, List.map_append]; exact o6, by rw [es, if_pos c]; simp; omega⟩, (R4.no f5).fr g6 fun k hk hk2 => ?_, (f4.trans f5.of_no).trans g6, by have := f6.size; omega⟩
      have h1 := hk.1; have h2 := hk.2
      rcases hk2 with e | e
      · have := e.2; omega
      · omega
    · simp only [decide_eq_false_iff_not] at c
      rw [R4.succ i0 hi]
      exact ⟨n - 1, by omega, by omega, by omega, ⟨ys, o4, by rw [es, if_neg c]; omega⟩, R4, f4, z4⟩
  · have hi := R4.ge e
    rw [List.take_of_length_le (by omega)] at e4
    have xn := o4.rd.len
    simp only [List.length_map, Nat.mul_one] at xn
    refine HK x h4 (by omega) (((f1.no_trans f2).no_trans f3).fresh f4 fun k hk => ?_)
    rcases hk with e | e
    · have := e.1; have := f1.size; omega
    · have := f1.size; omega
def strongB (g : List (List Int)) : Bool := (List.range g.length).all fun p => decide ((farP g p).countP (fun x => decide (0 ≤ x)) = g.length)
theorem k_isStrong {S : Nat → Prop} {h : Heap} {g : Sl} {xss : List (List Int)} (G : RdR S h g xss) (hg : graphB xss = true) : Ret Try.prog 75 #[.agg #[g.v]] h (VB (strongB xss)) := by
  intro K HK
  have hgl := graph_len hg
  refine v75 g h K fun b1 h1 hb1 f1 hL1 => ?_
  have f1 := f1.in_nil
  refine ⟨fun n i h' => 0 ≤ i ∧ i + n = (xss.length : Int) ∧ (∀ p : Nat, (p : Int) < i → (farP xss p).countP (fun x => decide (0 ≤ x)) = xss.length) ∧ Fr No h h', ⟨xss.length, by omega, by omega, fun p hp => by omega, f1⟩, ?_⟩
  rintro n i h2 ⟨i0, i1, hp, f2⟩ hL2
  have G2 := G.no f2
  have gn := G2.len
  refine ⟨fun e => ?_, fun e => ?_⟩
  · have hi := G2.lt e
    refine k_reach G2 hg i0 hi _ fun t h3 e3 f3 => ⟨t, rfl, hL2.of_no f3, fun c => ?_, fun c => ?_⟩
    · have c := not_t c
      simp only [decide_eq_false_iff_not] at c
      have : strongB xss = false := by
        refine Bool.eq_false_iff.2 fun hs => ?_
        have := List.all_eq_true.1 hs i.toNat (by simpa using by omega)
        simp only [decide_eq_true_eq] at this
        rw [show ((i.toNat : Nat) : Int) = i by omega] at this
        omega
      rw [this] at HK
      exact HK h3 (f2.no_trans f3)
    · have c := not_f c
      simp only [decide_eq_true_eq] at c
      rw [G2.succ i0 hi]
      refine ⟨n - 1, by omega, by omega, by omega, fun p hp' => ?_, f2.no_trans f3⟩
      by_cases hpi : (p : Int) < i
      · exact hp p hpi
      · have : (p : Int) = i := by omega
        rw [this]; omega
  · have hi := G2.ge e
    have : strongB xss = true := List.all_eq_true.2 fun p hpr => by
      simp only [decide_eq_true_eq]
      exact hp p (by have := List.mem_range.1 hpr; omega)
    rw [this] at HK
    exact HK h2 f2
theorem k_IsStrong {S : Nat → Prop} {h : Heap} {g : Sl} {xss : List (List Int)} (G : RdR S h g xss) (K : Value → Heap → Prop) (HK : ∀ h', Fr No h h' → K (.tuple #[VB (graphB xss && strongB xss), VB (graphB xss)]) h') : callM Try.prog 35 #[.agg #[g.v]] h K := by
  refine v35 g h K fun b1 h1 hb1 f1 hL1 => ?_
  have f1 := f1.in_nil
  refine k_isGraph (G.no f1) _ fun h2 f2 => ⟨_, rfl, hL1.of_no f2, fun e => ?_, fun e => ?_⟩
  · have := HK h2 (f1.no_trans f2)
    rw [not_t e] at this
    exact this
  · have e := not_f e
    refine k_isStrong ((G.no f1).no f2) e _ fun h3 f3 => ⟨_, rfl, (hL1.of_no f2).of_no f3, ?_⟩
    have := HK h3 ((f1.no_trans f2).no_trans f3)
    rw [e, Bool.true_and] at this
    exact this
def partL (g : List (List Int)) (p : Nat) : List Int := (reachP g p).filter fun q => decide ((p : Int) ∈ reachP g q)
def stpL (g : List (List Int)) : Nat → List (List Int) × List Bool
  | 0 => ([], List.replicate g.length false)
  | p + 1 => if (stpL g p).2.getD p false then stpL g p else ((stpL g p).1 ++ [partL g p], markL (stpL g p).2 (partL g p))
def stpP (g : List (List Int)) : List (List Int) × Bool := if graphB g then ((stpL g g.length).1, true) else ([], false)
theorem stpL_len (g : List (List Int)) : ∀ n, (stpL g n).2.length = g.length ∧ (stpL g n).1.length ≤ n
  | 0 => by simp [stpL]
  | n + 1 => by
    obtain ⟨a, b⟩ := stpL_len g n
    rw [stpL]
    split
    · exact ⟨a, by omega⟩
    · exact ⟨by simp only [markL_length]; exact a, by simp; omega⟩
theorem markL_app (v : List Int) : ∀ (w : List Int) (I : List Bool), markL I (w ++ v) = markL (markL I w) v
  | [], I => rfl
  | y :: r, I => by rw [List.cons_append, markL, markL, markL_app v r]
theorem filter_len {far : List Int} {n i : Nat} {f : Int → Bool} : (((reachL far n).take i).filter f).length ≤ n :=
  Nat.le_trans (List.length_filter_le _ _) (Nat.le_trans (by rw [List.length_take]; exact Nat.min_le_right _ _) (reachL_len far n))
set_option maxHeartbeats 2000000 in
theorem k_StrongParts {S : Nat → Prop} {h : Heap} {g : Sl} {xss : List (List Int)} (G : RdR S h g xss) (K : Value → Heap → Prop) (HK : ∀ t h', OwX h' (Iv h.size h'.size) t (stpP xss).1 → Fr No h h' → K (.tuple #[t.v, VB (stpP xss).2]) h') : callM Try.prog 33 #[.agg #[g.v]] h K := by
  refine v33 g h K fun b1 h1 hb1 f1 hL1 => ?_
  have f1 := f1.in_nil
  have z1 := f1.size
  have l1 : b1 < h1.size := hL1.head.lt
  unfold stpP at HK
  refine k_isGraph (G.no f1) _ fun h2 f2 => ⟨_, rfl, hL1.of_no f2, fun e => ?_, fun e => ?_⟩
  · rw [not_t e] at HK
    exact HK nilSl _ (OwR.nil _ _ _ _) (f1.no_trans f2)
  have hg := not_f e
  rw [hg] at HK
  have hgl := graph_len hg
  have f02 := f1.no_trans f2
  have z2 := f2.size
  have hL2 := hL1.of_no f2
  have lit : ∀ {h1 : Heap} {K : Value → Heap → Prop}, (∀ t h2, OwX h2 (Iv h1.size h2.size) t [] → Fr No h1 h2 → K t.v h2) → eop Try.prog (Instr.buildSlice tIss 0 #[]) h1 K := fun HK => eop_lit rIss (fun k => _ ≤ k) (fun _ h => h) 0 (by omega) [] rfl rfl fun t h2 n2 c2 o2 f2 m2 _ => HK t h2 ⟨[], rfl, Ow.toIv o2, fun i a => by simp at a, fun i j a => by simp at a, fun i a => by simp at a⟩ f2
  have mk : ∀ {h1 : Heap} {K : Value → Heap → Prop}, (∀ t h2, Ow h2 (Iv h1.size h2.size) tB 1 t ((List.replicate xss.length false).map VB) → Fr No h1 h2 → K t.v h2) → eop Try.prog (Instr.makeSlice tBs (VI (g.n : Int)) (VI (g.n : Int))) h1 K := fun HK => eop_make rBs (fun k => _ ≤ k) (fun _ h => h) .i64 .i64 g.n g.n (Nat.le_refl _) (by rw [G.len]; omega) fun t h2 n2 c2 o2 f2 m2 _ => HK t h2 (Ow.toIv (by
    have e : (List.replicate g.n [VB false]).flatten = (List.replicate xss.length false).map VB := by rw [G.len]; simp [List.flatten_replicate_singleton]
    rw [e] at o2; exact o2)) f2
  refine ⟨fun x1 x2 h' => ∃ a c, Ow h' (Iv a c) tB 1 x2 ((List.replicate xss.length false).map VB) ∧ OwX h' (fun k => h2.size ≤ k ∧ ¬ Iv a c k) x1 [] ∧ h2.size ≤ a ∧ c ≤ h'.size ∧ Fr No h2 h', ⟨?_, ?_⟩, ?_⟩
  · refine lit fun t h3 o3 f3 => ⟨t, rfl, hL2.of_no f3, mk fun u h4 o4 f4 => ⟨u, rfl, (hL2.of_no f3).of_no f4, _, _, o4, (o3.no f4).mono fun k _ hk => ⟨hk.1, fun h => by have := hk.2; have := h.1; omega⟩, f3.size, Nat.le_refl _, f3.no_trans f4⟩⟩
  · refine mk fun u h4 o4 f4 => ⟨u, rfl, hL2.of_no f4, lit fun t h3 o3 f3 => ⟨t, rfl, (hL2.of_no f4).of_no f3, _, _, Ow.no o4 f3, o3.mono fun k _ hk => ⟨by have := f4.size; have := hk.1; omega, fun h => by have := hk.1; have := h.2; omega⟩, Nat.le_refl _, f3.size, f4.no_trans f3⟩⟩
  rintro out0 met h7 ⟨a, c, om, oo, ha, hc, f7⟩ hL7
  have f07 := f02.no_trans f7
  have z7 := f7.size
  have mlen := fun n => (stpL_len xss n).1
  refine ⟨fun n x i h' => 0 ≤ i ∧ i + n = (xss.length : Int) ∧ OwX h' (fun k => h2.size ≤ k ∧ ¬ Iv a c k) x (stpL xss i.toNat).1 ∧ Ow h' (Iv a c) tB 1 met ((stpL xss i.toNat).2.map VB) ∧ Fr No h h' ∧ h7.size ≤ h'.size, ⟨xss.length, by omega, by omega, oo, om, f07, Nat.le_refl _⟩, ?_⟩
  rintro n x i h8 ⟨i0, i1, o8, m8, f8, z8⟩ hL8
  have G8 := G.no f8
  have gn := G.len
  refine ⟨fun e => ?_, fun e => ?_⟩
  · have hi := G8.lt e
    have hml := mlen i.toNat
    have mn : met.n = (stpL xss i.toNat).2.length := blen m8.rd
    have est : stpL xss (i + 1).toNat = if (stpL xss i.toNat).2.getD i.toNat false then stpL xss i.toNat else ((stpL xss i.toNat).1 ++ [partL xss i.toNat], markL (stpL xss i.toNat).2 (partL xss i.toNat)) := by rw [toNat_succ i0, stpL]
    have mg : (stpL xss i.toNat).2.getD i.toNat false = (stpL xss i.toNat).2[i.toNat]'(by omega) := by rw [List.getD_eq_getElem?_getD, List.getElem?_eq_getElem (by omega)]; rfl
    rw [mg] at est
    rw [G8.succ i0 hi]
    refine ⟨m8.inb i0 (by omega), _, bget m8.rdF i0 (by omega), fun e2 => ?_, fun e2 => ?_⟩
    · rw [if_pos e2] at est
      exact ⟨n - 1, by omega, by omega, by omega, by rw [est]; exact o8, by rw [est]; exact m8, f8, z8⟩
    rw [if_neg (by rw [e2]; exact Bool.false_ne_true)] at est
    have hci : ((i.toNat : Nat) : Int) = i := by omega
    refine eop_lit rIs (fun k => h8.size ≤ k) (fun _ h => h) 0 (by omega) [] rfl rfl fun t h9 n9 c9 o9 f9 m9 _ => ⟨t, rfl, hL8.of_no f9, ?_⟩
    have z9 := f9.size
    refine k_reachL (G8.no f9) hg i0 hi _ fun w h10 o10 f10 => ⟨w, rfl, (hL8.of_no f9).of_no f10, ?_⟩
    have z10 := f10.size
    have o9' : OwI h10 (fun k => h8.size ≤ k ∧ ¬ Iv h9.size h10.size k) t [] := (Ow.no o9 f10).mono fun k hk1 hk => ⟨hk, fun h => by have := (o9.foot hk1).2; have := h.1; omega⟩
    have o8' : OwX h10 (fun k => (h2.size ≤ k ∧ ¬ Iv a c k) ∧ k < h8.size) x (stpL xss i.toNat).1 := ((o8.mono fun k hk hF => ⟨hF, hk⟩ : OwX h8 _ x _).no f9).no f10
    generalize hfil : (fun q => decide (i ∈ reachP xss q)) = fil
    have hpart : partL xss i.toNat = (reachP xss i).filter fil := by unfold partL; rw [hci, hfil]
    refine ⟨fun m p j h' => 0 ≤ j ∧ j + m = ((reachP xss i).length : Int) ∧ OwI h' (fun k => h8.size ≤ k ∧ ¬ Iv h9.size h10.size k) p (((reachP xss i).take j.toNat).filter fil) ∧ RdI (Iv h9.size h10.size) h' w (reachP xss i) ∧ OwX h' (fun k => (h2.size ≤ k ∧ ¬ Iv a c k) ∧ k < h8.size) x (stpL xss i.toNat).1 ∧ Ow h' (Iv a c) tB 1 met ((markL (stpL xss i.toNat).2 (((reachP xss i).take j.toNat).filter fil)).map VB) ∧ Fr No h h' ∧ h10.size ≤ h'.size, ⟨(reachP xss i).length, by omega, by omega, by simpa using o9', o10.rdI, o8', by simpa [markL] using (Ow.no (Ow.no m8 f9) f10), (f8.no_trans f9).no_trans f10, Nat.le_refl _⟩, ?_⟩
    rintro m p j h11 ⟨j0, j1, op, rw', ox, om, f11, z11⟩ hL11
    have G11 := G.no f11
    refine ⟨fun e3 => ?_, fun e3 => ?_⟩
    · have hj := rw'.lt e3
      have hq : (reachP xss i)[j.toNat]'(by omega) ∈ reachP xss i := List.getElem_mem _
      have hqr := mem_reachL.1 hq
      generalize hqe : (reachP xss i)[j.toNat]'(by omega) = q at *
      have eft : ((reachP xss i).take (j + 1).toNat).filter fil = ((reachP xss i).take j.toNat).filter fil ++ (if fil q then [q] else []) := by
        rw [take_snoc _ j0 hj, hqe, List.filter_append]
        congr 1
        cases hf : fil q <;> simp [hf]
      have hcell : hcell h11 (w.at j 1) = some (VI q) := by rw [rw'.get j0 hj, hqe]
      rw [rw'.succ j0 hj]
      refine ⟨rw'.inb j0 hj, q, hcell, k_reachL G11 hg hqr.1 hqr.2.1 _ fun u h12 o12 f12 => ⟨u, rfl, hL11.of_no f12, k_ContainsI (Ow.rdI o12) _ _ ⟨_, rfl, hL11.of_no f12, fun e4 => ?_, fun e4 => ?_⟩⟩⟩
      · have z12 := f12.size
        have hfq : fil q = true := by rw [← hfil]; exact e4
        rw [hfq, if_pos rfl] at eft
        refine eop_putI (Ow.no op f12) (fun k hk => ⟨by omega, fun h => by have := h.2; omega⟩) (hL11.of_no f12) (fun y hy hk => ?_) (by have := @filter_len (farP xss i) xss.length j.toNat fil; unfold reachP; omega) (fun t2 h15 => _) fun y h15 o15 f15 V15 => ?_
        · simp only [List.mem_cons, List.not_mem_nil, or_false] at hy
          subst hy
          simp only at hk
          omega
        have z15 := f15.size
        have om15 : Ow h15 (Iv a c) tB 1 met _ := (Ow.no om f12).fr f15 fun k hk hk2 => by have := (om.foot hk).1.2; omega
        have ml : (markL (stpL xss i.toNat).2 (((reachP xss i).take j.toNat).filter fil)).length = xss.length := by rw [markL_length]; exact hml
        have mn2 : met.n = xss.length := by omega
        obtain ⟨w1, w2, w3⟩ := om15.store1 hqr.1 (by omega) (VB true)
        have w3' : Fr (Iv a c) h15 _ := w3.mono fun k _ hk => (om15.foot hk).1
        rw [← List.map_set] at w2
        refine ⟨om15.inb hqr.1 (by omega), w1, V15.iv w3' ⟨.inl (by omega), trivial⟩, ?_⟩
        rintro h16 rfl hL16
        have z16 := w3'.size
        refine ⟨m - 1, by omega, by omega, by omega, ?_, ?_, ?_, ?_, ?_, by omega⟩
        · rw [eft]
          exact Ow.fr o15 w3' fun k hk hk2 => by have := (o15.foot hk).1.1; have := hk2.2; omega
        · exact ((rw'.no f12).fr f15 fun k hk hk2 => hk2.2 hk).iv w3' (.inr (by omega))
        · exact ((ox.no f12).fr f15 fun k _ hk hk2 => by have := hk.2; omega).fr w3' fun k _ hk hk2 => hk.1.2 hk2
        · rw [eft, markL_app]; exact w2
        · exact ((f11.no_trans f12).fresh f15 fun k hk => by have := f11.size; have := f8.size; omega).ivFresh w3' (by omega)
      · have hfq : fil q = false := by rw [← hfil]; exact e4
        rw [hfq, if_neg Bool.false_ne_true, List.append_nil] at eft
        refine ⟨m - 1, by omega, by omega, by omega, by rw [eft]; exact Ow.no op f12, rw'.no f12, ox.no f12, by rw [eft]; exact Ow.no om f12, f11.no_trans f12, by have := f12.size; omega⟩
    · have hj := rw'.ge e3
      rw [List.take_of_length_le (by omega), ← hpart] at op om
      refine eop_lit rIss (fun k => h11.size ≤ k) (fun _ h => h) 1 (by omega) [p.v] rfl rfl fun u h12 n12 c12 o12 f12 m12 _ => ⟨u, rfl, hL11.of_no f12, ?_⟩
      have z12 := f12.size
      refine OwR.snoc rIss (ox.no f12) (F' := fun k => h2.size ≤ k ∧ ¬ Iv a c k) (fun k _ hk => hk.1) (fun k hk => ⟨by omega, fun h => by have := h.2; omega⟩) ((Ow.no op f12).mono fun k _ hk => ⟨by have := hk.1; omega, fun h => by have := hk.1; have := h.2; omega⟩) (fun k hk hk2 => by have := (op.foot hk).1.1; have := hk2.2; omega) o12.rd (by have := (stpL_len xss i.toNat).2; omega) fun y h13 o13 f13 => ⟨y, rfl, (hL11.of_no f12).fr f13 (fun q hq hk => ?_), ?_⟩
      · simp only [List.mem_cons, List.not_mem_nil, or_false] at hq
        subst hq
        have := hk.1.1
        simp only at this
        omega
      have z13 := f13.size
      refine ⟨n - 1, by omega, by omega, by omega, by rw [est]; exact o13, ?_, (f11.no_trans f12).fresh f13 fun k hk => by have := hk.1.1; omega, by omega⟩
      rw [est]
      exact (Ow.no om f12).fr f13 fun k hk hk2 => hk2.1.2 (om.foot hk).1
  · have hi := G8.ge e
    rw [show i.toNat = xss.length by omega] at o8
    exact HK x h8 (o8.mono fun k hk hF => ⟨by have := hF.1; omega, hk⟩) f8
set_option maxHeartbeats 2000000 in
theorem k_spec_StrongParts {S : Nat → Prop} {h : Heap} {g : Sl} {xss : List (List Int)} (G : RdR S h g xss) (K : Value → Heap → Prop) (HK : ∀ t h', OwX h' (Iv h.size h'.size) t (stpP xss).1 → Fr No h h' → K (.tuple #[t.v, VB (stpP xss).2]) h') : callM Try.prog 34 #[.agg #[g.v]] h K := by
  refine v34 g h K fun b1 h1 hb1 f1 hL1 => ?_
  have f1 := f1.in_nil
  have z1 := f1.size
  have l1 : b1 < h1.size := hL1.head.lt
  unfold stpP at HK
  refine k_spec_grGood (G.no f1) _ fun h2 f2 => ⟨_, rfl, hL1.of_no f2, fun e => ?_, fun e => ?_⟩
  · rw [not_t e] at HK
    exact HK nilSl _ (OwR.nil _ _ _ _) (f1.no_trans f2)
  have hg := not_f e
  rw [hg] at HK
  have hgl := graph_len hg
  have f02 := f1.no_trans f2
  have z2 := f2.size
  have hL2 := hL1.of_no f2
  refine eop_make rBs (fun k => h2.size ≤ k) (fun _ h => h) .i64 .i64 g.n g.n (Nat.le_refl _) (by rw [G.len]; omega) fun met h7 n7 c7 om f7 m7 _ => ⟨met, rfl, hL2.of_no f7, ?_⟩
  have om : Ow h7 (Iv h2.size h7.size) tB 1 met ((List.replicate xss.length false).map VB) := by
    have e : (List.replicate g.n [VB false]).flatten = (List.replicate xss.length false).map VB := by rw [G.len]; simp [List.flatten_replicate_singleton]
    rw [e] at om; exact Ow.toIv om
  have f07 := f02.no_trans f7
  have z7 := f7.size
  have mlen := fun n => (stpL_len xss n).1
  refine ⟨fun n x i h' => 0 ≤ i ∧ i + n = (xss.length : Int) ∧ OwX h' (fun k => h7.size ≤ k) x (stpL xss i.toNat).1 ∧ Ow h' (Iv h2.size h7.size) tB 1 met ((stpL xss i.toNat).2.map VB) ∧ Fr No h h' ∧ h7.size ≤ h'.size, ⟨xss.length, by omega, by omega, OwR.nil _ _ _ _, om, f07, Nat.le_refl _⟩, ?_⟩
  rintro n x i h8 ⟨i0, i1, o8, m8, f8, z8⟩ hL8
  have G8 := G.no f8
  have gn := G.len
  refine ⟨fun e => ?_, fun e => ?_⟩
  · have hi := G8.lt e
    have hml := mlen i.toNat
    have mn : met.n = (stpL xss i.toNat).2.length := blen m8.rd
    have est : stpL xss (i + 1).toNat = if (stpL xss i.toNat).2.getD i.toNat false then stpL xss i.toNat else ((stpL xss i.toNat).1 ++ [partL xss i.toNat], markL (stpL xss i.toNat).2 (partL xss i.toNat)) := by rw [toNat_succ i0, stpL]
    have mg : (stpL xss i.toNat).2.getD i.toNat false = (stpL xss i.toNat).2[i.toNat]'(by omega) := by rw [List.getD_eq_getElem?_getD, List.getElem?_eq_getElem (by omega)]; rfl
    rw [mg] at est
    rw [G8.succ i0 hi]
    refine ⟨m8.inb i0 (by omega), _, bget m8.rdF i0 (by omega), fun e2 => ?_, fun e2 => ?_⟩
    · rw [if_pos e2] at est
      exact ⟨n - 1, by omega, by omega, by omega, by rw [est]; exact o8, by rw [est]; exact m8, f8, z8⟩
    rw [if_neg (by rw [e2]; exact Bool.false_ne_true)] at est
    have hci : ((i.toNat : Nat) : Int) = i := by omega
    refine k_grReach G8 hg i0 hi _ fun w h10 o10 f10 => ⟨w, rfl, hL8.of_no f10, ?_⟩
    have z10 := f10.size
    have o8' : OwX h10 (fun k => h7.size ≤ k ∧ k < h8.size) x (stpL xss i.toNat).1 := (o8.mono fun k hk hF => ⟨hF, hk⟩ : OwX h8 _ x _).no f10
    generalize hfil : (fun q => decide (i ∈ reachP xss q)) = fil
    have hpart : partL xss i.toNat = (reachP xss i).filter fil := by unfold partL; rw [hci, hfil]
    refine ⟨fun m p j h' => 0 ≤ j ∧ j + m = ((reachP xss i).length : Int) ∧ OwI h' (fun k => h10.size ≤ k) p (((reachP xss i).take j.toNat).filter fil) ∧ RdI (Iv h8.size h10.size) h' w (reachP xss i) ∧ OwX h' (fun k => h7.size ≤ k ∧ k < h8.size) x (stpL xss i.toNat).1 ∧ Ow h' (Iv h2.size h7.size) tB 1 met ((markL (stpL xss i.toNat).2 (((reachP xss i).take j.toNat).filter fil)).map VB) ∧ Fr No h h' ∧ h10.size ≤ h'.size, ⟨(reachP xss i).length, by omega, by omega, (Ow.nil _ _ _ _ : OwI h10 (fun k => h10.size ≤ k) nilSl []), o10.rdI, o8', by simpa [markL] using (Ow.no m8 f10), f8.no_trans f10, Nat.le_refl _⟩, ?_⟩
    rintro m p j h11 ⟨j0, j1, op, rw', ox, om, f11, z11⟩ hL11
    have G11 := G.no f11
    refine ⟨fun e3 => ?_, fun e3 => ?_⟩
    · have hj := rw'.lt e3
      have hq : (reachP xss i)[j.toNat]'(by omega) ∈ reachP xss i := List.getElem_mem _
      have hqr := mem_reachL.1 hq
      generalize hqe : (reachP xss i)[j.toNat]'(by omega) = q at *
      have eft : ((reachP xss i).take (j + 1).toNat).filter fil = ((reachP xss i).take j.toNat).filter fil ++ (if fil q then [q] else []) := by
        rw [take_snoc _ j0 hj, hqe, List.filter_append]
        congr 1
        cases hf : fil q <;> simp [hf]
      have hcell : hcell h11 (w.at j 1) = some (VI q) := by rw [rw'.get j0 hj, hqe]
      rw [rw'.succ j0 hj]
      refine ⟨rw'.inb j0 hj, q, hcell, k_grReach G11 hg hqr.1 hqr.2.1 _ fun u h12 o12 f12 => ⟨u, rfl, hL11.of_no f12, k_l1Has (Ow.rdI o12) _ _ ⟨_, rfl, hL11.of_no f12, fun e4 => ?_, fun e4 => ?_⟩⟩⟩
      · have z12 := f12.size
        have hfq : fil q = true := by rw [← hfil]; exact e4
        rw [hfq, if_pos rfl] at eft
        refine eop_putI (Ow.no op f12) (fun k hk => by omega) (hL11.of_no f12) (fun y hy hk => ?_) (by have := @filter_len (farP xss i) xss.length j.toNat fil; unfold reachP; omega) (fun t2 h15 => _) fun y h15 o15 f15 V15 => ?_
        · simp only [List.mem_cons, List.not_mem_nil, or_false] at hy
          subst hy
          simp only at hk
          omega
        have z15 := f15.size
        have om15 : Ow h15 (Iv h2.size h7.size) tB 1 met _ := (Ow.no om f12).fr f15 fun k hk hk2 => by have := (om.foot hk).1.2; omega
        have ml : (markL (stpL xss i.toNat).2 (((reachP xss i).take j.toNat).filter fil)).length = xss.length := by rw [markL_length]; exact hml
        obtain ⟨w1, w2, w3⟩ := om15.store1 hqr.1 (by omega) (VB true)
        have w3' : Fr (Iv h2.size h7.size) h15 _ := w3.mono fun k _ hk => (om15.foot hk).1
        rw [← List.map_set] at w2
        refine ⟨om15.inb hqr.1 (by omega), w1, V15.iv w3' ⟨.inl (by omega), trivial⟩, ?_⟩
        rintro h16 rfl hL16
        have z16 := w3'.size
        refine ⟨m - 1, by omega, by omega, by omega, ?_, ?_, ?_, ?_, ?_, by omega⟩
        · rw [eft]
          exact Ow.fr o15 w3' fun k hk hk2 => by have := (o15.foot hk).1; have := hk2.2; omega
        · exact ((rw'.no f12).fr f15 fun k hk hk2 => by have := hk.2; omega).iv w3' (.inr (by omega))
        · exact ((ox.no f12).fr f15 fun k _ hk hk2 => by have := hk.2; omega).fr w3' fun k _ hk hk2 => by have := hk.1; have := hk2.2; omega
        · rw [eft, markL_app]; exact w2
        · exact ((f11.no_trans f12).fresh f15 fun k hk => by have := f11.size; have := f8.size; omega).ivFresh w3' (by omega)
      · have hfq : fil q = false := by rw [← hfil]; exact e4
        rw [hfq, if_neg Bool.false_ne_true, List.append_nil] at eft
        refine ⟨m - 1, by omega, by omega, by omega, by rw [eft]; exact Ow.no op f12, rw'.no f12, ox.no f12, by rw [eft]; exact Ow.no om f12, f11.no_trans f12, by have := f12.size; omega⟩
    · have hj := rw'.ge e3
      rw [List.take_of_length_le (by omega), ← hpart] at op om
      refine eop_lit rIss (fun k => h11.size ≤ k) (fun _ h => h) 1 (by omega) [p.v] rfl rfl fun u h12 n12 c12 o12 f12 m12 _ => ⟨u, rfl, hL11.of_no f12, ?_⟩
      have z12 := f12.size
      refine OwR.snoc rIss (ox.no f12) (F' := fun k => h7.size ≤ k) (fun k _ hk => hk.1) (fun k hk => by omega) ((Ow.no op f12).mono fun k _ hk => by omega) (fun k hk hk2 => by have := (op.foot hk).1; have := hk2.2; omega) o12.rd (by have := (stpL_len xss i.toNat).2; omega) fun y h13 o13 f13 => ⟨y, rfl, (hL11.of_no f12).fr f13 (fun q hq hk => ?_), ?_⟩
      · simp only [List.mem_cons, List.not_mem_nil, or_false] at hq
        subst hq
        have := hk.1
        simp only at this
        omega
      have z13 := f13.size
      refine ⟨n - 1, by omega, by omega, by omega, by rw [est]; exact o13, ?_, (f11.no_trans f12).fresh f13 fun k hk => by have := hk.1; omega, by omega⟩
      rw [est]
      exact (Ow.no om f12).fr f13 fun k hk hk2 => by have := (om.foot hk).1.2; have := hk2.1; omega
  · have hi := G8.ge e
    rw [show i.toNat = xss.length by omega] at o8
    exact HK x h8 (o8.mono fun k hk hF => ⟨by omega, hk⟩) f8
theorem k_grStrong {S : Nat → Prop} {h : Heap} {g : Sl} {xss : List (List Int)} (G : RdR S h g xss) (hg : graphB xss = true) : Ret Try.prog 76 #[.agg #[g.v]] h (VB (strongB xss)) := by
  intro K HK
  refine v76 g h K fun b1 h1 hb1 f1 hL1 => ?_
  have f1 := f1.in_nil
  have hgl := graph_len hg
  refine ⟨fun n i h' => 0 ≤ i ∧ i + n = (xss.length : Int) ∧ Fr No h h' ∧ ∀ j : Nat, (j : Int) < i → (farP xss j).countP (fun x => decide (0 ≤ x)) = xss.length, ⟨xss.length, by omega, by omega, f1, fun j hj => by omega⟩, ?_⟩
  rintro n i h2 ⟨i0, i1, f2, hall⟩ hL2
  have G2 := G.no f2
  refine ⟨fun e => ?_, fun e => ?_⟩
  · have hi := G2.lt e
    have hci : ((i.toNat : Nat) : Int) = i := by omega
    refine k_grReach G2 hg i0 hi _ fun t h3 o3 f3 => ⟨t, rfl, hL2.of_no f3, ?_⟩
    have tl : t.n = (reachP xss i).length := RdI.len o3.rdF
    have fl := (far_bq hg i0 hi).len
    have hc : (reachP xss i).length = (farP xss i).countP (fun x => decide (0 ≤ x)) := by rw [reachP, reachL_cnt _ _ (by omega), List.take_of_length_le (by omega)]
    rw [G.len]
    refine ⟨fun e2 => ?_, fun e2 => ?_⟩
    · have e2 := not_t e2
      simp only [decide_eq_false_iff_not] at e2
      have := HK h3 (f2.no_trans f3)
      rw [show strongB xss = false by
        cases hb : strongB xss with
        | false => rfl
        | true =>
          unfold strongB at hb
          rw [range_all] at hb
          have := hb i.toNat (by omega)
          rw [hci, decide_eq_true_eq] at this
          omega] at this
      exact this
    · have e2 := not_f e2
      simp only [decide_eq_true_eq] at e2
      rw [w64_eq _ (by omega) (by omega)]
      refine ⟨n - 1, by omega, by omega, by omega, f2.no_trans f3, fun j hj => ?_⟩
      by_cases h5 : (j : Int) < i
      · exact hall j h5
      · rw [show (j : Int) = i by omega]; omega
  · have hi := G2.ge e
    have := HK h2 f2
    rw [show strongB xss = true by
      unfold strongB
      rw [range_all]
      intro j hj
      rw [decide_eq_true_eq]
      exact hall j (by omega)] at this
    exact this
theorem k_spec_IsStrong {S : Nat → Prop} {h : Heap} {g : Sl} {xss : List (List Int)} (G : RdR S h g xss) (K : Value → Heap → Prop) (HK : ∀ h', Fr No h h' → K (.tuple #[VB (graphB xss && strongB xss), VB (graphB xss)]) h') : callM Try.prog 36 #[.agg #[g.v]] h K := by
  refine v36 g h K fun b1 h1 hb1 f1 hL1 => ?_
  have f1 := f1.in_nil
  refine k_spec_grGood (G.no f1) _ fun h2 f2 => ⟨_, rfl, hL1.of_no f2, fun e => ?_, fun e => ?_⟩
  · rw [not_t e] at HK; exact HK _ (f1.no_trans f2)
  have hg := not_f e
  rw [hg, Bool.true_and] at HK
  exact k_grStrong ((G.no f1).no f2) hg _ fun h3 f3 => ⟨_, rfl, (hL1.of_no f2).of_no f3, HK _ ((f1.no_trans f2).no_trans f3)⟩
theorem k_shuffled {a n b : Nat} {h : Heap} {c : Sl} {i sd : Int} (V : IsVar h b [c.v, VI i, .int .u64 sd]) (hb : a ≤ b) (D : CurD a n h c i) (hn : n ≤ 1000000000) {m : Nat} (hm : m ≤ 100) (K : Value → Heap → Prop) (HK : ∀ (t : Sl) (xs : List Int) (i' sd' : Int) h', OwI h' (fun k => h.size ≤ k) t xs → xs.length = m → IsVar h' b [c.v, VI i', .int .u64 sd'] → CurD a (n + 200) h' c i' → Fr (In [b]) h h' → K t.v h') : callM Try.prog 77 #[VP b 0, VI (m : Int)] h K := by
  have lb := V.lt
  refine v77 b c i sd m h K (.cons V (by simp) .nil) ⟨fun n x p h' => 0 ≤ p ∧ p + n = (m : Int) ∧ (∃ xs, OwI h' (fun k => h.size ≤ k) x xs ∧ xs.length = p.toNat) ∧ Fr No h h', ⟨m, by omega, by omega, ⟨[], Ow.nil _ _ _ _, rfl⟩, Fr.refl _ _⟩, ?_⟩
  rintro n1 x p h1 ⟨p0, p1, ⟨xs, o1, e1⟩, f1⟩ hL1
  have z1 := f1.size
  refine ⟨fun e => ?_, fun e => ?_⟩
  · simp only [decide_eq_true_eq] at e
    refine eop_putI o1 (fun k hk => by omega) hL1 (fun q hq hk => ?_) (by omega) (fun t2 h6 => ∃ m : Nat, m < n1 ∧ _) fun y h3 o3 f3 V3 => ?_
    · simp only [List.mem_cons, List.not_mem_nil, or_false] at hq
      subst hq
      simp only at hk
      omega
    · rw [w64_eq _ (by omega) (by omega)]
      exact ⟨n1 - 1, by omega, by omega, by omega, ⟨_, o3, by simp; omega⟩, f1.fresh f3 fun k hk => by omega⟩
  simp only [decide_eq_false_iff_not] at e
  have xn : x.n = xs.length := RdI.len o1.rdF
  refine ⟨fun n2 j c' i' sd' h' => 0 ≤ j ∧ j + n2 = (m : Int) ∧ c' = c ∧ CurD a (n + 2 * j.toNat) h' c i' ∧ (∃ ys, OwI h' (fun k => h.size ≤ k) x ys ∧ ys.length = m) ∧ Fr (In [b]) h h', ⟨m, by omega, by omega, rfl, (D.no f1).up (by omega), ⟨xs, o1, by omega⟩, f1.of_no⟩, ?_⟩
  rintro n2 j c' i4 sd4 h4 ⟨j0, j1, rfl, D4, ⟨ys, o4, e4⟩, f4⟩ hL4
  refine ⟨fun e5 => ?_, fun e5 => ?_⟩
  · simp only [decide_eq_true_eq] at e5
    refine k_pick hL4.head hb D4 (by omega) m _ fun y i5 sd5 h5 y0 y1 V5 D5 f5 => ⟨c', i5, sd5, y, rfl, .cons V5 (by simp) .nil, ?_⟩
    have y1 := y1 (by omega)
    have o5 : OwI h5 (fun k => h.size ≤ k) x ys := Ow.fr o4 f5 fun k hk hk2 => by have := (o4.foot hk).1; simp [In] at hk2; omega
    have R5 : RdI (fun k => h.size ≤ k) h5 x ys := o5.rdF
    obtain ⟨w1, w2, w3⟩ := o5.store1 j0 (by omega) (VI (ys[y.toNat]'(by omega)))
    rw [← List.map_set] at w2
    obtain ⟨u1, u2, u3⟩ := Ow.store1 w2 y0 (by omega) (VI (ys[j.toNat]'(by omega)))
    rw [← List.map_set] at u2
    have w3' : Fr (fun k => h.size ≤ k) h5 _ := w3.mono fun k _ hk => (o5.foot hk).1
    have u3' : Fr (fun k => h.size ≤ k) _ _ := u3.mono fun k _ hk => (w2.foot hk).1
    have off : ∀ q, q ∈ [(b, [c'.v, VI i5, Value.int .u64 sd5])] → ¬ (h.size ≤ q.1) := fun q hq => by
      simp only [List.mem_cons, List.not_mem_nil, or_false] at hq
      subst hq
      simp only
      omega
    have hL5 : Vars h5 [(b, [c'.v, VI i5, Value.int .u64 sd5])] := .cons V5 (by simp) .nil
    refine ⟨R5.inb j0 (by omega), _, R5.get j0 (by omega), R5.inb y0 (by omega), _, R5.get y0 (by omega), R5.inb j0 (by omega), w1, hL5.fr w3' off, ?_⟩
    rintro h6 rfl hL6
    refine ⟨R5.inb y0 (by omega), u1, hL6.fr u3' off, ?_⟩
    rintro h7 rfl hL7
    rw [w64_eq _ (by omega) (by omega)]
    have zz := f4.size
    have z5 := f5.size
    refine ⟨n2 - 1, by omega, by omega, by omega, rfl, (((D5.fr w3' fun k hk hk2 => by omega).fr u3' fun k hk hk2 => by omega).up (by omega)), ⟨_, u2, by simp [e4]⟩, ?_⟩
    exact (f4.trans f5).fresh2 (w3'.trans u3') fun k hk => hk
  · simp only [decide_eq_false_iff_not] at e5
    exact HK x ys i4 sd4 h4 o4 e4 hL4.head (D4.up (by omega)) f4
theorem k_DrawRenamePlaces {S : Nat → Prop} {h : Heap} {code : Sl} {vs : List Value} (C : RdV S h 1 code vs) (B : ∀ v, v ∈ vs → ∃ m : Int, v = Value.int .u8 m ∧ 0 ≤ m ∧ m ≤ 255) (K : Value → Heap → Prop) (HK : ∀ (t u : Sl) (gs : List (List Int)) (ns : List Int) h', RdR (fun k => h.size ≤ k) h' t gs → RdI (fun k => h.size ≤ k) h' u ns → Fr No h h' → K (.tuple #[.agg #[t.v], u.v]) h') : callM Try.prog 38 #[code.v] h K := by
  refine v38 code h K fun b1 b2 h2 hb1 hb2 f2 hL2 => ?_
  have f2 := f2.in_nil
  have z2 := f2.size
  have l2 : b2 < h2.size := hL2.head.lt
  have l1 : b1 < h2.size := hL2.tail.head.lt
  have D2 : CurD h.size 0 h2 code 0 := ⟨⟨vs, ((RdV.lt C).mono fun k hk => hk.2).no f2, B⟩, by omega, by omega⟩
  refine k_drgraph9 hL2.head hb2 D2 (by omega) _ fun t gs i3 sd3 h3 gl G3 V3 D3 f3 => ⟨code, i3, sd3, t, rfl, vcur hL2 0 rfl f3 V3, fun b3 h5 hb3 f5 hL5 => ?_⟩
  have f5 := f5.in_nil
  have z3 := f3.size
  have z5 := f5.size
  have l3 : b3 < h5.size := hL5.head.lt
  have G5 : RdR (Iv h2.size h3.size) h5 t gs := (G3.lowS.mono fun k hk => hk).no f5
  have tn := G5.len
  rw [tn]
  refine k_shuffled hL5.tail.head hb2 (D3.no f5) (by omega) (by omega) _ fun u ns i6 sd6 h6 o6 e6 V6 D6 f6 => ⟨code, i6, sd6, u, rfl, vcur hL5 1 rfl f6 V6, ?_⟩
  have hL6 := vcur hL5 1 rfl f6 V6
  have z6 := f6.size
  have un : u.n = ns.length := RdI.len o6.rdF
  have f06 : Fr (In [b2]) h2 h6 := (f3.trans f5.of_no).trans f6
  refine ⟨fun c' i' sd' h' => c' = code ∧ (∃ ms, OwI h' (fun k => h5.size ≤ k) u ms) ∧ Fr (fun k => k = b2 ∨ h5.size ≤ k) h6 h', ⟨fun e => ?_, fun e => ⟨rfl, ⟨ns, o6⟩, Fr.refl _ _⟩⟩, ?_⟩
  · simp only [decide_eq_true_eq] at e
    refine k_one hL6.tail.head hb2 D6 (by omega) 8 _ fun q i7 sd7 h7 V7 D7 f7 => ⟨code, i7, sd7, q, rfl, vcur hL6 1 rfl f7 V7, fun _ => ?_, fun _ => ?_⟩
    rotate_left
    · exact ⟨rfl, ⟨ns, Ow.fr o6 f7 fun k hk hk2 => by have := (o6.foot hk).1; simp [In] at hk2; omega⟩, f7.mono fun k _ hk => .inl (by simpa [In] using hk)⟩
    have hL7 := vcur hL6 1 rfl f7 V7
    have z7 := f7.size
    refine eop_lit rIs (fun k => h7.size ≤ k) (fun _ h => h) 4 (by omega) [VI (-1), VI 0, VI 1, VI (u.n : Int)] rfl rfl fun w h8 n8 c8 o8 f8 m8 _ => ⟨w, rfl, hL7.of_no f8, ?_⟩
    have r8 : RdI (fun k => h7.size ≤ k) h8 w [-1, 0, 1, (u.n : Int)] := o8.rdF
    have z8 := f8.size
    refine k_among (hL7.of_no f8).tail.head hb2 (D7.no f8) (by omega) r8 (by omega) (by simp) _ fun v i9 sd9 h9 hv V9 D9 f9 => ⟨code, i9, sd9, v, rfl, vcur (hL7.of_no f8) 1 rfl f9 V9, ?_⟩
    have hL9 : Vars h9 [(b3, [t.v]), (b2, [code.v, VI i9, .int .u64 sd9]), (b1, [nilSl.v])] := vcur (hL7.of_no f8) 1 rfl f9 V9
    have o9 : OwI h9 (fun k => h5.size ≤ k) u ns := ((Ow.fr o6 f7 fun k hk hk2 => by have := (o6.foot hk).1; simp [In] at hk2; omega).no f8).fr f9 fun k hk hk2 => by have := (o6.foot hk).1; simp [In] at hk2; omega
    obtain ⟨w1, w2, w3⟩ := o9.store1 (Int.le_refl 0) (by omega) (VI v)
    rw [← List.map_set] at w2
    have w3' : Fr (fun k => h5.size ≤ k) h9 _ := w3.mono fun k _ hk => (o9.foot hk).1
    refine ⟨o9.inb (Int.le_refl 0) (by omega), w1, hL9.fr w3' (fun q hq => ?_), ?_⟩
    · simp only [List.mem_cons, List.not_mem_nil, or_false] at hq
      rcases hq with rfl | rfl | rfl <;> simp only <;> omega
    · rintro h10 rfl hL10
      exact ⟨rfl, ⟨_, w2⟩, (((f7.mono fun k _ hk => .inl (by simpa [In] using hk)).trans f8.of_no).trans (f9.mono fun k _ hk => .inl (by simpa [In] using hk))).trans (w3'.mono fun k _ hk => .inr hk)⟩
  rintro c' i7 sd7 h11 ⟨rfl, ⟨ms, o11⟩, f11⟩ hL11 h12 f12 hL12
  have g12 : Fr (fun k => k = b2 ∨ k = b1 ∨ h5.size ≤ k) h2 h12 := (((f06.mono fun k _ hk => .inl (by simpa [In] using hk)).trans (f11.mono fun k _ hk => by rcases hk with e | e <;> simp [e])).trans (f12.mono fun k _ hk => .inr (.inl (by simpa [In] using hk))))
  have g5 : Fr (fun k => k = b2 ∨ k = b1 ∨ h5.size ≤ k) h5 h12 := (((f6.mono fun k _ hk => .inl (by simpa [In] using hk)).trans (f11.mono fun k _ hk => by rcases hk with e | e <;> simp [e])).trans (f12.mono fun k _ hk => .inr (.inl (by simpa [In] using hk))))
  refine HK t u gs ms h12 ((G5.fr g5 fun k hk hk2 => by have h1 := hk.1; have h2 := hk.2; rcases hk2 with e | e | e <;> omega).mono fun k hk => by have := hk.1; omega) ((RdI.fr o11.rd f12 fun k hk hk2 => by have := (o11.foot hk).1; simp [In] at hk2; omega).mono fun k hk => by have := (o11.foot hk).1; omega) ?_
  exact (f2.of_no.trans g12).mono fun k hk hk2 => by rcases hk2 with e | e | e <;> omega
theorem k_DrawExitsOf {S : Nat → Prop} {h : Heap} {code : Sl} {vs : List Value} (C : RdV S h 1 code vs) (B : ∀ v, v ∈ vs → ∃ m : Int, v = Value.int .u8 m ∧ 0 ≤ m ∧ m ≤ 255) (K : Value → Heap → Prop) (HK : ∀ (t : Sl) (gs : List (List Int)) (p : Int) h', RdR (fun k => h.size ≤ k) h' t gs → Fr No h h' → K (.tuple #[.agg #[t.v], VI p]) h') : callM Try.prog 81 #[code.v] h K := by
  refine v81 code h K fun b1 b2 h2 hb1 hb2 f2 hL2 => ?_
  have f2 := f2.in_nil
  have z2 := f2.size
  have l2 : b2 < h2.size := hL2.head.lt
  have l1 : b1 < h2.size := hL2.tail.head.lt
  have D2 : CurD h.size 0 h2 code 0 := ⟨⟨vs, ((RdV.lt C).mono fun k hk => hk.2).no f2, B⟩, by omega, by omega⟩
  refine k_drgraph hL2.head hb2 D2 (by omega) _ fun t gs i3 sd3 h3 G3 V3 D3 f3 => ⟨code, i3, sd3, t, rfl, vcur hL2 0 rfl f3 V3, fun b3 h5 hb3 f5 hL5 => ?_⟩
  have f5 := f5.in_nil
  have z3 := f3.size
  have z5 := f5.size
  have G5 : RdR (Iv h2.size h3.size) h5 t gs := (G3.lowS.mono fun k hk => hk).no f5
  refine k_drplace hL5.tail.head hb2 (D3.no f5) (by omega) t _ fun p i6 sd6 h6 V6 D6 f6 => ⟨code, i6, sd6, p, rfl, vcur hL5 1 rfl f6 V6, fun h8 f8 hL8 => ?_⟩
  have g8 : Fr (fun k => k = b2 ∨ k = b1) h5 h8 := (f6.mono fun k _ hk => .inl (by simpa [In] using hk)).trans (f8.mono fun k _ hk => .inr (by simpa [In] using hk))
  refine HK t gs p h8 ((G5.fr g8 fun k hk hk2 => by have := hk.1; rcases hk2 with e | e <;> omega).mono fun k hk => by have := hk.1; omega) ?_
  exact (((f2.of_no.trans (f3.mono fun k _ hk => .inl (by simpa [In] using hk) : Fr (fun k => k = b2 ∨ k = b1) h2 h3)).trans f5.of_no).trans g8).mono fun k hk hk2 => by rcases hk2 with e | e <;> omega
theorem k_DrawLeadsTo {S : Nat → Prop} {h : Heap} {code : Sl} {vs : List Value} (C : RdV S h 1 code vs) (B : ∀ v, v ∈ vs → ∃ m : Int, v = Value.int .u8 m ∧ 0 ≤ m ∧ m ≤ 255) (K : Value → Heap → Prop) (HK : ∀ (t : Sl) (gs : List (List Int)) (p : Int) h', RdR (fun k => h.size ≤ k) h' t gs → Fr No h h' → K (.tuple #[.agg #[t.v], VI p]) h') : callM Try.prog 42 #[code.v] h K := by
  refine v42 code h K fun b1 h1 hb1 f1 hL1 => ?_
  have f1 := f1.in_nil
  have z1 := f1.size
  have l1 : b1 < h1.size := hL1.head.lt
  refine k_DrawExitsOf (C.no f1) B _ fun t gs p h2 G2 f2 => ⟨t, p, rfl, hL1.of_no f2, fun h3 f3 hL3 => ?_⟩
  refine HK t gs p h3 ((G2.fr f3 fun k hk hk2 => by simp [In] at hk2; omega).mono fun k hk => by omega) ?_
  exact ((f1.no_trans f2).of_no.trans f3 : Fr (In [b1]) h h3).mono fun k hk hk2 => by simp [In] at hk2; omega
theorem k_DrawIsGraph {S : Nat → Prop} {h : Heap} {code : Sl} {vs : List Value} (C : RdV S h 1 code vs) (B : ∀ v, v ∈ vs → ∃ m : Int, v = Value.int .u8 m ∧ 0 ≤ m ∧ m ≤ 255) (K : Value → Heap → Prop) (HK : ∀ (t : Sl) (gs : List (List Int)) h', gs.length ≤ 9 → RdR (fun k => h.size ≤ k) h' t gs → Fr No h h' → K (.agg #[t.v]) h') : callM Try.prog 71 #[code.v] h K := by
  refine v71 code h K fun b1 b2 h2 hb1 hb2 f2 hL2 => ?_
  have f2 := f2.in_nil
  have z2 := f2.size
  have l2 : b2 < h2.size := hL2.head.lt
  have l1 : b1 < h2.size := hL2.tail.head.lt
  have D2 : CurD h.size 0 h2 code 0 := ⟨⟨vs, ((RdV.lt C).mono fun k hk => hk.2).no f2, B⟩, by omega, by omega⟩
  refine k_drgraph9 hL2.head hb2 D2 (by omega) _ fun t gs i3 sd3 h3 gl G3 V3 D3 f3 => ⟨code, i3, sd3, t, rfl, vcur hL2 0 rfl f3 V3, fun h8 f8 hL8 => ?_⟩
  refine HK t gs h8 gl ((G3.fr f8 fun k hk hk2 => by simp [In] at hk2; omega).mono fun k hk => by omega) ?_
  exact ((f2.of_no.trans (f3.mono fun k _ hk => .inl (by simpa [In] using hk) : Fr (fun k => k = b2 ∨ k = b1) h2 h3)).trans (f8.mono fun k _ hk => .inr (by simpa [In] using hk))).mono fun k hk hk2 => by rcases hk2 with e | e <;> omega
theorem k_DrawStrongParts {S : Nat → Prop} {h : Heap} {code : Sl} {vs : List Value} (C : RdV S h 1 code vs) (B : ∀ v, v ∈ vs → ∃ m : Int, v = Value.int .u8 m ∧ 0 ≤ m ∧ m ≤ 255) (K : Value → Heap → Prop) (HK : ∀ (t : Sl) (gs : List (List Int)) h', gs.length ≤ 9 → RdR (fun k => h.size ≤ k) h' t gs → Fr No h h' → K (.agg #[t.v]) h') : callM Try.prog 32 #[code.v] h K := by
  refine v32 code h K fun b1 h1 hb1 f1 hL1 => ?_
  have f1 := f1.in_nil
  have z1 := f1.size
  have l1 : b1 < h1.size := hL1.head.lt
  refine k_DrawIsGraph (C.no f1) B _ fun t gs h2 gl G2 f2 => ⟨t, rfl, hL1.of_no f2, fun h3 f3 hL3 => ?_⟩
  refine HK t gs h3 gl ((G2.fr f3 fun k hk hk2 => by simp [In] at hk2; omega).mono fun k hk => by omega) ?_
  exact ((f1.no_trans f2).of_no.trans f3 : Fr (In [b1]) h h3).mono fun k hk hk2 => by simp [In] at hk2; omega
def renIn (ns : List Int) (x : Nat) : List Int → List (List Int) → List (List Int)
  | [], R => R
  | q :: qs, R => renIn ns x qs (R.set x (R.getD x [] ++ [ns.getD q.toNat 0]))
def renL (g : List (List Int)) (ns : List Int) : Nat → List (List Int)
  | 0 => List.replicate g.length []
  | p + 1 => renIn ns (ns.getD p 0).toNat (g.getD p []) (renL g ns p)
def renP (g : List (List Int)) (ns : List Int) : List (List Int) × Bool := if graphB g && namesB ns g.length then (renL g ns g.length, true) else ([], false)
theorem renIn_length (ns : List Int) (x : Nat) : ∀ (qs : List Int) (R : List (List Int)), (renIn ns x qs R).length = R.length
  | [], R => rfl
  | q :: qs, R => by rw [renIn, renIn_length ns x qs, List.length_set]
theorem renL_length (g : List (List Int)) (ns : List Int) : ∀ n, (renL g ns n).length = g.length
  | 0 => by simp [renL]
  | n + 1 => by rw [renL, renIn_length, renL_length]
theorem renIn_app (ns : List Int) (x : Nat) (v : List Int) : ∀ (w : List Int) (R : List (List Int)), renIn ns x (w ++ v) R = renIn ns x v (renIn ns x w R)
  | [], R => rfl
  | y :: r, R => by rw [List.cons_append, renIn, renIn, renIn_app ns x v r]
theorem set_getR {R : List (List Int)} {i j : Nat} {v : List Int} (hi : i < R.length) : (R.set i v).getD j [] = if i = j then v else R.getD j [] := by
  rw [List.getD_eq_getElem?_getD, List.getElem?_set, List.getD_eq_getElem?_getD]
  by_cases h : i = j
  · subst h; simp [hi]
  · simp [h]
theorem renIn_get (ns : List Int) (x : Nat) : ∀ (qs : List Int) (R : List (List Int)), x < R.length → ∀ y, (renIn ns x qs R).getD y [] = if y = x then R.getD x [] ++ qs.map (fun q => ns.getD q.toNat 0) else R.getD y []
  | [], R, h, y => by
    rw [renIn]
    split
    · rename_i e; subst e; simp
    · rfl
  | q :: qs, R, h, y => by
    rw [renIn, renIn_get ns x qs _ (by rw [List.length_set]; exact h)]
    by_cases e : y = x
    · rw [if_pos e, if_pos e, set_getR h, if_pos rfl]
      simp
    · rw [if_neg e, if_neg e, set_getR h, if_neg (fun h => e h.symm)]
theorem renL_row {g : List (List Int)} {ns : List Int} (hl : ns.length = g.length) (hr : ∀ x, x ∈ ns → 0 ≤ x ∧ x < (g.length : Int)) (hd : ns.Nodup) : ∀ n, n ≤ g.length → ∀ p, p < g.length → (renL g ns n).getD (ns.getD p 0).toNat [] = if p < n then (g.getD p []).map (fun q => ns.getD q.toNat 0) else []
  | 0, _, p, hp => by
    rw [renL, if_neg (by omega), List.getD_eq_getElem?_getD, List.getElem?_replicate]
    split <;> rfl
  | n + 1, hn, p, hp => by
    have hx := hr _ (getD_mem (xs := ns) (i := n) (by omega))
    have hy := hr _ (getD_mem (xs := ns) (i := p) (by omega))
    rw [renL, renIn_get _ _ _ _ (by rw [renL_length]; omega)]
    by_cases e : p = n
    · subst e
      rw [if_pos rfl, if_pos (by omega), renL_row hl hr hd p (by omega) p hp, if_neg (by omega), List.nil_append]
    · rw [if_neg (fun h => e (nodup_getD hd (by omega) (by omega) (by omega))), renL_row hl hr hd n (by omega) p hp]
      by_cases h : p < n
      · rw [if_pos h, if_pos (by omega)]
      · rw [if_neg h, if_neg (by omega)]
theorem ren_put {L : List (Nat × List Value)} {F : Nat → Prop} {h : Heap} {s si nm : Sl} {xss : List (List Int)} {i p : Int} (O : OwX h F s xss) (hF : ∀ k, h.size ≤ k → F k) (h0 : 0 ≤ i) (h1 : i < (xss.length : Int)) (c0 : hcell h (s.at i 1) = some si.v) (hL : Vars h L) (hoff : ∀ p, p ∈ L → ¬ F p.1) (hb : (xss[i.toNat]'(by omega)).length ≤ 1000000) {Sn : Nat → Prop} {ns : List Int} (N : RdI Sn h nm ns) (hS : ∀ k, Sn k → ¬ F k) (p0 : 0 ≤ p) (p1 : p < (ns.length : Int)) (pi : ns[p.toNat]'(by omega) = i) (x : Int) (R : Heap → Prop) (HR : ∀ h', OwX h' F s (xss.set i.toNat (xss[i.toNat]'(by omega) ++ [x])) → Fr F h h' → Vars h' L → R h') :
    eop Try.prog (Instr.buildSlice tIs 1 #[(0, VI x)]) h fun rv h1 => ∃ t : Sl, rv = t.v ∧ Vars h1 L ∧ hcell h1 (s.at i 1) = some si.v ∧ hcell h1 (nm.at p 1) = some (VI i) ∧ hcell h1 (nm.at p 1) = some (VI i) ∧ eop Try.prog (appS tIs tIs tIs si.v t.v) h1 fun rv2 h2 => ∃ t2 : Sl, rv2 = t2.v ∧ Vars h2 L ∧ hcell h2 (nm.at p 1) = some (VI i) ∧ hcell h2 (nm.at p 1) = some (VI i) ∧ InB s i ∧ Writable h2 (s.at i 1) ∧ Vars (hset h2 (s.at i 1) t2.v) L ∧ ∀ h3, h3 = hset h2 (s.at i 1) t2.v → Vars h3 L → R h3 := by
  have Oi : OwX h (fun k => F k ∧ k < h.size) s xss := O.mono fun k hk hk2 => ⟨hk2, hk⟩
  obtain ⟨sj, c1, c2, _⟩ := Oi.inner h0 h1
  have : sj = si := slv_inj (c1.symm.trans c0)
  subst this
  have nc : ∀ {h' : Heap}, RdI Sn h' nm ns → hcell h' (nm.at p 1) = some (VI i) := fun N => by rw [N.get p0 p1, pi]
  refine eop_lit rIs (fun k => h.size ≤ k) (fun _ h => h) 1 (by omega) [VI x] rfl rfl fun t h9 n9 c9 o9 f9 m9 _ => ⟨t, rfl, hL.of_no f9, hcell_fr c1 f9 (fun h => h), nc (N.no f9), nc (N.no f9), ?_⟩
  have s9 := f9.size
  have O9 := OwR.no Oi f9
  have c2' : OwI h9 F sj (xss[i.toNat]'(by omega)) := (Ow.no c2 f9).mono fun k _ hk => hk.1
  have on := c2'.rd.len
  have tn := o9.rd.len
  simp only [List.length_map, Nat.mul_one, List.length_cons, List.length_nil] at on tn
  refine eop_append rIs c2' (fun k hk => hF k (by omega)) o9.rd (plainVI [x]) (by omega) fun w h10 n10 o10 f10 d10 => ?_
  have g10 : Fr F h9 h10 := f10.mono fun k _ hk => (c2'.foot hk).1
  have V10 : Vars h10 L := (hL.of_no f9).fr g10 hoff
  have N10 : RdI Sn h10 nm ns := (N.no f9).fr g10 hS
  have o10' : OwI h10 F w (xss[i.toNat]'(by omega) ++ [x]) := by rw [OwI, List.map_append]; exact o10
  obtain ⟨i11, w11, o11, f11⟩ := O9.outer2 h0 h1 (hcell_fr c1 f9 fun h => h) f10 (F' := F) o10' (fun k _ hk => hk.1) fun k hk => (d10 k hk).imp id fun hk2 hk3 => by have := hk3.2; omega
  have g11 : Fr F h10 _ := (O9.ownF f11).mono fun k _ hk => hk.1
  have V11 := V10.fr g11 hoff
  exact ⟨w, rfl, V10, nc N10, nc N10, i11, w11, V11, fun h3 e3 V3 => HR h3 (by rw [e3]; exact o11) (by rw [e3]; exact (f9.of_no.trans g10).trans g11) V3⟩
theorem k_grRename {S S' : Nat → Prop} {h : Heap} {g s : Sl} {xss : List (List Int)} {ns : List Int} (G : RdR S h g xss) (N : RdI S' h s ns) (hg : graphB xss = true) (hN : namesB ns xss.length = true) (K : Value → Heap → Prop) (HK : ∀ t h', OwX h' (Iv h.size h'.size) t (renL xss ns xss.length) → Fr No h h' → K (.agg #[t.v]) h') : callM Try.prog 80 #[.agg #[g.v], s.v] h K := by
  obtain ⟨nl, nr, nd, _⟩ := names_all hN
  have hgl := graph_len hg
  refine v80 g s h K fun b1 b2 h2 hb1 hb2 f2 hL2 => ?_
  have f2 := f2.in_nil
  have z2 := f2.size
  have gn := G.len
  refine eop_make rIss (fun k => h2.size ≤ k) (fun _ h => h) .i64 .i64 g.n g.n (Nat.le_refl _) (by omega) fun t h3 n3 c3 o3 f3 m3 _ => ⟨t, rfl, hL2.of_no f3, fun b3 h5 hb3 f5 hL5 => ?_⟩
  have o3 : OwX h3 (fun k => h2.size ≤ k) t (List.replicate xss.length []) := OwR.zeros _ (by rw [gn] at o3; exact o3)
  have f5 := f5.in_nil
  have z3 := f3.size
  have z5 := f5.size
  have l3 : b3 < h5.size := hL5.head.lt
  have l2 : b2 < h2.size := hL2.head.lt
  have l1 : b1 < h2.size := hL2.tail.head.lt
  generalize hF : (fun k => (h2.size ≤ k ∧ k < h3.size) ∨ h5.size ≤ k) = F
  have F1 : ∀ k, F k → h2.size ≤ k := fun k hk => by rw [← hF] at hk; rcases hk with a | a <;> omega
  have F2 : ∀ k, h5.size ≤ k → F k := fun k hk => by rw [← hF]; exact .inr hk
  have F3 : ¬ F b3 := fun hk => by rw [← hF] at hk; rcases hk with a | a <;> omega
  have o5 : OwX h5 F t (List.replicate xss.length []) := (o3.mono fun k hk hk2 => by rw [← hF]; exact .inl ⟨hk2, hk⟩ : OwX h3 F t _).no f5
  have f05 : Fr No h h5 := (f2.no_trans f3).no_trans f5
  have NL := N.low
  have hoff : ∀ (A B C : List Value) (q : Nat × List Value), q ∈ [(b3, A), (b2, B), (b1, C)] → ¬ F q.1 := fun A B C q hq => by
    simp only [List.mem_cons, List.not_mem_nil, or_false] at hq
    rcases hq with rfl | rfl | rfl
    · exact F3
    · exact fun hk => by have := F1 _ hk; omega
    · exact fun hk => by have := F1 _ hk; omega
  refine ⟨fun n p h' => 0 ≤ p ∧ p + n = (xss.length : Int) ∧ OwX h' F t (renL xss ns p.toNat) ∧ Fr No h h' ∧ h5.size ≤ h'.size, ⟨xss.length, by omega, by omega, o5, f05, Nat.le_refl _⟩, ?_⟩
  rintro n p h6 ⟨p0, p1, o6, f6, z6⟩ hL6
  have G6 := G.no f6
  refine ⟨fun e => ?_, fun e => ?_⟩
  · have hp := G6.lt e
    obtain ⟨row, c1, r1⟩ := G6.get p0 hp
    refine ⟨G6.inb p0 hp, row, c1, ?_⟩
    have hrow := graph_mem hg (List.getElem_mem (show p.toNat < xss.length by omega))
    have hx := nr _ (List.getElem_mem (show p.toNat < ns.length by omega))
    have rl := renL_row nl nr nd p.toNat (by omega) p.toNat (by omega)
    rw [if_neg (by omega), getD_getI (xs := ns) (i := p.toNat) (by omega)] at rl
    have eG : xss.getD p.toNat [] = xss[p.toNat]'(by omega) := getD_get (by omega)
    have eN : ns.getD p.toNat 0 = ns[p.toNat]'(by omega) := getD_getI (by omega)
    have hxs : xss[p.toNat]'(by omega) ∈ xss := List.getElem_mem _
    obtain ⟨rw0, hrw⟩ : ∃ l, xss[p.toNat]'(by omega) = l := ⟨_, rfl⟩
    obtain ⟨x, hnx⟩ : ∃ x, ns[p.toNat]'(by omega) = x := ⟨_, rfl⟩
    rw [hrw] at hrow eG hxs r1
    rw [hnx] at hx rl eN
    rw [G6.succ p0 hp]
    refine ⟨fun m j h' => 0 ≤ j ∧ j + m = (rw0.length : Int) ∧ OwX h' F t (renIn ns x.toNat (rw0.take j.toNat) (renL xss ns p.toNat)) ∧ Fr No h h' ∧ h5.size ≤ h'.size ∧ RdI (fun k => k < h.size) h' row rw0, ⟨rw0.length, by omega, by omega, by simpa [renIn] using o6, f6, z6, ?_⟩, ?_⟩
    · obtain ⟨row', c1', r1'⟩ := (G.low.no f6).get p0 hp
      rw [hrw] at r1'
      have : row' = row := slv_inj (c1'.symm.trans c1)
      rw [← this]; exact r1'
    rintro m j h7 ⟨j0, j1, o7, f7, z7, r7⟩ hL7
    refine ⟨fun e2 => ?_, fun e2 => ?_⟩
    · have hj := r7.lt e2
      have hq := hrow.2 _ (List.getElem_mem (show j.toNat < rw0.length by omega))
      have N7 : RdI (fun k => k < h.size) h7 s ns := NL.no f7
      have lenR : (renIn ns x.toNat (rw0.take j.toNat) (renL xss ns p.toNat)).length = xss.length := by rw [renIn_length, renL_length]
      have hxl : x.toNat < (renIn ns x.toNat (rw0.take j.toNat) (renL xss ns p.toNat)).length := by omega
      have rowlen : ((renIn ns x.toNat (rw0.take j.toNat) (renL xss ns p.toNat))[x.toNat]'hxl).length ≤ 1000000 := by
        rw [← getD_get hxl, renIn_get _ _ _ _ (by rw [renL_length]; omega), if_pos rfl, rl]
        simp
        have := hrow.1
        omega
      obtain ⟨si, d1, d2⟩ := (OwR.rd o7).get hx.1 (by omega)
      refine ⟨r7.inb j0 hj, _, r7.get j0 hj, N7.inb p0 (by omega), x, by rw [N7.get p0 (by omega), hnx], N7.inb p0 (by omega), x, by rw [N7.get p0 (by omega), hnx], (OwR.rd o7).inb hx.1 (by omega), si, d1, N7.inb hq.1 (by omega), _, N7.get hq.1 (by omega), ?_⟩
      refine ren_put o7 (fun k hk => F2 k (by omega)) hx.1 (by omega) d1 hL7 (fun q hq => hoff _ _ _ q hq) rowlen N7 (fun k hk hk2 => by have := F1 k hk2; omega) p0 (by omega) hnx _ _ fun h8 o8 f8 V8 => ?_
      rw [r7.succ j0 hj]
      refine ⟨m - 1, by omega, by omega, by omega, ?_, f7.fresh f8 fun k hk => by have := F1 k hk; omega, by have := f8.size; omega, r7.fr f8 fun k hk hk2 => by have := F1 k hk2; omega⟩
      rw [take_snoc _ j0 hj, renIn_app, renIn, renIn, getD_get hxl, getD_getI (by omega)]
      exact o8
    · have hj := r7.ge e2
      rw [List.take_of_length_le (by omega)] at o7
      refine ⟨n - 1, by omega, by omega, by omega, ?_, f7, z7⟩
      rw [toNat_succ p0, renL, eN, eG]
      exact o7
  · have hp := G6.ge e
    intro h11 f11 hL11
    have f11 := f11.inIv (lo := h.size) (hi := h2.size) ⟨⟨hb2, l2⟩, trivial⟩
    have zz := f11.size
    rw [show p.toNat = xss.length by omega] at o6
    refine HK t h11 ((OwR.fr o6 f11 fun k _ hk hk2 => by have := F1 k hk; have := hk2.2; omega).mono fun k hk hF => ⟨by have := F1 k hF; omega, hk⟩) (f6.ivFresh f11 (Nat.le_refl _))
theorem k_RenamePlaces {S S' : Nat → Prop} {h : Heap} {g s : Sl} {xss : List (List Int)} {ns : List Int} (G : RdR S h g xss) (N : RdI S' h s ns) (K : Value → Heap → Prop) (HK : ∀ t h', OwX h' (Iv h.size h'.size) t (renP xss ns).1 → Fr No h h' → K (.tuple #[.agg #[t.v], VB (renP xss ns).2]) h') : callM Try.prog 39 #[.agg #[g.v], s.v] h K := by
  refine v39 g s h K fun b1 b2 h0 hb1 hb2 f0 hL0 => ?_
  have f0 := f0.in_nil
  have z0 := f0.size
  have l2 : b2 < h0.size := hL0.head.lt
  have l1 : b1 < h0.size := hL0.tail.head.lt
  unfold renP at HK
  refine k_isGraph (G.no f0) _ fun h1 f1 => ⟨_, rfl, hL0.of_no f1, fun e h2 f2 _ => ?_, fun e => ?_⟩
  · rw [not_t e, Bool.false_and] at HK
    have f2 := f2.inIv (lo := h.size) (hi := h0.size) ⟨⟨hb2, l2⟩, trivial⟩
    exact HK nilSl _ (OwR.nil _ _ _ _) ((f0.no_trans f1).ivFresh f2 (Nat.le_refl _))
  have hg := not_f e
  have hgl := graph_len hg
  rw [hg, Bool.true_and] at HK
  have f01 := f0.no_trans f1
  refine k_areNames (G.no f01) (N.no f01) (by omega) _ fun h2 f2 => ⟨_, rfl, (hL0.of_no f1).of_no f2, fun e2 h3 f3 _ => ?_, fun e2 => ?_⟩
  · rw [not_t e2] at HK
    have f3 := f3.inIv (lo := h.size) (hi := h0.size) ⟨⟨hb2, l2⟩, trivial⟩
    exact HK nilSl _ (OwR.nil _ _ _ _) ((f01.no_trans f2).ivFresh f3 (Nat.le_refl _))
  have hN := not_f e2
  rw [hN] at HK
  obtain ⟨nl, nr, nd, _⟩ := names_all hN
  have f02 := f01.no_trans f2
  have hL2 := (hL0.of_no f1).of_no f2
  have z1 := f1.size
  have z2' := f2.size
  have gn := G.len
  refine eop_make rIss (fun k => h2.size ≤ k) (fun _ h => h) .i64 .i64 g.n g.n (Nat.le_refl _) (by omega) fun t h3 n3 c3 o3 f3 m3 _ => ⟨t, rfl, hL2.of_no f3, fun b3 h5 hb3 f5 hL5 => ?_⟩
  have o3 : OwX h3 (fun k => h2.size ≤ k) t (List.replicate xss.length []) := OwR.zeros _ (by rw [gn] at o3; exact o3)
  have f5 := f5.in_nil
  have z3 := f3.size
  have z5 := f5.size
  have l3 : b3 < h5.size := hL5.head.lt
  generalize hF : (fun k => (h2.size ≤ k ∧ k < h3.size) ∨ h5.size ≤ k) = F
  have F1 : ∀ k, F k → h2.size ≤ k := fun k hk => by rw [← hF] at hk; rcases hk with a | a <;> omega
  have F2 : ∀ k, h5.size ≤ k → F k := fun k hk => by rw [← hF]; exact .inr hk
  have F3 : ¬ F b3 := fun hk => by rw [← hF] at hk; rcases hk with a | a <;> omega
  have o5 : OwX h5 F t (List.replicate xss.length []) := (o3.mono fun k hk hk2 => by rw [← hF]; exact .inl ⟨hk2, hk⟩ : OwX h3 F t _).no f5
  have f05 : Fr No h h5 := (f02.no_trans f3).no_trans f5
  have NL := N.low
  have hoff : ∀ (A B C : List Value) (q : Nat × List Value), q ∈ [(b3, A), (b2, B), (b1, C)] → ¬ F q.1 := fun A B C q hq => by
    simp only [List.mem_cons, List.not_mem_nil, or_false] at hq
    rcases hq with rfl | rfl | rfl
    · exact F3
    · exact fun hk => by have := F1 _ hk; omega
    · exact fun hk => by have := F1 _ hk; omega
  refine ⟨fun n p h' => 0 ≤ p ∧ p + n = (xss.length : Int) ∧ OwX h' F t (renL xss ns p.toNat) ∧ Fr No h h' ∧ h5.size ≤ h'.size, ⟨xss.length, by omega, by omega, o5, f05, Nat.le_refl _⟩, ?_⟩
  rintro n p h6 ⟨p0, p1, o6, f6, z6⟩ hL6
  have G6 := G.no f6
  refine ⟨fun e => ?_, fun e => ?_⟩
  · have hp := G6.lt e
    obtain ⟨row, c1, r1⟩ := G6.get p0 hp
    refine ⟨G6.inb p0 hp, row, c1, ?_⟩
    have hrow := graph_mem hg (List.getElem_mem (show p.toNat < xss.length by omega))
    have hx := nr _ (List.getElem_mem (show p.toNat < ns.length by omega))
    have rl := renL_row nl nr nd p.toNat (by omega) p.toNat (by omega)
    rw [if_neg (by omega), getD_getI (xs := ns) (i := p.toNat) (by omega)] at rl
    have eG : xss.getD p.toNat [] = xss[p.toNat]'(by omega) := getD_get (by omega)
    have eN : ns.getD p.toNat 0 = ns[p.toNat]'(by omega) := getD_getI (by omega)
    have hxs : xss[p.toNat]'(by omega) ∈ xss := List.getElem_mem _
    obtain ⟨rw0, hrw⟩ : ∃ l, xss[p.toNat]'(by omega) = l := ⟨_, rfl⟩
    obtain ⟨x, hnx⟩ : ∃ x, ns[p.toNat]'(by omega) = x := ⟨_, rfl⟩
    rw [hrw] at hrow eG hxs r1
    rw [hnx] at hx rl eN
    rw [G6.succ p0 hp]
    refine ⟨fun m j h' => 0 ≤ j ∧ j + m = (rw0.length : Int) ∧ OwX h' F t (renIn ns x.toNat (rw0.take j.toNat) (renL xss ns p.toNat)) ∧ Fr No h h' ∧ h5.size ≤ h'.size ∧ RdI (fun k => k < h.size) h' row rw0, ⟨rw0.length, by omega, by omega, by simpa [renIn] using o6, f6, z6, ?_⟩, ?_⟩
    · obtain ⟨row', c1', r1'⟩ := (G.low.no f6).get p0 hp
      rw [hrw] at r1'
      have : row' = row := slv_inj (c1'.symm.trans c1)
      rw [← this]; exact r1'
    rintro m j h7 ⟨j0, j1, o7, f7, z7, r7⟩ hL7
    refine ⟨fun e2 => ?_, fun e2 => ?_⟩
    · have hj := r7.lt e2
      have hq := hrow.2 _ (List.getElem_mem (show j.toNat < rw0.length by omega))
      have N7 : RdI (fun k => k < h.size) h7 s ns := NL.no f7
      have lenR : (renIn ns x.toNat (rw0.take j.toNat) (renL xss ns p.toNat)).length = xss.length := by rw [renIn_length, renL_length]
      have hxl : x.toNat < (renIn ns x.toNat (rw0.take j.toNat) (renL xss ns p.toNat)).length := by omega
      have rowlen : ((renIn ns x.toNat (rw0.take j.toNat) (renL xss ns p.toNat))[x.toNat]'hxl).length ≤ 1000000 := by
        rw [← getD_get hxl, renIn_get _ _ _ _ (by rw [renL_length]; omega), if_pos rfl, rl]
        simp
        have := hrow.1
        omega
      obtain ⟨si, d1, d2⟩ := (OwR.rd o7).get hx.1 (by omega)
      refine ⟨r7.inb j0 hj, _, r7.get j0 hj, N7.inb p0 (by omega), x, by rw [N7.get p0 (by omega), hnx], N7.inb p0 (by omega), x, by rw [N7.get p0 (by omega), hnx], (OwR.rd o7).inb hx.1 (by omega), si, d1, N7.inb hq.1 (by omega), _, N7.get hq.1 (by omega), ?_⟩
      refine ren_put o7 (fun k hk => F2 k (by omega)) hx.1 (by omega) d1 hL7 (fun q hq => hoff _ _ _ q hq) rowlen N7 (fun k hk hk2 => by have := F1 k hk2; omega) p0 (by omega) hnx _ _ fun h8 o8 f8 V8 => ?_
      rw [r7.succ j0 hj]
      refine ⟨m - 1, by omega, by omega, by omega, ?_, f7.fresh f8 fun k hk => by have := F1 k hk; omega, by have := f8.size; omega, r7.fr f8 fun k hk hk2 => by have := F1 k hk2; omega⟩
      rw [take_snoc _ j0 hj, renIn_app, renIn, renIn, getD_get hxl, getD_getI (by omega)]
      exact o8
    · have hj := r7.ge e2
      rw [List.take_of_length_le (by omega)] at o7
      refine ⟨n - 1, by omega, by omega, by omega, ?_, f7, z7⟩
      rw [toNat_succ p0, renL, eN, eG]
      exact o7
  · have hp := G6.ge e
    intro h11 f11 hL11
    have f11 := f11.inIv (lo := h.size) (hi := h0.size) ⟨⟨hb2, l2⟩, trivial⟩
    have zz := f11.size
    rw [show p.toNat = xss.length by omega] at o6
    refine HK t h11 ((OwR.fr o6 f11 fun k _ hk hk2 => by have := F1 k hk; have := hk2.2; omega).mono fun k hk hF => ⟨by have := F1 k hF; omega, hk⟩) (f6.ivFresh f11 (Nat.le_refl _))
theorem k_spec_RenamePlaces {S S' : Nat → Prop} {h : Heap} {g s : Sl} {xss : List (List Int)} {ns : List Int} (G : RdR S h g xss) (N : RdI S' h s ns) (K : Value → Heap → Prop) (HK : ∀ t h', OwX h' (Iv h.size h'.size) t (renP xss ns).1 → Fr No h h' → K (.tuple #[.agg #[t.v], VB (renP xss ns).2]) h') : callM Try.prog 40 #[.agg #[g.v], s.v] h K := by
  refine v40 g s h K fun b1 b2 h0 hb1 hb2 f0 hL0 => ?_
  have f0 := f0.in_nil
  have z0 := f0.size
  have l2 : b2 < h0.size := hL0.head.lt
  unfold renP at HK
  refine k_spec_grGood (G.no f0) _ fun h1 f1 => ⟨_, rfl, hL0.of_no f1, fun e h2 f2 _ => ?_, fun e => ?_⟩
  · rw [not_t e, Bool.false_and] at HK
    have f2 := f2.inIv (lo := h.size) (hi := h0.size) ⟨⟨hb2, l2⟩, trivial⟩
    exact HK nilSl _ (OwR.nil _ _ _ _) ((f0.no_trans f1).ivFresh f2 (Nat.le_refl _))
  have hg := not_f e
  have hgl := graph_len hg
  rw [hg, Bool.true_and] at HK
  have f01 := f0.no_trans f1
  rw [G.len]
  refine k_grNames (N.no f01) _ (by omega) (by omega) _ ⟨_, rfl, hL0.of_no f1, fun e2 h3 f3 _ => ?_, fun e2 => ?_⟩
  · rw [not_t e2] at HK
    have f3 := f3.inIv (lo := h.size) (hi := h0.size) ⟨⟨hb2, l2⟩, trivial⟩
    exact HK nilSl _ (OwR.nil _ _ _ _) (f01.ivFresh f3 (Nat.le_refl _))
  have hN := not_f e2
  rw [hN] at HK
  have z1 := f1.size
  refine k_grRename (G.no f01) (N.no f01) hg hN _ fun t h6 o6 f6 => ⟨t, rfl, (hL0.of_no f1).of_no f6, fun h7 f7 _ => ?_⟩
  have f7 := f7.inIv (lo := h.size) (hi := h0.size) ⟨⟨hb2, l2⟩, trivial⟩
  have z7 := f7.size
  exact HK t h7 ((o6.iv f7 (.inr z1)).ivs (by omega) (by omega)) ((f01.no_trans f6).ivFresh f7 (Nat.le_refl _))
def Rel (g : List (List Int)) (p q : Int) : Prop := (∃ k, Way g p k q) ∧ ∃ k, Way g q k p
theorem Rel.refl (g : List (List Int)) (p : Int) : Rel g p p := ⟨⟨0, rfl⟩, 0, rfl⟩
theorem Rel.symm {g : List (List Int)} {p q : Int} (h : Rel g p q) : Rel g q p := ⟨h.2, h.1⟩
theorem Rel.trans {g : List (List Int)} {p q r : Int} (h : Rel g p q) (k : Rel g q r) : Rel g p r := by
  obtain ⟨⟨a, ha⟩, b, hb⟩ := h
  obtain ⟨⟨c, hc⟩, d, hd⟩ := k
  exact ⟨⟨_, ha.trans hc⟩, _, hd.trans hb⟩
theorem mem_part {g : List (List Int)} (hg : graphB g = true) {p : Nat} (hp : p < g.length) {q : Int} : q ∈ partL g p ↔ 0 ≤ q ∧ q < (g.length : Int) ∧ Rel g p q := by
  unfold partL
  rw [List.mem_filter, decide_eq_true_eq]
  constructor
  · rintro ⟨h1, h2⟩
    obtain ⟨a, b, c⟩ := (mem_reach hg (by omega) (by omega)).1 h1
    obtain ⟨_, _, d⟩ := (mem_reach hg a b).1 h2
    exact ⟨a, b, c, d⟩
  · rintro ⟨a, b, c, d⟩
    exact ⟨(mem_reach hg (by omega) (by omega)).2 ⟨a, b, c⟩, (mem_reach hg a b).2 ⟨by omega, by omega, d⟩⟩
theorem part_rise (g : List (List Int)) (p : Nat) : (partL g p).Pairwise (· < ·) := (reachL_rise _ _).filter _
theorem part_nodup (g : List (List Int)) (p : Nat) : (partL g p).Nodup := (part_rise g p).imp fun {a b} h => by omega
theorem cnt_mark {n : Nat} : ∀ (w : List Int) (I : List Bool), w.Nodup → I.length = n → (∀ x, x ∈ w → 0 ≤ x ∧ x < (n : Int) ∧ I.getD x.toNat false = false) → cntI (markL I w) n = cntI I n + w.length
  | [], I, _, _, _ => rfl
  | x :: r, I, hn, hl, hr => by
    obtain ⟨h1, h2⟩ := List.nodup_cons.1 hn
    have hx := hr x List.mem_cons_self
    rw [markL, cnt_mark r _ h2 (by rw [List.length_set, hl]) fun y hy => ?_, cntI_set hx.2.2 (by omega), if_pos (by omega)]
    · simp only [List.length_cons]; omega
    · have := hr y (List.mem_cons_of_mem _ hy)
      refine ⟨this.1, this.2.1, ?_⟩
      rw [set_getB, this.2.2, Bool.false_or, decide_eq_false fun e => h1 (by rw [show x = y by omega]; exact hy)]
      rfl
structure StOK (g : List (List Int)) (n : Nat) (s : List (List Int) × List Bool) : Prop where
  len : s.2.length = g.length
  met : ∀ q : Nat, q < g.length → (s.2.getD q false = true ↔ ∃ p : Nat, p < n ∧ Rel g p q)
  prt : ∀ c, c ∈ s.1 → ∃ p : Nat, p < n ∧ p < g.length ∧ c = partL g p ∧ ∀ q : Nat, q < p → ¬ Rel g q p
  rise : s.1.Pairwise fun c d => c.getD 0 0 < d.getD 0 0
  cnt : (s.1.map List.length).sum = cntI s.2 g.length
theorem part_head {g : List (List Int)} (hg : graphB g = true) {p : Nat} (hp : p < g.length) (hl : ∀ q : Nat, q < p → ¬ Rel g q p) : 0 < (partL g p).length ∧ (partL g p).getD 0 0 = (p : Int) := by
  have hm : (p : Int) ∈ partL g p := (mem_part hg hp).2 ⟨by omega, by omega, Rel.refl g p⟩
  have hpos := List.length_pos_of_mem hm
  refine ⟨hpos, ?_⟩
  have h0 := getD_mem hpos
  have h1 := (mem_part hg hp).1 h0
  obtain ⟨j, hj, e⟩ := List.getElem_of_mem hm
  have hle : (partL g p).getD 0 0 ≤ (p : Int) := by
    rw [getD_getI hpos, ← e]
    by_cases h : j = 0
    · subst h; exact Int.le_refl _
    · have := List.pairwise_iff_getElem.1 (part_rise g p) 0 j hpos hj (by omega)
      omega
  have : ¬ (partL g p).getD 0 0 < (p : Int) := fun h => hl ((partL g p).getD 0 0).toNat (by omega) (by
    have := h1.2.2.symm
    rwa [show (((partL g p).getD 0 0).toNat : Int) = (partL g p).getD 0 0 by omega])
  omega
theorem stp_ok {g : List (List Int)} (hg : graphB g = true) : ∀ n, n ≤ g.length → StOK g n (stpL g n)
  | 0, _ => by
    have h0 : ∀ q, (List.replicate g.length false).getD q false = false := fun q => by rw [List.getD_eq_getElem?_getD, List.getElem?_replicate]; split <;> rfl
    refine ⟨by simp [stpL], fun q hq => ?_, fun c hc => by simp [stpL] at hc, by simp [stpL], ?_⟩
    · rw [stpL, h0]
      constructor
      · intro h; cases h
      · rintro ⟨p, hp, _⟩; omega
    · have : ∀ m, cntI (List.replicate g.length false) m = 0 := by
        intro m
        induction m with
        | zero => rfl
        | succ m ih => rw [cntI, ih, h0]; rfl
      rw [stpL, this]; rfl
  | n + 1, hn => by
    have S := stp_ok hg n (by omega)
    rw [stpL]
    by_cases hm : (stpL g n).2.getD n false = true
    · rw [if_pos hm]
      refine ⟨S.len, fun q hq => ?_, fun c hc => ?_, S.rise, S.cnt⟩
      · rw [S.met q hq]
        constructor
        · rintro ⟨p, h1, h2⟩; exact ⟨p, by omega, h2⟩
        · rintro ⟨p, h1, h2⟩
          by_cases e : p = n
          · subst e
            obtain ⟨p', h3, h4⟩ := (S.met p (by omega)).1 hm
            exact ⟨p', h3, h4.trans h2⟩
          · exact ⟨p, by omega, h2⟩
      · obtain ⟨p, a, b, c, d⟩ := S.prt c hc
        exact ⟨p, by omega, b, c, d⟩
    · rw [if_neg hm]
      have hno : ∀ q : Nat, q < n → ¬ Rel g q n := fun q hq h => hm ((S.met n (by omega)).2 ⟨q, hq, h⟩)
      obtain ⟨hp, hh⟩ := part_head hg (show n < g.length by omega) hno
      have hfresh : ∀ x, x ∈ partL g n → 0 ≤ x ∧ x < (g.length : Int) ∧ (stpL g n).2.getD x.toNat false = false := fun x hx => by
        obtain ⟨a, b, c⟩ := (mem_part hg (by omega)).1 hx
        refine ⟨a, b, ?_⟩
        cases hb : (stpL g n).2.getD x.toNat false with
        | false => rfl
        | true =>
          obtain ⟨p', h3, h4⟩ := (S.met x.toNat (by omega)).1 hb
          rw [show ((x.toNat : Nat) : Int) = x by omega] at h4
          exact absurd (h4.trans c.symm) (hno p' h3)
      refine ⟨by simp only [markL_length]; exact S.len, fun q hq => ?_, fun c hc => ?_, ?_, ?_⟩
      · rw [markL_get _ _ _ (fun x hx => (hfresh x hx).1) (by rw [S.len]; exact hq), S.met q hq, mem_part hg (by omega)]
        constructor
        · rintro (⟨p, h1, h2⟩ | ⟨_, _, h⟩)
          · exact ⟨p, by omega, h2⟩
          · exact ⟨n, by omega, h⟩
        · rintro ⟨p, h1, h2⟩
          by_cases e : p = n
          · subst e; exact .inr ⟨by omega, by omega, h2⟩
          · exact .inl ⟨p, by omega, h2⟩
      · rcases List.mem_append.1 hc with hc | hc
        · obtain ⟨p, a, b, c, d⟩ := S.prt c hc
          exact ⟨p, by omega, b, c, d⟩
        · simp only [List.mem_cons, List.not_mem_nil, or_false] at hc
          exact ⟨n, by omega, by omega, hc, hno⟩
      · simp only
        rw [List.pairwise_append]
        refine ⟨S.rise, by simp, fun c hc d hd => ?_⟩
        simp only [List.mem_cons, List.not_mem_nil, or_false] at hd
        obtain ⟨p, a, b, e, f⟩ := S.prt c hc
        rw [hd, hh, e, (part_head hg b f).2]
        omega
      · simp only
        rw [cnt_mark _ _ (part_nodup g n) S.len hfresh, ← S.cnt, List.map_append, List.sum_append]
        simp
theorem strong_all {g : List (List Int)} (hg : graphB g = true) : strongB g = true ↔ ∀ p q : Int, 0 ≤ p → p < (g.length : Int) → 0 ≤ q → q < (g.length : Int) → ∃ k, Way g p k q := by
  unfold strongB
  rw [range_all]
  have key : ∀ i : Nat, i < g.length → ((farP g i).countP (fun x => decide (0 ≤ x)) = g.length ↔ ∀ q : Int, 0 ≤ q → q < (g.length : Int) → ∃ k, Way g i k q) := fun i hi => by
    have fl := (far_bq hg (p := i) (by omega) (by omega)).len
    rw [← fl, List.countP_eq_length]
    constructor
    · intro h q q0 q1
      refine (far_iff hg (by omega) (by omega) q0 (by omega)).1 ?_
      have := h _ (List.getElem_mem (show q.toNat < (farP g i).length by omega))
      rw [getD_getI (by omega)]
      simpa using this
    · intro h x hx
      obtain ⟨j, hj, e⟩ := List.getElem_of_mem hx
      have := (far_iff hg (p := i) (q := j) (by omega) (by omega) (by omega) (by omega)).2 (h j (by omega) (by omega))
      rw [show ((j : Int)).toNat = j by omega, getD_getI hj, e] at this
      simpa using this
  constructor
  · intro h p q p0 p1 q0 q1
    have := h p.toNat (by omega)
    rw [decide_eq_true_eq, key _ (by omega), show ((p.toNat : Nat) : Int) = p by omega] at this
    exact this q q0 q1
  · intro h i hi
    rw [decide_eq_true_eq, key i hi]
    exact fun q q0 q1 => h i q (by omega) (by omega) q0 q1
structure StpLaw (g ps : List (List Int)) : Prop where
  ne : ∀ c, c ∈ ps → 0 < c.length
  rise : ∀ i, i + 1 < ps.length → (ps.getD i []).getD 0 0 < (ps.getD (i + 1) []).getD 0 0
  way : ∀ c, c ∈ ps → ∀ x, x ∈ c → ∀ y, y ∈ c → (wlP g x y).2 = true
  sum : (ps.map List.length).sum = g.length
  one : strongB g = decide (ps.length = 1)
theorem wl_way {g : List (List Int)} (hg : graphB g = true) {p q : Int} (p0 : 0 ≤ p) (p1 : p < (g.length : Int)) (q0 : 0 ≤ q) (q1 : q < (g.length : Int)) : (wlP g p q).2 = decide (0 ≤ (farP g p).getD q.toNat 0) ∧ (0 ≤ (farP g p).getD q.toNat 0 → (wlP g p q).1 = (farP g p).getD q.toNat 0) ∧ (¬ 0 ≤ (farP g p).getD q.toNat 0 → (wlP g p q).1 = 0) := by
  unfold wlP
  rw [hg, (inR_iff (x := p)).2 ⟨p0, by omega⟩, (inR_iff (x := q)).2 ⟨q0, by omega⟩, Bool.true_and, Bool.true_and, Bool.true_and]
  by_cases h : 0 ≤ (farP g p).getD q.toNat 0
  · rw [decide_eq_true h]; exact ⟨rfl, fun _ => rfl, fun h' => absurd h h'⟩
  · rw [decide_eq_false h]; exact ⟨rfl, fun h' => absurd h' h, fun _ => rfl⟩
theorem stp_law {g : List (List Int)} (hg : graphB g = true) : StpLaw g (stpL g g.length).1 := by
  have S := stp_ok hg g.length (Nat.le_refl _)
  have hgl := graph_len hg
  have hall : ∀ i, i < g.length → (stpL g g.length).2.getD i false = true := fun i hi => (S.met i hi).2 ⟨i, hi, Rel.refl g i⟩
  have hsum : ((stpL g g.length).1.map List.length).sum = g.length := by rw [S.cnt, cntI_all hall]
  refine ⟨fun c hc => ?_, fun i hi => ?_, fun c hc x hx y hy => ?_, hsum, ?_⟩
  · obtain ⟨p, _, b, e, f⟩ := S.prt c hc
    rw [e]; exact (part_head hg b f).1
  · rw [getD_get (by omega), getD_get hi]
    exact List.pairwise_iff_getElem.1 S.rise i (i + 1) (by omega) hi (by omega)
  · obtain ⟨p, _, b, e, f⟩ := S.prt c hc
    rw [e] at hx hy
    obtain ⟨x0, x1, rx⟩ := (mem_part hg b).1 hx
    obtain ⟨y0, y1, ry⟩ := (mem_part hg b).1 hy
    rw [(wl_way hg x0 x1 y0 y1).1, decide_eq_true_eq]
    exact (far_iff hg x0 x1 y0 y1).2 (rx.symm.trans ry).1
  · rw [Bool.eq_iff_iff, decide_eq_true_eq, strong_all hg]
    constructor
    · intro hs
      have hrel : ∀ a b : Nat, a < g.length → b < g.length → Rel g a b := fun a b ha hb => ⟨hs a b (by omega) (by omega) (by omega) (by omega), hs b a (by omega) (by omega) (by omega) (by omega)⟩
      have h0 : ∀ c, c ∈ (stpL g g.length).1 → c.getD 0 0 = 0 := fun c hc => by
        obtain ⟨p, _, b, e, f⟩ := S.prt c hc
        rw [e, (part_head hg b f).2]
        have : p = 0 := Nat.eq_zero_of_not_pos fun h => f 0 h (hrel 0 p (by omega) b)
        omega
      have hle : (stpL g g.length).1.length ≤ 1 := Nat.not_lt.1 fun h => by
        have := List.pairwise_iff_getElem.1 S.rise 0 1 (by omega) h (by omega)
        have a := h0 _ (List.getElem_mem (show 0 < (stpL g g.length).1.length by omega))
        have b := h0 _ (List.getElem_mem h)
        omega
      have hpos : (stpL g g.length).1.length ≠ 0 := fun h => by
        rw [List.eq_nil_of_length_eq_zero h] at hsum
        simp at hsum
        omega
      omega
    · intro h1 p q p0 p1 q0 q1
      obtain ⟨c, hc⟩ := List.length_eq_one_iff.1 h1
      have hcm : c ∈ (stpL g g.length).1 := by rw [hc]; exact List.mem_cons_self
      obtain ⟨p', _, b, e, f⟩ := S.prt c hcm
      rw [hc] at hsum
      simp only [List.map_cons, List.map_nil, List.sum_cons, List.sum_nil, Nat.add_zero] at hsum
      have hN : namesB c g.length = true := by
        unfold namesB
        rw [decide_eq_true (by omega), Bool.true_and, Bool.and_eq_true, decide_eq_true_eq, List.all_eq_true]
        refine ⟨fun x hx => ?_, by rw [e]; exact part_nodup g p'⟩
        rw [e] at hx
        have := (mem_part hg b).1 hx
        rw [inR_iff]; omega
      have hm := (names_all hN).2.2.2
      have hp := hm p.toNat (by omega)
      have hq := hm q.toNat (by omega)
      rw [e, show ((p.toNat : Nat) : Int) = p by omega] at hp
      rw [e, show ((q.toNat : Nat) : Int) = q by omega] at hq
      exact (((mem_part hg b).1 hp).2.2.symm.trans ((mem_part hg b).1 hq).2.2).1
theorem ren_graph {g : List (List Int)} {ns : List Int} (hg : graphB g = true) (hN : namesB ns g.length = true) : graphB (renL g ns g.length) = true := by
  obtain ⟨nl, nr, nd, na⟩ := names_all hN
  have hgl := graph_len hg
  unfold graphB
  rw [renL_length, Bool.and_eq_true, List.all_eq_true]
  refine ⟨by rw [inR_iff]; omega, fun l hl => ?_⟩
  obtain ⟨i, hi, e⟩ := List.getElem_of_mem hl
  rw [renL_length] at hi
  obtain ⟨p, hp, ep⟩ := List.getElem_of_mem (na i hi)
  have hrow := renL_row nl nr nd g.length (Nat.le_refl _) p (by omega)
  rw [if_pos (by omega), getD_getI hp, ep, show ((i : Int)).toNat = i by omega, getD_get (by rw [renL_length]; exact hi), e, getD_get (by omega)] at hrow
  have hrw := graph_mem hg (List.getElem_mem (show p < g.length by omega))
  rw [hrow, List.length_map, Bool.and_eq_true, List.all_eq_true]
  refine ⟨by simp; have := hrw.1; omega, fun x hx => ?_⟩
  obtain ⟨q, hq, eq⟩ := List.mem_map.1 hx
  have hqr := hrw.2 q hq
  have := nr _ (getD_mem (xs := ns) (i := q.toNat) (by omega))
  rw [inR_iff, ← eq]
  omega
theorem ren_way {g : List (List Int)} {ns : List Int} (hg : graphB g = true) (hN : namesB ns g.length = true) {a : Int} (a0 : 0 ≤ a) (a1 : a < (g.length : Int)) : ∀ (k : Nat) (y : Int), Way (renL g ns g.length) (ns.getD a.toNat 0) k y ↔ ∃ z, 0 ≤ z ∧ z < (g.length : Int) ∧ y = ns.getD z.toNat 0 ∧ Way g a k z := by
  obtain ⟨nl, nr, nd, na⟩ := names_all hN
  have hrow := fun (p : Int) (p0 : 0 ≤ p) (p1 : p < (g.length : Int)) => renL_row nl nr nd g.length (Nat.le_refl _) p.toNat (by omega)
  intro k
  induction k with
  | zero =>
    intro y
    constructor
    · intro h; exact ⟨a, a0, a1, (show ns.getD a.toNat 0 = y from h).symm, rfl⟩
    · rintro ⟨z, z0, z1, e, h⟩
      rw [show a = z from h]; exact e.symm
  | succ k ih =>
    intro y
    constructor
    · rintro ⟨x, hx, hy⟩
      obtain ⟨w, w0, w1, e, hw⟩ := (ih x).1 hx
      have := hrow w w0 w1
      rw [if_pos (by omega)] at this
      rw [e, this] at hy
      obtain ⟨q, hq, eq⟩ := List.mem_map.1 hy
      have hqr : 0 ≤ q ∧ q < (g.length : Int) := by
        rw [getD_get (by omega)] at hq
        exact (graph_mem hg (List.getElem_mem (show w.toNat < g.length by omega))).2 q hq
      exact ⟨q, hqr.1, hqr.2, eq.symm, w, hw, hq⟩
    · rintro ⟨z, z0, z1, e, w, hw, hz⟩
      have hwr := hw.rng hg a0 a1
      refine ⟨ns.getD w.toNat 0, (ih _).2 ⟨w, hwr.1, hwr.2, rfl, hw⟩, ?_⟩
      have := hrow w hwr.1 hwr.2
      rw [if_pos (by omega)] at this
      rw [this, e]
      exact List.mem_map.2 ⟨z, hz, rfl⟩
theorem ren_far {g : List (List Int)} {ns : List Int} (hg : graphB g = true) (hN : namesB ns g.length = true) {a b : Int} (a0 : 0 ≤ a) (a1 : a < (g.length : Int)) (b0 : 0 ≤ b) (b1 : b < (g.length : Int)) : wlP g a b = wlP (renL g ns g.length) (ns.getD a.toNat 0) (ns.getD b.toNat 0) := by
  obtain ⟨nl, nr, nd, na⟩ := names_all hN
  have hg' := ren_graph hg hN
  have ha := nr _ (getD_mem (xs := ns) (i := a.toNat) (by omega))
  have hb := nr _ (getD_mem (xs := ns) (i := b.toNat) (by omega))
  have rl := renL_length g ns g.length
  have hf := far_eq hg hg' a0 a1 b0 b1 ha.1 (by omega) hb.1 (by omega) fun k => by
    rw [ren_way hg hN a0 a1]
    constructor
    · intro h; exact ⟨b, b0, b1, rfl, h⟩
    · rintro ⟨z, z0, z1, e, h⟩
      have := nodup_getD nd (i := b.toNat) (j := z.toNat) (by omega) (by omega) e
      rwa [show b = z by omega]
  have w1 := wl_way hg a0 a1 b0 b1
  have w2 := wl_way hg' ha.1 (by omega) hb.1 (by omega)
  refine Prod.ext ?_ ?_
  · by_cases h : 0 ≤ (farP g a).getD b.toNat 0
    · rw [w1.2.1 h, w2.2.1 (by rw [← hf]; exact h), hf]
    · rw [w1.2.2 h, w2.2.2 (by rw [← hf]; exact h)]
  · rw [w1.1, w2.1, hf]
theorem k_wHas {S : Nat → Prop} {h : Heap} {s : Sl} {xs : List Int} (H : RdI S h s xs) (v : Int) (K : Value → Heap → Prop) (HK : K (VB (decide (v ∈ xs))) h) : callM Try.prog 31 #[s.v, VI v] h K := by
  refine v31 s v h K ⟨fun n i h' => h' = h ∧ 0 ≤ i ∧ i + n = (xs.length : Int) ∧ ∀ j : Nat, (j : Int) < i → xs.getD j 0 ≠ v, ⟨xs.length, rfl, by omega, by omega, fun j hj => by omega⟩, ?_⟩
  rintro n i h1 ⟨rfl, i0, i1, i2⟩ hL
  refine ⟨fun e => ?_, fun e => ?_⟩
  · have hi := H.lt e
    refine ⟨H.inb i0 hi, _, H.get i0 hi, fun e2 => ?_, fun e2 => ?_⟩
    · simp only [decide_eq_true_eq] at e2
      rw [decide_eq_true (by rw [← e2]; exact List.getElem_mem _)] at HK
      exact HK
    · simp only [decide_eq_false_iff_not] at e2
      rw [H.succ i0 hi]
      refine ⟨n - 1, by omega, rfl, by omega, by omega, fun j hj => ?_⟩
      by_cases h5 : (j : Int) < i
      · exact i2 j h5
      · have : j = i.toNat := by omega
        subst this
        rw [getD_getI (by omega)]
        exact e2
  · have hi := H.ge e
    rw [decide_eq_false fun hm => by
      obtain ⟨j, hj, e⟩ := List.getElem_of_mem hm
      exact i2 j (by omega) (by rw [getD_getI hj]; exact e)] at HK
    exact HK
theorem k_IsGraph {S : Nat → Prop} {h : Heap} {g : Sl} {xss : List (List Int)} (H : RdR S h g xss) : Ret Try.prog 30 #[.agg #[g.v]] h (VB (graphB xss)) := by
  intro K HK
  refine v30 g h K fun b1 h1 hb1 f1 hL1 => ?_
  exact k_isGraph (H.no f1.in_nil) _ fun h2 f2 => ⟨_, rfl, hL1.of_no f2, HK _ (f1.in_nil.no_trans f2)⟩
theorem k_LeadsTo {S : Nat → Prop} {h : Heap} {g : Sl} {xss : List (List Int)} (G : RdR S h g xss) (p : Int) (K : Value → Heap → Prop) (HK : ∀ h', Fr No h h' → K (.tuple #[VB ((graphB xss && inR 0 ((xss.length : Int) - 1) p) && leadB xss p), VB (graphB xss && inR 0 ((xss.length : Int) - 1) p)]) h') : callM Try.prog 43 #[.agg #[g.v], VI p] h K := by
  refine v43 g p h K fun b1 h1 hb1 f1 hL1 => ?_
  have f1 := f1.in_nil
  refine eop_lit rIs (fun k => h1.size ≤ k) (fun _ h => h) 1 (by omega) [VI p] rfl rfl fun t h2 n2 c2 o2 f2 m2 _ => ⟨t, rfl, hL1.of_no f2, ?_⟩
  have o2 : RdI (fun k => h1.size ≤ k) h2 t [p] := o2.rdF
  refine k_has ((G.no f1).no f2) o2 _ fun h3 f3 => ⟨_, rfl, (hL1.of_no f2).of_no f3, fun e => ?_, fun e => ?_⟩
  all_goals simp only [List.all_cons, List.all_nil, Bool.and_true] at e
  · rw [not_t e, Bool.false_and] at HK
    exact HK _ ((f1.no_trans f2).no_trans f3)
  have e := not_f e
  have f13 := (f1.no_trans f2).no_trans f3
  rw [e, Bool.true_and] at HK
  rw [Bool.and_eq_true, inR_iff] at e
  exact k_leadsTo (G.no f13) e.1 e.2.1 (by omega) _ fun h4 f4 => ⟨_, rfl, ((hL1.of_no f2).of_no f3).of_no f4, HK _ (f13.no_trans f4)⟩
theorem k_spec_LeadsTo {S : Nat → Prop} {h : Heap} {g : Sl} {xss : List (List Int)} (G : RdR S h g xss) (p : Int) (K : Value → Heap → Prop) (HK : ∀ h', Fr No h h' → K (.tuple #[VB ((graphB xss && inR 0 ((xss.length : Int) - 1) p) && leadB xss p), VB (graphB xss && inR 0 ((xss.length : Int) - 1) p)]) h') : callM Try.prog 44 #[.agg #[g.v], VI p] h K := by
  refine v44 g p h K fun b1 h1 hb1 f1 hL1 => ?_
  have f1 := f1.in_nil
  refine k_spec_grPlace (G.no f1) p _ fun h3 f3 => ⟨_, rfl, hL1.of_no f3, fun e => ?_, fun e => ?_⟩
  · rw [not_t e, Bool.false_and] at HK
    exact HK _ (f1.no_trans f3)
  have e := not_f e
  have f13 := f1.no_trans f3
  rw [e, Bool.true_and] at HK
  rw [Bool.and_eq_true, inR_iff] at e
  exact k_grLeads (G.no f13) e.1 e.2.1 (by omega) _ fun h4 f4 => ⟨_, rfl, (hL1.of_no f3).of_no f4, HK _ (f13.no_trans f4)⟩
theorem k_DrawWayLength {S : Nat → Prop} {h : Heap} {code : Sl} {vs : List Value} (C : RdV S h 1 code vs) (B : ∀ v, v ∈ vs → ∃ m : Int, v = Value.int .u8 m ∧ 0 ≤ m ∧ m ≤ 255) (K : Value → Heap → Prop) (HK : ∀ (t : Sl) (gs : List (List Int)) (p q : Int) h', RdR (fun k => h.size ≤ k) h' t gs → Fr No h h' → K (.tuple #[.agg #[t.v], VI p, VI q]) h') : callM Try.prog 24 #[code.v] h K := by
  refine v24 code h K fun b1 b2 h2 hb1 hb2 f2 hL2 => ?_
  have f2 := f2.in_nil
  have z2 := f2.size
  have l2 : b2 < h2.size := hL2.head.lt
  have l1 : b1 < h2.size := hL2.tail.head.lt
  have D2 : CurD h.size 0 h2 code 0 := ⟨⟨vs, ((RdV.lt C).mono fun k hk => hk.2).no f2, B⟩, by omega, by omega⟩
  refine k_drgraph hL2.head hb2 D2 (by omega) _ fun t gs i3 sd3 h3 G3 V3 D3 f3 => ⟨code, i3, sd3, t, rfl, vcur hL2 0 rfl f3 V3, fun b3 h5 hb3 f5 hL5 => ?_⟩
  have f5 := f5.in_nil
  have z3 := f3.size
  have z5 := f5.size
  have G5 : RdR (Iv h2.size h3.size) h5 t gs := (G3.lowS.mono fun k hk => hk).no f5
  refine k_drplace hL5.tail.head hb2 (D3.no f5) (by omega) t _ fun p i6 sd6 h6 V6 D6 f6 => ⟨code, i6, sd6, p, rfl, vcur hL5 1 rfl f6 V6, ?_⟩
  have hL6 := vcur hL5 1 rfl f6 V6
  refine k_drplace hL6.tail.head hb2 D6 (by omega) t _ fun q i7 sd7 h7 V7 D7 f7 => ⟨code, i7, sd7, q, rfl, vcur hL6 1 rfl f7 V7, fun h8 f8 hL8 => ?_⟩
  have g8 : Fr (fun k => k = b2 ∨ k = b1) h5 h8 := ((f6.mono fun k _ hk => .inl (by simpa [In] using hk)).trans (f7.mono fun k _ hk => .inl (by simpa [In] using hk))).trans (f8.mono fun k _ hk => .inr (by simpa [In] using hk))
  refine HK t gs p q h8 ((G5.fr g8 fun k hk hk2 => by have := hk.1; rcases hk2 with e | e <;> omega).mono fun k hk => by have := hk.1; omega) ?_
  exact (((f2.of_no.trans (f3.mono fun k _ hk => .inl (by simpa [In] using hk) : Fr (fun k => k = b2 ∨ k = b1) h2 h3)).trans f5.of_no).trans g8).mono fun k hk hk2 => by rcases hk2 with e | e <;> omega
def w5_3 (P : Program) (h_20 : Heap) (b_2 : Nat) (t154_1 : Sl) (b_1 : Nat) (t61_1 : Sl) (t206_1 : Sl) (n_1 : Nat) (J_2 : Nat → Int → Int → Heap → Prop) (count25_1 : Int) (t202_1 : Int) (K : Value → Heap → Prop) : Prop :=
  ∃ J_3 : Nat → Int → Heap → Prop, (∃ n0 : Nat, J_3 n0 0 h_20) ∧
  ∀ (n_2 : Nat) (t228_1 : Int) (h_21 : Heap), J_3 n_2 t228_1 h_21 → Vars h_21 [(b_2, [(Sl.v t154_1)]), (b_1, [(Sl.v t61_1)])] →
  ((decide (t228_1 < (t206_1.n : Int))) = true →
  InB t206_1 t228_1 ∧
  ∃ t231_1 : Int, hcell h_21 (Sl.at t206_1 t228_1 1) = some (VI t231_1) ∧
  ∃ J_4 : Nat → Int → Heap → Prop, (∃ n0 : Nat, J_4 n0 0 h_21) ∧
  ∀ (n_3 : Nat) (t234_1 : Int) (h_22 : Heap), J_4 n_3 t234_1 h_22 → Vars h_22 [(b_2, [(Sl.v t154_1)]), (b_1, [(Sl.v t61_1)])] →
  ((decide (t234_1 < (t206_1.n : Int))) = true →
  InB t206_1 t234_1 ∧
  ∃ t237_1 : Int, hcell h_22 (Sl.at t206_1 t234_1 1) = some (VI t237_1) ∧
  callM P 25 #[(Value.agg #[(Sl.v t154_1)]), (VI t231_1), (VI t237_1)] h_22 fun rv_16 h_23 => ∃ t242_1 : Int, ∃ t242_2 : Bool, rv_16 = (Value.tuple #[(VI t242_1), (VB t242_2)]) ∧ Vars h_23 [(b_2, [(Sl.v t154_1)]), (b_1, [(Sl.v t61_1)])] ∧
  ((!t242_2) = true →
  K (VB false) h_23) ∧
  ((!t242_2) = false →
  ∃ m : Nat, m < n_3 ∧ J_4 m (w64 (t234_1 + 1)) h_23)) ∧
  ((decide (t234_1 < (t206_1.n : Int))) = false →
  ∃ m : Nat, m < n_2 ∧ J_3 m (w64 (t228_1 + 1)) h_22)) ∧
  ((decide (t228_1 < (t206_1.n : Int))) = false →
  ∃ m : Nat, m < n_1 ∧ J_2 m (w64 (count25_1 + (t206_1.n : Int))) (w64 (t202_1 + 1)) h_21)
def w5_2 (P : Program) (more1_1 : Sl) (h_11 : Heap) (b_1 : Nat) (t61_1 : Sl) (K : Value → Heap → Prop) : Prop :=
  callM P 32 #[(Sl.v more1_1)] h_11 fun rv_10 h_12 => ∃ t154_1 : Sl, rv_10 = (Value.agg #[(Sl.v t154_1)]) ∧ Vars h_12 [(b_1, [(Sl.v t61_1)])] ∧
  ∀ (b_2 : Nat) (h_14 : Heap), h_12.size ≤ b_2 → Fr (In []) h_12 h_14 → Vars h_14 [(b_2, [(Sl.v t154_1)]), (b_1, [(Sl.v t61_1)])] →
  callM P 33 #[(Value.agg #[(Sl.v t154_1)])] h_14 fun rv_11 h_15 => ∃ t157_1 : Sl, ∃ t157_2 : Bool, rv_11 = (Value.tuple #[(Sl.v t157_1), (VB t157_2)]) ∧ Vars h_15 [(b_2, [(Sl.v t154_1)]), (b_1, [(Sl.v t61_1)])] ∧
  callM P 34 #[(Value.agg #[(Sl.v t154_1)])] h_15 fun rv_12 h_16 => ∃ t162_1 : Sl, ∃ t162_2 : Bool, rv_12 = (Value.tuple #[(Sl.v t162_1), (VB t162_2)]) ∧ Vars h_16 [(b_2, [(Sl.v t154_1)]), (b_1, [(Sl.v t61_1)])] ∧
  callM P 35 #[(Value.agg #[(Sl.v t154_1)])] h_16 fun rv_13 h_17 => ∃ t167_1 : Bool, ∃ t167_2 : Bool, rv_13 = (Value.tuple #[(VB t167_1), (VB t167_2)]) ∧ Vars h_17 [(b_2, [(Sl.v t154_1)]), (b_1, [(Sl.v t61_1)])] ∧
  callM P 36 #[(Value.agg #[(Sl.v t154_1)])] h_17 fun rv_14 h_18 => ∃ t172_1 : Bool, ∃ t172_2 : Bool, rv_14 = (Value.tuple #[(VB t172_1), (VB t172_2)]) ∧ Vars h_18 [(b_2, [(Sl.v t154_1)]), (b_1, [(Sl.v t61_1)])] ∧
  ((!(t157_2 == t162_2)) = true →
  K (VB false) h_18) ∧
  ((!(t157_2 == t162_2)) = false →
  callM P 37 #[(Sl.v t157_1), (Sl.v t162_1)] h_18 fun rv_15 h_19 => ∃ t181_1 : Bool, rv_15 = (VB t181_1) ∧ Vars h_19 [(b_2, [(Sl.v t154_1)]), (b_1, [(Sl.v t61_1)])] ∧
  ((!t181_1) = true →
  K (VB false) h_19) ∧
  ((!t181_1) = false →
  ((!(t167_2 == t172_2)) = true →
  K (VB false) h_19) ∧
  ((!(t167_2 == t172_2)) = false →
  ((!(t167_1 == t172_1)) = true →
  K (VB false) h_19) ∧
  ((!(t167_1 == t172_1)) = false →
  ((!(t167_2 == t157_2)) = true →
  K (VB false) h_19) ∧
  ((!(t167_2 == t157_2)) = false →
  ∃ J_1 : Heap → Prop, ((t157_2 = true →
  ∃ J_2 : Nat → Int → Int → Heap → Prop, (∃ n0 : Nat, J_2 n0 0 0 h_19) ∧
  ∀ (n_1 : Nat) (count25_1 : Int) (t202_1 : Int) (h_20 : Heap), J_2 n_1 count25_1 t202_1 h_20 → Vars h_20 [(b_2, [(Sl.v t154_1)]), (b_1, [(Sl.v t61_1)])] →
  ((decide (t202_1 < (t157_1.n : Int))) = true →
  InB t157_1 t202_1 ∧
  ∃ t206_1 : Sl, hcell h_20 (Sl.at t157_1 t202_1 1) = some (Sl.v t206_1) ∧
  ((decide (0 < t202_1)) = true →
  InB t157_1 (w64 (t202_1 - 1)) ∧
  ∃ t218_1 : Sl, hcell h_20 (Sl.at t157_1 (w64 (t202_1 - 1)) 1) = some (Sl.v t218_1) ∧
  InB t218_1 0 ∧
  ∃ t220_1 : Int, hcell h_20 (Sl.at t218_1 0 1) = some (VI t220_1) ∧
  InB t206_1 0 ∧
  ∃ t223_1 : Int, hcell h_20 (Sl.at t206_1 0 1) = some (VI t223_1) ∧
  ((decide (t223_1 ≤ t220_1)) = true →
  K (VB false) h_20) ∧
  ((decide (t223_1 ≤ t220_1)) = false →
  w5_3 P h_20 b_2 t154_1 b_1 t61_1 t206_1 n_1 J_2 count25_1 t202_1 K)) ∧
  ((decide (0 < t202_1)) = false →
  w5_3 P h_20 b_2 t154_1 b_1 t61_1 t206_1 n_1 J_2 count25_1 t202_1 K)) ∧
  ((decide (t202_1 < (t157_1.n : Int))) = false →
  ((!decide (count25_1 = (t154_1.n : Int))) = true →
  K (VB false) h_20) ∧
  ((!decide (count25_1 = (t154_1.n : Int))) = false →
  ((!(t167_1 == (decide ((t157_1.n : Int) = 1)))) = true →
  K (VB false) h_20) ∧
  ((!(t167_1 == (decide ((t157_1.n : Int) = 1)))) = false →
  J_1  h_20)))) ∧
  (t157_2 = false →
  J_1  h_19)) ∧
  ∀ (h_27 : Heap), J_1  h_27 → Vars h_27 [(b_2, [(Sl.v t154_1)]), (b_1, [(Sl.v t61_1)])] →
  callM P 38 #[(Sl.v more1_1)] h_27 fun rv_18 h_28 => ∃ t264_1 : Sl, ∃ t264_2 : Sl, rv_18 = (Value.tuple #[(Value.agg #[(Sl.v t264_1)]), (Sl.v t264_2)]) ∧ Vars h_28 [(b_2, [(Sl.v t154_1)]), (b_1, [(Sl.v t61_1)])] ∧
  ∀ (b_3 : Nat) (h_30 : Heap), h_28.size ≤ b_3 → Fr (In []) h_28 h_30 → Vars h_30 [(b_3, [(Sl.v t264_1)]), (b_2, [(Sl.v t154_1)]), (b_1, [(Sl.v t61_1)])] →
  callM P 39 #[(Value.agg #[(Sl.v t264_1)]), (Sl.v t264_2)] h_30 fun rv_19 h_31 => ∃ t270_1 : Sl, ∃ t270_2 : Bool, rv_19 = (Value.tuple #[(Value.agg #[(Sl.v t270_1)]), (VB t270_2)]) ∧ Vars h_31 [(b_3, [(Sl.v t264_1)]), (b_2, [(Sl.v t154_1)]), (b_1, [(Sl.v t61_1)])] ∧
  ∀ (b_4 : Nat) (h_33 : Heap), h_31.size ≤ b_4 → Fr (In []) h_31 h_33 → Vars h_33 [(b_4, [(Sl.v t270_1)]), (b_3, [(Sl.v t264_1)]), (b_2, [(Sl.v t154_1)]), (b_1, [(Sl.v t61_1)])] →
  callM P 40 #[(Value.agg #[(Sl.v t264_1)]), (Sl.v t264_2)] h_33 fun rv_20 h_34 => ∃ t276_1 : Sl, ∃ t276_2 : Bool, rv_20 = (Value.tuple #[(Value.agg #[(Sl.v t276_1)]), (VB t276_2)]) ∧ Vars h_34 [(b_4, [(Sl.v t270_1)]), (b_3, [(Sl.v t264_1)]), (b_2, [(Sl.v t154_1)]), (b_1, [(Sl.v t61_1)])] ∧
  ((!(t270_2 == t276_2)) = true →
  ∀ (b_5 : Nat) (h_36 : Heap), h_34.size ≤ b_5 → Fr (In []) h_34 h_36 → Vars h_36 [(b_5, [(Sl.v t276_1)]), (b_4, [(Sl.v t270_1)]), (b_3, [(Sl.v t264_1)]), (b_2, [(Sl.v t154_1)]), (b_1, [(Sl.v t61_1)])] →
  K (VB false) h_36) ∧
  ((!(t270_2 == t276_2)) = false →
  ∀ (b_5 : Nat) (h_36 : Heap), h_34.size ≤ b_5 → Fr (In []) h_34 h_36 → Vars h_36 [(b_5, [(Sl.v t276_1)]), (b_4, [(Sl.v t270_1)]), (b_3, [(Sl.v t264_1)]), (b_2, [(Sl.v t154_1)]), (b_1, [(Sl.v t61_1)])] →
  callM P 41 #[(Value.agg #[(Sl.v t270_1)]), (Value.agg #[(Sl.v t276_1)])] h_36 fun rv_21 h_37 => ∃ t285_1 : Bool, rv_21 = (VB t285_1) ∧ Vars h_37 [(b_5, [(Sl.v t276_1)]), (b_4, [(Sl.v t270_1)]), (b_3, [(Sl.v t264_1)]), (b_2, [(Sl.v t154_1)]), (b_1, [(Sl.v t61_1)])] ∧
  ((!t285_1) = true →
  K (VB false) h_37) ∧
  ((!t285_1) = false →
  ∃ J_7 : Heap → Prop, ((t270_2 = true →
  ∃ J_8 : Nat → Int → Heap → Prop, (∃ n0 : Nat, J_8 n0 0 h_37) ∧
  ∀ (n_11 : Nat) (t292_1 : Int) (h_38 : Heap), J_8 n_11 t292_1 h_38 → Vars h_38 [(b_5, [(Sl.v t276_1)]), (b_4, [(Sl.v t270_1)]), (b_3, [(Sl.v t264_1)]), (b_2, [(Sl.v t154_1)]), (b_1, [(Sl.v t61_1)])] →
  ((decide (t292_1 < (t264_1.n : Int))) = true →
  ∃ J_9 : Nat → Int → Heap → Prop, (∃ n0 : Nat, J_9 n0 0 h_38) ∧
  ∀ (n_12 : Nat) (t298_1 : Int) (h_39 : Heap), J_9 n_12 t298_1 h_39 → Vars h_39 [(b_5, [(Sl.v t276_1)]), (b_4, [(Sl.v t270_1)]), (b_3, [(Sl.v t264_1)]), (b_2, [(Sl.v t154_1)]), (b_1, [(Sl.v t61_1)])] →
  ((decide (t298_1 < (t264_1.n : Int))) = true →
  callM P 25 #[(Value.agg #[(Sl.v t264_1)]), (VI t292_1), (VI t298_1)] h_39 fun rv_22 h_40 => ∃ t305_1 : Int, ∃ t305_2 : Bool, rv_22 = (Value.tuple #[(VI t305_1), (VB t305_2)]) ∧ Vars h_40 [(b_5, [(Sl.v t276_1)]), (b_4, [(Sl.v t270_1)]), (b_3, [(Sl.v t264_1)]), (b_2, [(Sl.v t154_1)]), (b_1, [(Sl.v t61_1)])] ∧
  InB t264_2 t292_1 ∧
  ∃ t313_1 : Int, hcell h_40 (Sl.at t264_2 t292_1 1) = some (VI t313_1) ∧
  InB t264_2 t298_1 ∧
  ∃ t317_1 : Int, hcell h_40 (Sl.at t264_2 t298_1 1) = some (VI t317_1) ∧
  callM P 25 #[(Value.agg #[(Sl.v t270_1)]), (VI t313_1), (VI t317_1)] h_40 fun rv_23 h_41 => ∃ t318_1 : Int, ∃ t318_2 : Bool, rv_23 = (Value.tuple #[(VI t318_1), (VB t318_2)]) ∧ Vars h_41 [(b_5, [(Sl.v t276_1)]), (b_4, [(Sl.v t270_1)]), (b_3, [(Sl.v t264_1)]), (b_2, [(Sl.v t154_1)]), (b_1, [(Sl.v t61_1)])] ∧
  ((!(t305_2 == t318_2)) = true →
  K (VB false) h_41) ∧
  ((!(t305_2 == t318_2)) = false →
  ((!decide (t305_1 = t318_1)) = true →
  K (VB false) h_41) ∧
  ((!decide (t305_1 = t318_1)) = false →
  ∃ m : Nat, m < n_12 ∧ J_9 m (w64 (t298_1 + 1)) h_41))) ∧
  ((decide (t298_1 < (t264_1.n : Int))) = false →
  ∃ m : Nat, m < n_11 ∧ J_8 m (w64 (t292_1 + 1)) h_39)) ∧
  ((decide (t292_1 < (t264_1.n : Int))) = false →
  J_7  h_38)) ∧
  (t270_2 = false →
  J_7  h_37)) ∧
  ∀ (h_42 : Heap), J_7  h_42 → Vars h_42 [(b_5, [(Sl.v t276_1)]), (b_4, [(Sl.v t270_1)]), (b_3, [(Sl.v t264_1)]), (b_2, [(Sl.v t154_1)]), (b_1, [(Sl.v t61_1)])] →
  callM P 42 #[(Sl.v more1_1)] h_42 fun rv_24 h_43 => ∃ t333_1 : Sl, ∃ t333_2 : Int, rv_24 = (Value.tuple #[(Value.agg #[(Sl.v t333_1)]), (VI t333_2)]) ∧ Vars h_43 [(b_5, [(Sl.v t276_1)]), (b_4, [(Sl.v t270_1)]), (b_3, [(Sl.v t264_1)]), (b_2, [(Sl.v t154_1)]), (b_1, [(Sl.v t61_1)])] ∧
  ∀ (b_6 : Nat) (h_45 : Heap), h_43.size ≤ b_6 → Fr (In []) h_43 h_45 → Vars h_45 [(b_6, [(Sl.v t333_1)]), (b_5, [(Sl.v t276_1)]), (b_4, [(Sl.v t270_1)]), (b_3, [(Sl.v t264_1)]), (b_2, [(Sl.v t154_1)]), (b_1, [(Sl.v t61_1)])] →
  callM P 43 #[(Value.agg #[(Sl.v t333_1)]), (VI t333_2)] h_45 fun rv_25 h_46 => ∃ t339_1 : Bool, ∃ t339_2 : Bool, rv_25 = (Value.tuple #[(VB t339_1), (VB t339_2)]) ∧ Vars h_46 [(b_6, [(Sl.v t333_1)]), (b_5, [(Sl.v t276_1)]), (b_4, [(Sl.v t270_1)]), (b_3, [(Sl.v t264_1)]), (b_2, [(Sl.v t154_1)]), (b_1, [(Sl.v t61_1)])] ∧
  callM P 44 #[(Value.agg #[(Sl.v t333_1)]), (VI t333_2)] h_46 fun rv_26 h_47 => ∃ t345_1 : Bool, ∃ t345_2 : Bool, rv_26 = (Value.tuple #[(VB t345_1), (VB t345_2)]) ∧ Vars h_47 [(b_6, [(Sl.v t333_1)]), (b_5, [(Sl.v t276_1)]), (b_4, [(Sl.v t270_1)]), (b_3, [(Sl.v t264_1)]), (b_2, [(Sl.v t154_1)]), (b_1, [(Sl.v t61_1)])] ∧
  ((!(t339_2 == t345_2)) = true →
  K (VB false) h_47) ∧
  ((!(t339_2 == t345_2)) = false →
  ((!(t339_1 == t345_1)) = true →
  K (VB false) h_47) ∧
  ((!(t339_1 == t345_1)) = false →
  (t339_2 = true →
  ∃ J_10 : Nat → Bool → Int → Heap → Prop, (∃ n0 : Nat, J_10 n0 true 0 h_47) ∧
  ∀ (n_15 : Nat) (all52_1 : Bool) (t360_1 : Int) (h_48 : Heap), J_10 n_15 all52_1 t360_1 h_48 → Vars h_48 [(b_6, [(Sl.v t333_1)]), (b_5, [(Sl.v t276_1)]), (b_4, [(Sl.v t270_1)]), (b_3, [(Sl.v t264_1)]), (b_2, [(Sl.v t154_1)]), (b_1, [(Sl.v t61_1)])] →
  ((decide (t360_1 < (t333_1.n : Int))) = true →
  callM P 25 #[(Value.agg #[(Sl.v t333_1)]), (VI t360_1), (VI t333_2)] h_48 fun rv_27 h_49 => ∃ t367_1 : Int, ∃ t367_2 : Bool, rv_27 = (Value.tuple #[(VI t367_1), (VB t367_2)]) ∧ Vars h_49 [(b_6, [(Sl.v t333_1)]), (b_5, [(Sl.v t276_1)]), (b_4, [(Sl.v t270_1)]), (b_3, [(Sl.v t264_1)]), (b_2, [(Sl.v t154_1)]), (b_1, [(Sl.v t61_1)])] ∧
  (all52_1 = true →
  ∃ m : Nat, m < n_15 ∧ J_10 m t367_2 (w64 (t360_1 + 1)) h_49) ∧
  (all52_1 = false →
  ∃ m : Nat, m < n_15 ∧ J_10 m false (w64 (t360_1 + 1)) h_49)) ∧
  ((decide (t360_1 < (t333_1.n : Int))) = false →
  K (VB (all52_1 == t339_1)) h_48)) ∧
  (t339_2 = false →
  K (VB true) h_47))))))))))
def w5_1 (P : Program) (t69_2 : Bool) (t69_1 : Int) (h_11 : Heap) (t61_1 : Sl) (t61_2 : Int) (t61_3 : Int) (more1_1 : Sl) (b_1 : Nat) (K : Value → Heap → Prop) : Prop :=
  (t69_2 = true →
  ((decide (t69_1 < 0)) = true →
  K (VB false) h_11) ∧
  ((decide (t69_1 < 0)) = false →
  ((decide ((t61_1.n : Int) ≤ t69_1)) = true →
  K (VB false) h_11) ∧
  ((decide ((t61_1.n : Int) ≤ t69_1)) = false →
  ((!((decide (t69_1 = 0)) == (decide (t61_2 = t61_3)))) = true →
  K (VB false) h_11) ∧
  ((!((decide (t69_1 = 0)) == (decide (t61_2 = t61_3)))) = false →
  w5_2 P more1_1 h_11 b_1 t61_1 K)))) ∧
  (t69_2 = false →
  w5_2 P more1_1 h_11 b_1 t61_1 K)
def w5_4 (P : Program) (t113_1 : Bool) (t69_2 : Bool) (t69_1 : Int) (h_10 : Heap) (t61_1 : Sl) (t61_2 : Int) (t61_3 : Int) (more1_1 : Sl) (b_1 : Nat) (K : Value → Heap → Prop) : Prop :=
  (t113_1 = false →
  w5_1 P t69_2 t69_1 h_10 t61_1 t61_2 t61_3 more1_1 b_1 K)
def w5 (P : Program) (code0_1 : Sl) (more1_1 : Sl) (h : Heap) (K : Value → Heap → Prop) : Prop :=
  callM P 23 #[(Sl.v code0_1), (Sl.v more1_1)] h fun rv_1 h_1 => ∃ t58_1 : Bool, rv_1 = (VB t58_1) ∧ Vars h_1 [] ∧
  (t58_1 = true →
  K (VB true) h_1) ∧
  (t58_1 = false →
  callM P 24 #[(Sl.v code0_1)] h_1 fun rv_2 h_2 => ∃ t61_1 : Sl, ∃ t61_2 : Int, ∃ t61_3 : Int, rv_2 = (Value.tuple #[(Value.agg #[(Sl.v t61_1)]), (VI t61_2), (VI t61_3)]) ∧ Vars h_2 [] ∧
  ∀ (b_1 : Nat) (h_4 : Heap), h_2.size ≤ b_1 → Fr (In []) h_2 h_4 → Vars h_4 [(b_1, [(Sl.v t61_1)])] →
  callM P 25 #[(Value.agg #[(Sl.v t61_1)]), (VI t61_2), (VI t61_3)] h_4 fun rv_3 h_5 => ∃ t69_1 : Int, ∃ t69_2 : Bool, rv_3 = (Value.tuple #[(VI t69_1), (VB t69_2)]) ∧ Vars h_5 [(b_1, [(Sl.v t61_1)])] ∧
  callM P 26 #[(Value.agg #[(Sl.v t61_1)]), (VI t61_2), (VI t61_3)] h_5 fun rv_4 h_6 => ∃ t76_1 : Int, ∃ t76_2 : Bool, rv_4 = (Value.tuple #[(VI t76_1), (VB t76_2)]) ∧ Vars h_6 [(b_1, [(Sl.v t61_1)])] ∧
  callM P 27 #[(Value.agg #[(Sl.v t61_1)]), (VI t61_2)] h_6 fun rv_5 h_7 => ∃ t82_1 : Sl, ∃ t82_2 : Bool, rv_5 = (Value.tuple #[(Sl.v t82_1), (VB t82_2)]) ∧ Vars h_7 [(b_1, [(Sl.v t61_1)])] ∧
  callM P 28 #[(Value.agg #[(Sl.v t61_1)]), (VI t61_2)] h_7 fun rv_6 h_8 => ∃ t88_1 : Sl, ∃ t88_2 : Bool, rv_6 = (Value.tuple #[(Sl.v t88_1), (VB t88_2)]) ∧ Vars h_8 [(b_1, [(Sl.v t61_1)])] ∧
  ((!(t69_2 == t76_2)) = true →
  K (VB false) h_8) ∧
  ((!(t69_2 == t76_2)) = false →
  ((!decide (t69_1 = t76_1)) = true →
  K (VB false) h_8) ∧
  ((!decide (t69_1 = t76_1)) = false →
  ((!(t82_2 == t88_2)) = true →
  K (VB false) h_8) ∧
  ((!(t82_2 == t88_2)) = false →
  callM P 29 #[(Sl.v t82_1), (Sl.v t88_1)] h_8 fun rv_7 h_9 => ∃ t107_1 : Bool, rv_7 = (VB t107_1) ∧ Vars h_9 [(b_1, [(Sl.v t61_1)])] ∧
  ((!t107_1) = true →
  K (VB false) h_9) ∧
  ((!t107_1) = false →
  (t82_2 = true →
  callM P 30 #[(Value.agg #[(Sl.v t61_1)])] h_9 fun rv_8 h_10 => ∃ t113_1 : Bool, rv_8 = (VB t113_1) ∧ Vars h_10 [(b_1, [(Sl.v t61_1)])] ∧
  (t113_1 = true →
  ((decide (0 ≤ t61_3)) = true →
  ((decide (t61_3 < (t61_1.n : Int))) = true →
  callM P 31 #[(Sl.v t82_1), (VI t61_3)] h_10 fun rv_9 h_11 => ∃ t130_1 : Bool, rv_9 = (VB t130_1) ∧ Vars h_11 [(b_1, [(Sl.v t61_1)])] ∧
  ((!(t69_2 == t130_1)) = true →
  K (VB false) h_11) ∧
  ((!(t69_2 == t130_1)) = false →
  w5_1 P t69_2 t69_1 h_11 t61_1 t61_2 t61_3 more1_1 b_1 K)) ∧
  ((decide (t61_3 < (t61_1.n : Int))) = false →
  w5_1 P t69_2 t69_1 h_10 t61_1 t61_2 t61_3 more1_1 b_1 K)) ∧
  ((decide (0 ≤ t61_3)) = false →
  w5_1 P t69_2 t69_1 h_10 t61_1 t61_2 t61_3 more1_1 b_1 K)) ∧
  w5_4 P t113_1 t69_2 t69_1 h_10 t61_1 t61_2 t61_3 more1_1 b_1 K) ∧
  w5_4 P t82_2 t69_2 t69_1 h_9 t61_1 t61_2 t61_3 more1_1 b_1 K)))))
theorem x5 (code0_1 : Sl) (more1_1 : Sl) (h : Heap) (K : Value → Heap → Prop) (H : w5 Try.prog code0_1 more1_1 h K) : callM Try.prog 5 #[(Sl.v code0_1), (Sl.v more1_1)] h K := v5 code0_1 more1_1 h K H
theorem gr_loops {h0 h : Heap} {S : Nat → Prop} {g c : Sl} {gs : List (List Int)} {cs : List Int} (G : RdR S h0 g gs) (C : RdI S h0 c cs) (hc : ∀ x, x ∈ cs → ∀ y, y ∈ cs → (wlP gs x y).2 = true) {b2 b1 : Nat} {t : Sl} (f : Fr No h0 h) (hL : Vars h [(b2, [g.v]), (b1, [t.v])]) {n : Nat} {J : Nat → Int → Int → Heap → Prop} {count i : Int} {K : Value → Heap → Prop} (HJ : ∀ h', Fr No h0 h' → ∃ m, m < n ∧ J m (w64 (count + (c.n : Int))) (w64 (i + 1)) h') : w5_3 Try.prog h b2 g b1 t c n J count i K := by
  unfold w5_3
  refine ⟨fun m j h' => 0 ≤ j ∧ j + m = (cs.length : Int) ∧ Fr No h0 h', ⟨cs.length, by omega, by omega, f⟩, ?_⟩
  rintro m j h1 ⟨j0, j1, f1⟩ hL1
  have C1 := C.no f1
  refine ⟨fun e => ?_, fun e => HJ h1 f1⟩
  have hj := C1.lt e
  refine ⟨C1.inb j0 hj, _, C1.get j0 hj, ?_⟩
  rw [C1.succ j0 hj]
  refine ⟨fun m2 k h' => 0 ≤ k ∧ k + m2 = (cs.length : Int) ∧ Fr No h0 h', ⟨cs.length, by omega, by omega, f1⟩, ?_⟩
  rintro m2 k h2 ⟨k0, k1, f2⟩ hL2
  have C2 := C.no f2
  refine ⟨fun e2 => ?_, fun e2 => ⟨m - 1, by omega, by omega, by omega, f2⟩⟩
  have hk := C2.lt e2
  refine ⟨C2.inb k0 hk, _, C2.get k0 hk, ?_⟩
  rw [C2.succ k0 hk]
  refine k_WayLength (G.no f2) _ _ _ fun h3 f3 => ⟨_, _, rfl, hL2.of_no f3, fun e3 => ?_, fun _ => ⟨m2 - 1, by omega, by omega, by omega, f2.no_trans f3⟩⟩
  rw [hc _ (List.getElem_mem _) _ (List.getElem_mem _)] at e3
  cases e3
set_option maxHeartbeats 4000000 in
theorem gr_tail {h0 h : Heap} {S1 : Nat → Prop} {s1 : Sl} {x1 : List Value} (G1 : RdV S1 h0 1 s1 x1) (B1 : ∀ v, v ∈ x1 → ∃ m : Int, v = Value.int .u8 m ∧ 0 ≤ m ∧ m ≤ 255) (f : Fr No h0 h) {b1 : Nat} {t : Sl} (hL : Vars h [(b1, [t.v])]) {K : Value → Heap → Prop} (HK : ∀ h', Fr No h0 h' → K (VB true) h') : w5_2 Try.prog s1 h b1 t K := by
  unfold w5_2
  refine k_DrawStrongParts (G1.no f) B1 _ fun g gs h12 gl G12 f12 => ⟨g, rfl, hL.of_no f12, fun b2 h14 hb2 f14 hL14 => ?_⟩
  have f14 := f14.in_nil
  refine k_StrongParts (G12.no f14) _ fun u h15 o15 f15 => ⟨u, _, rfl, hL14.of_no f15, ?_⟩
  have G15 := (G12.no f14).no f15
  refine k_spec_StrongParts G15 _ fun v h16 o16 f16 => ⟨v, _, rfl, (hL14.of_no f15).of_no f16, ?_⟩
  have G16 := G15.no f16
  refine k_IsStrong G16 _ fun h17 f17 => ⟨_, _, rfl, ((hL14.of_no f15).of_no f16).of_no f17, ?_⟩
  refine k_spec_IsStrong (G16.no f17) _ fun h18 f18 => ⟨_, _, rfl, (((hL14.of_no f15).of_no f16).of_no f17).of_no f18, fun e => by simp at e, fun _ => ?_⟩
  have hL18 := (((hL14.of_no f15).of_no f16).of_no f17).of_no f18
  have f1518 := (f16.no_trans f17).no_trans f18
  have U18 := (OwR.rd o15).no f1518
  refine k_wRows U18 ((OwR.rd o16).no (f17.no_trans f18)) rfl _ ⟨_, rfl, hL18, fun e => by simp at e, fun _ => ⟨fun e => by simp at e, fun _ => ⟨fun e => by simp at e, fun _ => ⟨fun e => ?_, fun _ => ?_⟩⟩⟩⟩
  · unfold stpP at e
    cases hg : graphB gs <;> rw [hg] at e <;> simp at e
  have f018 : Fr No h0 h18 := f.no_trans ((f12.no_trans f14).no_trans (f15.no_trans f1518))
  have G18 := (G16.no f17).no f18
  refine ⟨fun h' => Fr No h18 h', ⟨fun e => ?_, fun _ => Fr.refl _ _⟩, ?_⟩
  · have hg : graphB gs = true := by
      unfold stpP at e
      cases hg : graphB gs with
      | true => rfl
      | false => rw [hg] at e; simp at e
    have hst : stpP gs = ((stpL gs gs.length).1, true) := by unfold stpP; rw [hg]; rfl
    have LW := stp_law hg
    have hgl := graph_len hg
    rw [hst] at U18
    simp only at U18
    have UL := U18.low
    have GL := G18.low
    have ul : u.n = (stpL gs gs.length).1.length := U18.len
    have gn := G18.len
    generalize hP : (stpL gs gs.length).1 = ps at *
    have clen : ∀ i (hi : i < ps.length), ps[i].length ≤ gs.length := fun i hi => by
      have hmem := List.getElem_mem hi
      have : ∀ (l : List (List Int)) x, x ∈ l → x.length ≤ (l.map List.length).sum := fun l x hx => by
        induction l with
        | nil => simp at hx
        | cons y l ih =>
          rcases List.mem_cons.1 hx with rfl | hx
          · simp
          · have := ih hx; simp only [List.map_cons, List.sum_cons]; omega
      have := this ps _ hmem
      rw [LW.sum] at this
      exact this
    have pl : ps.length ≤ gs.length := by rw [← hP]; exact (stpL_len gs gs.length).2
    refine ⟨fun n count i h' => 0 ≤ i ∧ i + n = (ps.length : Int) ∧ count = (((ps.take i.toNat).map List.length).sum : Nat) ∧ Fr No h18 h', ⟨ps.length, by omega, by omega, by simp, Fr.refl _ _⟩, ?_⟩
    rintro n count i h20 ⟨i0, i1, hc, f20⟩ hL20
    have U20 := UL.no f20
    have G20 := GL.no f20
    have hsle : ((ps.take i.toNat).map List.length).sum ≤ gs.length := by
      have : ps = ps.take i.toNat ++ ps.drop i.toNat := (List.take_append_drop _ _).symm
      have h := LW.sum
      rw [this, List.map_append, List.sum_append] at h
      omega
    refine ⟨fun e2 => ?_, fun e2 => ?_⟩
    · have hi := U20.lt e2
      obtain ⟨c, c1, rc⟩ := U20.get i0 hi
      have hcl := clen i.toNat (by omega)
      have hcn := rc.len
      have cm : ps[i.toNat]'(by omega) ∈ ps := List.getElem_mem _
      have cpos := LW.ne _ cm
      have fin : ∀ h', Fr No h20 h' → ∃ m, m < n ∧ (fun (n : Nat) (count i : Int) (h' : Heap) => 0 ≤ i ∧ i + n = (ps.length : Int) ∧ count = (((ps.take i.toNat).map List.length).sum : Nat) ∧ Fr No h18 h') m (w64 (count + (c.n : Int))) (w64 (i + 1)) h' := fun h' f' => by
        rw [w64_eq (count + (c.n : Int)) (by omega) (by omega), w64_eq (i + 1) (by omega) (by omega)]
        refine ⟨n - 1, by omega, by omega, by omega, ?_, f20.no_trans f'⟩
        rw [take_snoc ps i0 hi, List.map_append, List.sum_append, hcn, hc]
        simp
      refine ⟨U20.inb i0 hi, c, c1, fun e3 => ?_, fun e3 => gr_loops G20 rc (fun x hx y hy => LW.way _ cm x hx y hy) (Fr.refl _ _) hL20 fin⟩
      simp only [decide_eq_true_eq] at e3
      rw [w64_eq (i - 1) (by omega) (by omega)]
      obtain ⟨d, d1, rd⟩ := U20.get (i := i - 1) (by omega) (by omega)
      have dm : ps[(i - 1).toNat]'(by omega) ∈ ps := List.getElem_mem _
      have dpos := LW.ne _ dm
      refine ⟨U20.inb (by omega) (by omega), d, d1, rd.inb (Int.le_refl 0) (by omega), _, rd.get (Int.le_refl 0) (by omega), rc.inb (Int.le_refl 0) (by omega), _, rc.get (Int.le_refl 0) (by omega), fun e4 => ?_, fun e4 => gr_loops G20 rc (fun x hx y hy => LW.way _ cm x hx y hy) (Fr.refl _ _) hL20 fin⟩
      exfalso
      simp only [decide_eq_true_eq] at e4
      have := LW.rise (i - 1).toNat (by omega)
      rw [show (i - 1).toNat + 1 = i.toNat by omega, getD_get (show (i - 1).toNat < ps.length by omega), getD_get (show i.toNat < ps.length by omega), getD_getI dpos, getD_getI cpos] at this
      have h0 : (0 : Int).toNat = 0 := rfl
      simp only [h0] at e4
      omega
    · have hi := U20.ge e2
      rw [List.take_of_length_le (by omega), LW.sum] at hc
      refine ⟨fun e3 => ?_, fun _ => ⟨fun e3 => ?_, fun _ => f20⟩⟩
      · have := not_t e3
        simp only [decide_eq_false_iff_not] at this
        omega
      · rw [LW.one, ul, hg, Bool.true_and] at e3
        have : decide (ps.length = 1) = decide (((ps.length : Nat) : Int) = 1) := by rw [Bool.eq_iff_iff]; simp; omega
        rw [this] at e3
        simp at e3
  intro h27 f27 hL27
  have F27 := f018.no_trans f27
  refine k_DrawRenamePlaces (G1.no F27) B1 _ fun x ns xs nv h28 X28 N28 f28 => ⟨x, ns, rfl, hL27.of_no f28, fun b3 h30 hb3 f30 hL30 => ?_⟩
  have f30 := f30.in_nil
  refine k_RenamePlaces (X28.no f30) (N28.no f30) _ fun r h31 o31 f31 => ⟨r, _, rfl, hL30.of_no f31, fun b4 h33 hb4 f33 hL33 => ?_⟩
  have f33 := f33.in_nil
  have g33 := (f30.no_trans f31).no_trans f33
  refine k_spec_RenamePlaces (X28.no g33) (N28.no g33) _ fun r' h34 o34 f34 => ⟨r', _, rfl, hL33.of_no f34, fun e => by simp at e, fun _ b5 h36 hb5 f36 hL36 => ?_⟩
  have f36 := f36.in_nil
  have g3136 := (f33.no_trans f34).no_trans f36
  have R36 := (OwR.rd o31).no g3136
  refine k_wGraph R36 ((OwR.rd o34).no f36) rfl _ fun h37 f37 => ⟨_, rfl, hL36.of_no f37, fun e => by simp at e, fun _ => ?_⟩
  have hL37 := hL36.of_no f37
  have g37 := (g33.no_trans f34).no_trans (f36.no_trans f37)
  have X37 := X28.no g37
  have N37 := N28.no g37
  have R37 := R36.no f37
  have F37 := (F27.no_trans f28).no_trans g37
  refine ⟨fun h' => Fr No h37 h', ⟨fun e => ?_, fun _ => Fr.refl _ _⟩, ?_⟩
  · have hgn : graphB xs = true ∧ namesB nv xs.length = true := by
      unfold renP at e
      cases hg : graphB xs <;> cases hn : namesB nv xs.length <;> rw [hg, hn] at e <;> simp at e <;> exact ⟨rfl, rfl⟩
    obtain ⟨hg, hn⟩ := hgn
    have hr : renP xs nv = (renL xs nv xs.length, true) := by unfold renP; rw [hg, hn]; rfl
    rw [hr] at R37
    simp only at R37
    obtain ⟨nl, nr, nd, na⟩ := names_all hn
    have hgl := graph_len hg
    have XL := X37.low
    have NL := N37.low
    have RL := R37.low
    have xn := X37.len
    refine ⟨fun n i h' => 0 ≤ i ∧ i + n = (xs.length : Int) ∧ Fr No h37 h', ⟨xs.length, by omega, by omega, Fr.refl _ _⟩, ?_⟩
    rintro n i h38 ⟨i0, i1, f38⟩ hL38
    refine ⟨fun e2 => ?_, fun e2 => f38⟩
    simp only [decide_eq_true_eq] at e2
    rw [w64_eq (i + 1) (by omega) (by omega)]
    refine ⟨fun m j h' => 0 ≤ j ∧ j + m = (xs.length : Int) ∧ Fr No h37 h', ⟨xs.length, by omega, by omega, f38⟩, ?_⟩
    rintro m j h39 ⟨j0, j1, f39⟩ hL39
    refine ⟨fun e3 => ?_, fun e3 => ⟨n - 1, by omega, by omega, by omega, f39⟩⟩
    simp only [decide_eq_true_eq] at e3
    rw [w64_eq (j + 1) (by omega) (by omega)]
    refine k_WayLength (XL.no f39) _ _ _ fun h40 f40 => ⟨_, _, rfl, hL39.of_no f40, ?_⟩
    have N40 := NL.no (f39.no_trans f40)
    refine ⟨N40.inb i0 (by omega), _, N40.get i0 (by omega), N40.inb j0 (by omega), _, N40.get j0 (by omega), ?_⟩
    have key := ren_far hg hn i0 (by omega) j0 (by omega)
    rw [getD_getI (by omega), getD_getI (by omega)] at key
    refine k_WayLength ((RL.no f39).no f40) _ _ _ fun h41 f41 => ⟨_, _, rfl, (hL39.of_no f40).of_no f41, fun e4 => ?_, fun _ => ⟨fun e4 => ?_, fun _ => ⟨m - 1, by omega, by omega, by omega, (f39.no_trans f40).no_trans f41⟩⟩⟩
    · rw [key] at e4; simp at e4
    · rw [key] at e4; simp at e4
  intro h42 f42 hL42
  have F42 := F37.no_trans f42
  refine k_DrawLeadsTo (G1.no F42) B1 _ fun y ys p h43 Y43 f43 => ⟨y, p, rfl, hL42.of_no f43, fun b6 h45 hb6 f45 hL45 => ?_⟩
  have f45 := f45.in_nil
  refine k_LeadsTo (Y43.no f45) p _ fun h46 f46 => ⟨_, _, rfl, hL45.of_no f46, ?_⟩
  refine k_spec_LeadsTo ((Y43.no f45).no f46) p _ fun h47 f47 => ⟨_, _, rfl, (hL45.of_no f46).of_no f47, fun e => by simp at e, fun _ => ⟨fun e => by simp at e, fun _ => ?_⟩⟩
  have hL47 := (hL45.of_no f46).of_no f47
  have Y47 := ((Y43.no f45).no f46).no f47
  have F47 := (F42.no_trans f43).no_trans ((f45.no_trans f46).no_trans f47)
  refine ⟨fun e => ?_, fun _ => HK h47 F47⟩
  rw [e, Bool.true_and]
  rw [Bool.and_eq_true, inR_iff] at e
  obtain ⟨hg, p0, p1⟩ := e
  have hgl := graph_len hg
  have YL := Y47.low
  have yn := Y47.len
  refine ⟨fun n all i h' => 0 ≤ i ∧ i + n = (ys.length : Int) ∧ (all = true ↔ ∀ j : Nat, (j : Int) < i → (wlP ys j p).2 = true) ∧ Fr No h47 h', ⟨ys.length, by omega, by omega, ⟨fun _ j hj => by omega, fun _ => rfl⟩, Fr.refl _ _⟩, ?_⟩
  rintro n all i h48 ⟨i0, i1, ha, f48⟩ hL48
  refine ⟨fun e2 => ?_, fun e2 => ?_⟩
  · simp only [decide_eq_true_eq] at e2
    rw [w64_eq (i + 1) (by omega) (by omega)]
    have hci : ((i.toNat : Nat) : Int) = i := by omega
    refine k_WayLength (YL.no f48) _ _ _ fun h49 f49 => ⟨_, _, rfl, hL48.of_no f49, fun e3 => ⟨n - 1, by omega, by omega, by omega, ?_, f48.no_trans f49⟩, fun e3 => ⟨n - 1, by omega, by omega, by omega, ?_, f48.no_trans f49⟩⟩
    · constructor
      · intro hw j hj
        by_cases h5 : (j : Int) < i
        · exact ha.1 e3 j h5
        · rw [show (j : Int) = i by omega]; exact hw
      · intro hj
        have := hj i.toNat (by omega)
        rwa [hci] at this
    · constructor
      · intro h; cases h
      · intro hj
        have := ha.2 fun j h5 => hj j (by omega)
        rw [e3] at this; cases this
  · simp only [decide_eq_false_iff_not] at e2
    have hl : all = leadB ys p := by
      rw [Bool.eq_iff_iff, ha]
      unfold leadB
      rw [range_all]
      constructor
      · intro hj q hq
        have := hj q (by omega)
        rw [(wl_way hg (p := (q : Int)) (q := p) (by omega) (by omega) p0 (by omega)).1, decide_eq_true_eq] at this
        simpa using this
      · intro hj q hq
        have := hj q (by omega)
        rw [(wl_way hg (p := (q : Int)) (q := p) (by omega) (by omega) p0 (by omega)).1, decide_eq_true_eq]
        simpa using this
    rw [hl, beq_self_eq_true]
    exact HK h48 (F47.no_trans f48)
theorem gr_mid {h0 h : Heap} {S1 : Nat → Prop} {s1 : Sl} {x1 : List Value} (G1 : RdV S1 h0 1 s1 x1) (B1 : ∀ v, v ∈ x1 → ∃ m : Int, v = Value.int .u8 m ∧ 0 ≤ m ∧ m ≤ 255) (f : Fr No h0 h) {b1 : Nat} {t : Sl} (hL : Vars h [(b1, [t.v])]) {K : Value → Heap → Prop} (HK : ∀ h', Fr No h0 h' → K (VB true) h') {S : Nat → Prop} {h2 : Heap} {gs : List (List Int)} (G : RdR S h2 t gs) (p q : Int) : w5_1 Try.prog (wlP gs p q).2 (wlP gs p q).1 h t p q s1 b1 K := by
  unfold w5_1
  refine ⟨fun e => ?_, fun _ => gr_tail G1 B1 f hL HK⟩
  have hw : (graphB gs && (inR 0 ((gs.length : Int) - 1) p && inR 0 ((gs.length : Int) - 1) q)) = true ∧ 0 ≤ (farP gs p).getD q.toNat 0 ∧ (wlP gs p q).1 = (farP gs p).getD q.toNat 0 := by
    unfold wlP at e ⊢
    split at e
    · rename_i hc
      rw [if_pos hc]
      rw [Bool.and_eq_true, decide_eq_true_eq] at hc
      exact ⟨hc.1, hc.2, rfl⟩
    · cases e
  obtain ⟨hc, h3, h4⟩ := hw
  rw [Bool.and_eq_true, Bool.and_eq_true, inR_iff, inR_iff] at hc
  obtain ⟨hg, ⟨p0, p1⟩, q0, q1⟩ := hc
  have hhi := far_hi hg p0 (by omega) q.toNat (by omega)
  have hz := far_zero hg p0 (by omega) q0 (by omega)
  rw [G.len, h4]
  refine ⟨fun e2 => ?_, fun _ => ⟨fun e2 => ?_, fun _ => ⟨fun e2 => ?_, fun _ => gr_tail G1 B1 f hL HK⟩⟩⟩
  · simp only [decide_eq_true_eq] at e2; omega
  · simp only [decide_eq_true_eq] at e2; omega
  · have : decide ((farP gs p).getD q.toNat 0 = 0) = decide (p = q) := by rw [Bool.eq_iff_iff, decide_eq_true_eq, decide_eq_true_eq, hz]
    rw [this] at e2
    simp at e2
theorem k_lawGraphsReached {h : Heap} {S0 S1 : Nat → Prop} {s0 s1 : Sl} {x0 x1 : List Value} (G0 : RdV S0 h 1 s0 x0) (B0 : ∀ v, v ∈ x0 → ∃ m : Int, v = Value.int .u8 m ∧ 0 ≤ m ∧ m ≤ 255) (G1 : RdV S1 h 1 s1 x1) (B1 : ∀ v, v ∈ x1 → ∃ m : Int, v = Value.int .u8 m ∧ 0 ≤ m ∧ m ≤ 255) : Ret Try.prog 5 #[s0.v, s1.v] h (VB true) := by
  intro K HK
  refine x5 s0 s1 h K ?_
  unfold w5
  refine k_big s0 s1 h _ fun b0 => ⟨b0, rfl, .nil, fun _ => HK h (Fr.refl _ _), fun _ => ?_⟩
  refine k_DrawWayLength G0 B0 _ fun t gs p q h2 G2 f2 => ⟨t, p, q, rfl, .nil, fun b1 h4 hb1 f4 hL4 => ?_⟩
  have f4 := f4.in_nil
  refine k_WayLength (G2.no f4) p q _ fun h5 f5 => ⟨_, _, rfl, hL4.of_no f5, ?_⟩
  have f25 := f4.no_trans f5
  refine k_spec_WayLength (G2.no f25) p q _ fun h6 f6 => ⟨_, _, rfl, (hL4.of_no f5).of_no f6, ?_⟩
  have f26 := f25.no_trans f6
  refine k_ReachOf (G2.no f26) p _ fun u h7 o7 f7 => ⟨u, _, rfl, ((hL4.of_no f5).of_no f6).of_no f7, ?_⟩
  have f27 := f26.no_trans f7
  refine k_spec_ReachOf (G2.no f27) p _ fun v h8 o8 f8 => ⟨v, _, rfl, (((hL4.of_no f5).of_no f6).of_no f7).of_no f8, fun e => by simp at e, fun _ => ⟨fun e => by simp at e, fun _ => ⟨fun e => by simp at e, fun _ => ?_⟩⟩⟩
  have hL8 := (((hL4.of_no f5).of_no f6).of_no f7).of_no f8
  have f28 := f27.no_trans f8
  have F8 := f2.no_trans f28
  have U8 := (Ow.rdI o7).no f8
  refine k_wSame U8 (Ow.rdI o8) _ ⟨_, rfl, hL8, fun e => by simp at e, fun _ => ⟨fun e => ?_, ?_⟩⟩
  rotate_left
  · unfold w5_4
    exact fun _ => gr_mid G1 B1 F8 hL8 HK (G2.no f28) p q
  refine k_IsGraph (G2.no f28) _ fun h10 f10 => ⟨_, rfl, hL8.of_no f10, fun _ => ⟨fun e2 => ⟨fun e3 => ?_, fun _ => gr_mid G1 B1 (F8.no_trans f10) (hL8.of_no f10) HK (G2.no f28) p q⟩, fun _ => gr_mid G1 B1 (F8.no_trans f10) (hL8.of_no f10) HK (G2.no f28) p q⟩, ?_⟩
  rotate_left
  · unfold w5_4
    exact fun _ => gr_mid G1 B1 (F8.no_trans f10) (hL8.of_no f10) HK (G2.no f28) p q
  have hgp : (graphB gs && inR 0 ((gs.length : Int) - 1) p) = true := by
    unfold roP at e
    split at e
    · rename_i hc; exact hc
    · cases e
  have ro : roP gs p = (reachP gs p, true) := by unfold roP; rw [hgp]; rfl
  rw [Bool.and_eq_true, inR_iff] at hgp
  simp only [decide_eq_true_eq] at e2 e3
  rw [G2.len] at e3
  have U10 := U8.no f10
  rw [ro] at U10
  refine k_wHas U10 q _ ⟨_, rfl, hL8.of_no f10, fun e4 => ?_, fun _ => gr_mid G1 B1 (F8.no_trans f10) (hL8.of_no f10) HK (G2.no f28) p q⟩
  have : (wlP gs p q).2 = decide (q ∈ reachP gs p) := by
    rw [(wl_way hgp.1 hgp.2.1 (by omega) e2 (by omega)).1, Bool.eq_iff_iff, decide_eq_true_eq, decide_eq_true_eq, reachP, mem_reachL]
    exact ⟨fun h => ⟨e2, by omega, h⟩, fun h => h.2.2⟩
  rw [this] at e4
  simp at e4
end Go.Proofs.Ytkjkfjkapbpgiaa
