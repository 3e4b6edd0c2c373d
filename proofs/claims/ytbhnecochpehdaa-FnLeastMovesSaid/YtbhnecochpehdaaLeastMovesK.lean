/-
  What each function that the law 'FnLeastMoves' comes to does: the contracts.
-/
import Derived.Test.YtbhnecochpehdaaLeastMovesK0
set_option linter.unusedVariables false
set_option linter.unusedSimpArgs false
namespace Go.Proofs.Ytbhnecochpehdaa
open Go Go.Mx
theorem eop_put {L : List (Nat × List Value)} {lo : Nat} {h : Heap} {o : Sl} {xs : List Int} {x : Int} (O : OwI h (fun k => lo ≤ k) o xs) (hlo : lo ≤ h.size) (hL : Vars h L) (hoff : ∀ p, p ∈ L → p.1 < lo) (hb : xs.length ≤ 1000000) (R : Sl → Heap → Prop) (HR : ∀ t h', OwI h' (fun k => lo ≤ k) t (xs ++ [x]) → Fr (fun k => lo ≤ k) h h' → Vars h' L → R t h') : eop Try.prog (Instr.buildSlice tIs 1 #[(0, VI x)]) h fun rv h1 => ∃ t : Sl, rv = t.v ∧ Vars h1 L ∧ eop Try.prog (appS tIs tIs tIs o.v t.v) h1 fun rv2 h2 => ∃ t2 : Sl, rv2 = t2.v ∧ Vars h2 L ∧ R t2 h2 := by
  refine eop_lit rIs (fun k => h.size ≤ k) (fun _ h => h) 1 (by omega) [VI x] rfl rfl fun t h1 n1 c1 o1 f1 m1 _ => ⟨t, rfl, hL.of_no f1, ?_⟩
  have z1 := f1.size
  have O1 : OwI h1 (fun k => lo ≤ k) o xs := Ow.no O f1
  have on := O1.rd.len
  have tn := o1.rd.len
  simp only [List.length_map, Nat.mul_one, List.length_cons, List.length_nil] at on tn
  refine eop_append rIs O1 (fun k hk => by omega) o1.rd (plainVI [x]) (by omega) fun s' h2 n2 o2 f2 d2 => ?_
  have g2 : Fr (fun k => lo ≤ k) h1 h2 := f2.mono fun k _ hk => (O1.foot hk).1
  have V2 : Vars h2 L := (hL.of_no f1).fr g2 fun p hp hk => by have := hoff p hp; omega
  exact ⟨s', rfl, V2, HR s' h2 (by rw [OwI, List.map_append]; exact o2) (f1.of_no.trans g2) V2⟩
theorem eop_putR {L : List (Nat × List Value)} {lo m : Nat} {h : Heap} {s x : Sl} {xss : List (List Int)} {ys : List Int} (O : OwX h (Iv lo m) s xss) (X : OwI h (fun k => m ≤ k) x ys) (hlo : lo ≤ m) (hm : m ≤ h.size) (hL : Vars h L) (hoff : ∀ p, p ∈ L → p.1 < lo) (hb : xss.length ≤ 1000000) (R : Sl → Heap → Prop) (HR : ∀ t h', OwX h' (fun k => lo ≤ k) t (xss ++ [ys]) → Fr (fun k => lo ≤ k) h h' → Vars h' L → R t h') : eop Try.prog (Instr.buildSlice tIss 1 #[(0, x.v)]) h fun rv h1 => ∃ t : Sl, rv = t.v ∧ Vars h1 L ∧ eop Try.prog (appS tIss tIss tIss s.v t.v) h1 fun rv2 h2 => ∃ t2 : Sl, rv2 = t2.v ∧ Vars h2 L ∧ R t2 h2 := by
  refine eop_lit rIss (fun k => h.size ≤ k) (fun _ h => h) 1 (by omega) [x.v] rfl rfl fun t h1 n1 c1 o1 f1 m1 _ => ⟨t, rfl, hL.of_no f1, ?_⟩
  have z1 := f1.size
  refine OwR.snoc rIss (OwR.no O f1) (F' := fun k => lo ≤ k) (fun k _ hk => hk.1) (fun k hk => by omega) ((Ow.no X f1).mono fun k _ hk => Nat.le_trans hlo hk) (fun k hk hk2 => by have := (X.foot hk).1; have := hk2.2; omega) o1.rd (by omega) fun y h2 o2 f2 => ?_
  have g2 : Fr (fun k => lo ≤ k) h1 h2 := f2.mono fun k _ hk => hk.1
  have V2 : Vars h2 L := (hL.of_no f1).fr g2 fun p hp hk => by have := hoff p hp; omega
  exact ⟨y, rfl, V2, HR y h2 o2 (f1.of_no.trans g2) V2⟩
def cycR (n : Int) (both : Bool) (p : Int) : List Int := [(p + 1).tmod n] ++ (if both then [(p + n - 1).tmod n] else [])
def cycL' (n : Int) (both : Bool) : Nat → List (List Int)
  | 0 => []
  | p + 1 => cycL' n both p ++ [cycR n both p]
theorem cycL_length (n : Int) (both : Bool) : ∀ p, (cycL' n both p).length = p
  | 0 => rfl
  | p + 1 => by rw [cycL', List.length_append, cycL_length n both p]; rfl
def cycP (n : Nat) (both : Bool) : List (List Int) := cycL' n both n

theorem k_grCycle {h : Heap} (n : Nat) (hn : n ≤ 1000) (both : Bool) (K : Value → Heap → Prop) (HK : ∀ t h', OwX h' (Iv h.size h'.size) t (cycP n both) → Fr No h h' → K (.agg #[t.v]) h') : callM Try.prog 124 #[VI n, VB both] h K := by
  refine v124 n both h K fun b1 b2 h3 hb1 hb2 f3 hL3 => ?_
  have f3 := f3.in_nil
  have z3 := f3.size
  have l2 : b2 < h3.size := hL3.head.lt
  have l1 : b1 < h3.size := hL3.tail.head.lt
  refine ⟨fun m p x h' => 0 ≤ p ∧ p + m = (n : Int) ∧ OwX h' (fun k => h3.size ≤ k) x (cycL' n both p.toNat) ∧ Fr (fun k => h.size ≤ k) h h' ∧ h3.size ≤ h'.size, ⟨n, by omega, by omega, OwR.nil _ _ _ _, f3.of_no, Nat.le_refl _⟩, ?_⟩
  rintro m p x h4 ⟨p0, p1, o4, f4, z4⟩ hL4
  refine ⟨fun e => ?_, fun e => ?_⟩
  · simp only [decide_eq_true_eq] at e
    refine ⟨by omega, ?_⟩
    rw [w64_eq (p + 1) (by omega) (by omega), w64_eq (p + n) (by omega) (by omega), w64_eq (p + n - 1) (by omega) (by omega)]
    have o4i := OwR.toIv o4
    refine eop_lit rIs (fun k => h4.size ≤ k) (fun _ h => h) 1 (by omega) [VI ((p + 1).tmod n)] rfl rfl fun t h5 n5 c5 o5 f5 m5 _ => ⟨t, rfl, hL4.of_no f5, fun y h' => OwI h' (fun k => h4.size ≤ k) y (cycR n both p) ∧ OwX h' (Iv h3.size h4.size) x (cycL' n both p.toNat) ∧ Fr (fun k => h.size ≤ k) h h' ∧ h4.size ≤ h'.size, ⟨fun eb => ⟨by omega, ?_⟩, fun eb => ⟨?_, OwR.no o4i f5, f4.trans f5.of_no, f5.size⟩⟩, ?_⟩
    · refine eop_put (lo := h4.size) (xs := [(p + 1).tmod n]) o5 f5.size (hL4.of_no f5) (fun q hq => by
        simp only [List.mem_cons, List.not_mem_nil, or_false] at hq
        rcases hq with rfl | rfl <;> simp only <;> omega) (by simp) _ fun u h6 o6 f6 V6 => ⟨?_, OwR.fr (OwR.no o4i f5) f6 fun k hk hk2 hk3 => by have := hk2.2; omega, (f4.trans f5.of_no).trans (f6.mono fun k _ hk => by have := f4.size; omega), by have := f5.size; have := f6.size; omega⟩
      unfold cycR
      rw [if_pos eb]; exact o6
    · unfold cycR
      rw [if_neg (by rw [eb]; simp)]
      exact o5
    rintro y h8 ⟨o8, q8, f8, z8⟩ hL8
    refine eop_putR (lo := h3.size) (m := h4.size) q8 o8 z4 z8 hL8 (fun q hq => by
      simp only [List.mem_cons, List.not_mem_nil, or_false] at hq
      rcases hq with rfl | rfl <;> simp only <;> omega) (by rw [cycL_length]; omega) _ fun u h10 o10 f10 V10 h11 f11 hL11 => ?_
    refine ⟨m - 1, by omega, by omega, by omega, ?_, (f8.trans (f10.mono fun k _ hk => by omega)).trans (f11.mono fun k _ hk => by simp [In] at hk; omega), by have := f10.size; have := f11.size; omega⟩
    have ep : (p + 1).toNat = p.toNat + 1 := by omega
    rw [ep, cycL', show ((p.toNat : Nat) : Int) = p by omega]
    exact OwR.fr o10 f11 fun k hk hk2 hk3 => by simp [In] at hk3; omega
  · simp only [decide_eq_false_iff_not] at e
    intro h12 f12 hL12
    have ep : p.toNat = n := by omega
    rw [ep] at o4
    have g12 : Fr (fun k => h.size ≤ k) h4 h12 := f12.mono fun k _ hk => by simp [In] at hk; omega
    have o12 : OwX h12 (fun k => h3.size ≤ k) x (cycL' n both n) := OwR.fr o4 f12 fun k hk hk2 hk3 => by simp [In] at hk3; omega
    exact HK x h12 (OwR.ivs (OwR.toIv o12) z3 (Nat.le_refl _)) ((f4.trans g12).mono fun k hk hk2 => absurd hk2 (by omega))

theorem row_put {L : List (Nat × List Value)} {lo : Nat} {h : Heap} {s : Sl} {xss : List (List Int)} {i : Int} (O : OwX h (fun k => lo ≤ k) s xss) (hlo : lo ≤ h.size) (h0 : 0 ≤ i) (h1 : i < (xss.length : Int)) (hL : Vars h L) (hoff : ∀ p, p ∈ L → p.1 < lo) (hb : (xss[i.toNat]'(by omega)).length ≤ 1000000) (x : Int) : ∃ si : Sl, hcell h (s.at i 1) = some si.v ∧ ∀ R : Heap → Prop, (∀ h', OwX h' (fun k => lo ≤ k) s (xss.set i.toNat (xss[i.toNat]'(by omega) ++ [x])) → Fr (fun k => lo ≤ k) h h' → Vars h' L → R h') → eop Try.prog (Instr.buildSlice tIs 1 #[(0, VI x)]) h fun rv h1 => ∃ t : Sl, rv = t.v ∧ Vars h1 L ∧ hcell h1 (s.at i 1) = some si.v ∧ eop Try.prog (appS tIs tIs tIs si.v t.v) h1 fun rv2 h2 => ∃ t2 : Sl, rv2 = t2.v ∧ Vars h2 L ∧ InB s i ∧ Writable h2 (s.at i 1) ∧ Vars (hset h2 (s.at i 1) t2.v) L ∧ ∀ h3, h3 = hset h2 (s.at i 1) t2.v → Vars h3 L → R h3 := by
  have Oi := OwR.toIv O
  obtain ⟨si, c1, c2, _⟩ := Oi.inner h0 h1
  refine ⟨si, c1, fun R HR => ?_⟩
  refine eop_lit rIs (fun k => h.size ≤ k) (fun _ h => h) 1 (by omega) [VI x] rfl rfl fun t h9 n9 c9 o9 f9 m9 _ => ⟨t, rfl, hL.of_no f9, hcell_fr c1 f9 (fun h => h), ?_⟩
  have s9 := f9.size
  have O9 := OwR.no Oi f9
  have c2' : OwI h9 (fun k => lo ≤ k) si (xss[i.toNat]'(by omega)) := (Ow.no c2 f9).mono fun k _ hk => hk.1
  have on := c2'.rd.len
  have tn := o9.rd.len
  simp only [List.length_map, Nat.mul_one, List.length_cons, List.length_nil] at on tn
  refine eop_append rIs c2' (fun k hk => by omega) o9.rd (plainVI [x]) (by omega) fun w h10 n10 o10 f10 d10 => ?_
  have g10 : Fr (fun k => lo ≤ k) h9 h10 := f10.mono fun k _ hk => (c2'.foot hk).1
  have V10 : Vars h10 L := (hL.of_no f9).fr g10 fun p hp hk => by have := hoff p hp; omega
  have o10' : OwI h10 (fun k => lo ≤ k) w (xss[i.toNat]'(by omega) ++ [x]) := by rw [OwI, List.map_append]; exact o10
  obtain ⟨i11, w11, o11, f11⟩ := O9.outer2 h0 h1 (hcell_fr c1 f9 fun h => h) f10 (F' := fun k => lo ≤ k) o10' (fun k _ hk => hk.1) fun k hk => (d10 k hk).imp id fun hk2 hk3 => by have := hk3.2; omega
  have g11 : Fr (fun k => lo ≤ k) h10 _ := (O9.ownF f11).mono fun k _ hk => hk.1
  have V11 := V10.fr g11 fun p hp hk => by have := hoff p hp; omega
  exact ⟨w, rfl, V10, i11, w11, V11, fun h3 e3 V3 => HR h3 (by rw [e3]; exact o11) (by rw [e3]; exact (f9.of_no.trans g10).trans g11) V3⟩
/-- Rows of at most q places out of N. -/
def GR (N : Int) (q : Nat) (xss : List (List Int)) : Prop := ∀ l, l ∈ xss → l.length ≤ q ∧ ∀ x, x ∈ l → 0 ≤ x ∧ x < N
theorem GR.nil (N : Int) (q : Nat) : GR N q [] := fun l hl => by cases hl
theorem GR.snoc {N : Int} {q : Nat} {xss : List (List Int)} {l : List Int} (H : GR N q xss) (h1 : l.length ≤ q) (h2 : ∀ x, x ∈ l → 0 ≤ x ∧ x < N) : GR N q (xss ++ [l]) := fun y hy => by
  rcases List.mem_append.1 hy with a | a
  · exact H y a
  · simp only [List.mem_cons, List.not_mem_nil, or_false] at a; rw [a]; exact ⟨h1, h2⟩
theorem GR.set {N : Int} {q : Nat} {xss : List (List Int)} {l : List Int} (H : GR N q xss) (i : Nat) (h1 : l.length ≤ q) (h2 : ∀ x, x ∈ l → 0 ≤ x ∧ x < N) : GR N q (xss.set i l) := fun y hy => by
  rcases List.mem_or_eq_of_mem_set hy with a | a
  · exact H y a
  · rw [a]; exact ⟨h1, h2⟩
theorem GR.up {N : Int} {q r : Nat} {xss : List (List Int)} (H : GR N q xss) (h : q ≤ r) : GR N r xss := fun l hl => ⟨Nat.le_trans (H l hl).1 h, (H l hl).2⟩
theorem GR.graph {q : Nat} {xss : List (List Int)} (H : GR xss.length q xss) (hq : q ≤ 5) (h1 : 1 ≤ xss.length) (h2 : xss.length ≤ 8) : graphB xss = true := by
  rw [graphB_eq (inR_iff.2 ⟨by omega, by omega⟩), List.all_eq_true]
  intro l hl
  have := H l hl
  rw [Bool.and_eq_true, Bool.not_eq_true', decide_eq_false_iff_not, List.all_eq_true]
  exact ⟨by omega, fun x hx => inR_iff.2 (by have := this.2 x hx; omega)⟩
theorem cyc_GR {n : Nat} (hn : 1 ≤ n) (both : Bool) : GR n 2 (cycP n both) := by
  have key : ∀ p, GR n 2 (cycL' n both p) := by
    intro p
    induction p with
    | zero => exact GR.nil _ _
    | succ p ih =>
      rw [cycL']
      refine ih.snoc ?_ ?_
      · unfold cycR; split <;> simp
      · intro x hx
        unfold cycR at hx
        rcases List.mem_append.1 hx with a | a
        · simp only [List.mem_cons, List.not_mem_nil, or_false] at a
          rw [a]; exact ⟨Int.tmod_nonneg _ (by omega), Int.tmod_lt_of_pos _ (by omega)⟩
        · split at a
          · simp only [List.mem_cons, List.not_mem_nil, or_false] at a
            rw [a]; exact ⟨Int.tmod_nonneg _ (by omega), Int.tmod_lt_of_pos _ (by omega)⟩
          · cases a
  exact key n

theorem k_sureGraph {a n b : Nat} {h : Heap} {c : Sl} {i sd : Int} (V : IsVar h b [c.v, VI i, .int .u64 sd]) (hb : a ≤ b) (D : CurD a n h c i) (hn : n ≤ 1000000000) {most : Int} (hm1 : 1 ≤ most) (hm2 : most ≤ 8) (K : Value → Heap → Prop) (HK : ∀ (t : Sl) (xss : List (List Int)) (i' sd' : Int) h', OwX h' (Iv h.size h'.size) t xss → GR xss.length 4 xss → 1 ≤ xss.length → (xss.length : Int) ≤ most → IsVar h' b [c.v, VI i', .int .u64 sd'] → CurD a (n + 100) h' c i' → Fr (In [b]) h h' → K (.agg #[t.v]) h') : callM Try.prog 163 #[VP b 0, VI most] h K := by
  have lb := V.lt
  refine v163 b c i sd most h K (.cons V (by simp) .nil) fun b2 h1 hb2 f1 hL1 => ?_
  have f1 := f1.in_nil
  have z1 := f1.size
  have l2 : b2 < h1.size := hL1.head.lt
  have fin : ∀ (h' : Heap), Fr (fun k => k = b ∨ h.size ≤ k) h h' → Fr (In [b]) h h' := fun h' f => f.mono fun k hk hk2 => by
    rcases hk2 with e | e
    · simp [In, e]
    · omega
  have inb : ∀ {x y : Heap}, Fr (In [b]) x y → Fr (fun k => k = b ∨ h.size ≤ k) x y := fun f => f.mono fun k _ hk => .inl (by simpa [In] using hk)
  refine k_pick hL1.tail.head hb (D.no f1) (by omega) most _ fun r i2 sd2 h2 r0 r1 V2 D2 f2 => ⟨c, i2, sd2, r, rfl, vcur hL1 1 rfl f2 V2, ?_⟩
  have hr := r1 hm1
  rw [w64_eq (1 + r) (by omega) (by omega)]
  have hL2 := vcur hL1 1 rfl f2 V2
  refine k_one V2 hb D2 (by omega) _ _ fun q i3 sd3 h3 V3 D3 f3 => ⟨c, i3, sd3, q, rfl, vcur hL2 1 rfl f3 V3, fun eq => ?_, fun eq => ?_⟩
  · have hL3 := vcur hL2 1 rfl f3 V3
    refine k_one V3 hb D3 (by omega) _ _ fun q4 i4 sd4 h4 V4 D4 f4 => ⟨c, i4, sd4, q4, rfl, vcur hL3 1 rfl f4 V4, ?_⟩
    have hL4 := vcur hL3 1 rfl f4 V4
    have en : (1 + r) = (((1 + r).toNat : Nat) : Int) := by omega
    rw [en]
    refine k_grCycle (1 + r).toNat (by omega) q4 _ fun t h5 o5 f5 => ⟨t, rfl, hL4.of_no f5, fun h6 f6 hL6 => ?_⟩
    have z2 := f2.size
    have z3 := f3.size
    have z4 := f4.size
    have z5 := f5.size
    have o6 : OwX h6 (Iv h4.size h5.size) t (cycP (1 + r).toNat q4) := OwR.fr o5 f6 fun k hk hk2 hk3 => by simp [In] at hk3; have := hk2.1; omega
    have z6 := f6.size
    have hl : (cycP (1 + r).toNat q4).length = (1 + r).toNat := cycL_length _ _ _
    refine HK t _ i4 sd4 h6 (OwR.ivs o6 (by omega) z6) ?_ (by omega) (by omega) hL6.tail.head ?_ (fin h6 ?_)
    · rw [hl]; exact (cyc_GR (by omega) q4).up (by omega)
    · exact (((D4.no f5).fr f6 fun k hk hk2 => by simp [In] at hk2; omega)).up (by omega)
    · exact ((((f1.of_no.trans (inb f2)).trans (inb f3)).trans (inb f4)).trans f5.of_no).trans (f6.mono fun k _ hk => .inr (by simp [In] at hk; omega))
  · intro b3 h8 hb3 f8 hL8
    have f8 := f8.in_nil
    have z2 := f2.size
    have z3 := f3.size
    have z8 := f8.size
    have l3 : b3 < h8.size := hL8.head.lt
    have f08 : Fr (fun k => k = b ∨ h.size ≤ k) h h8 := ((f1.of_no.trans (inb f2)).trans (inb f3)).trans f8.of_no
    refine ⟨fun m p x d i' sd' h' => 0 ≤ p ∧ p + m = 1 + r ∧ d = c ∧ CurD a (n + 4 + 10 * p.toNat) h' c i' ∧ (∃ rows, OwX h' (fun k => h8.size ≤ k) x rows ∧ GR (1 + r) 3 rows ∧ rows.length = p.toNat) ∧ Fr (fun k => k = b ∨ h.size ≤ k) h h' ∧ h8.size ≤ h'.size, ⟨(1 + r).toNat, by omega, by omega, rfl, (D3.no f8).up (by omega), ⟨[], OwR.nil _ _ _ _, GR.nil _ _, rfl⟩, f08, Nat.le_refl _⟩, ?_⟩
    rintro m p x d i9 sd9 h9 ⟨p0, p1, rfl, D9, ⟨rows, o9, g9, e9⟩, f9, z9⟩ hL9
    have hoff : ∀ (A B C : List Value) (q : Nat × List Value), q ∈ [(b3, A), (b2, B), (b, C)] → q.1 < h8.size := fun A B C q hq => by
      simp only [List.mem_cons, List.not_mem_nil, or_false] at hq
      rcases hq with rfl | rfl | rfl <;> simp only <;> omega
    refine ⟨fun e => ?_, fun e => ?_⟩
    · simp only [decide_eq_true_eq] at e
      refine k_pick hL9.tail.tail.head hb D9 (by omega) 3 _ fun y i10 sd10 h10 y0 y1 V10 D10 f10 => ⟨d, i10, sd10, y, rfl, vcur hL9 2 rfl f10 V10, ?_⟩
      have y1 := y1 (by omega)
      rw [w64_eq (1 + y) (by omega) (by omega)]
      have z10 := f10.size
      have o10 := OwR.fr (OwR.toIv o9) f10 fun k hk hk2 hk3 => by simp [In] at hk3; have := hk2.1; omega
      refine ⟨fun m l k d' i' sd' h' => m = k.toNat ∧ 0 ≤ k ∧ d' = d ∧ CurD a (n + 6 + 10 * p.toNat + 2 * (3 - k).toNat) h' d i' ∧ (∃ ys, OwI h' (fun k => h9.size ≤ k) l ys ∧ (∀ x, x ∈ ys → 0 ≤ x ∧ x < 1 + r) ∧ (ys.length : Int) + k ≤ 3) ∧ OwX h' (Iv h8.size h9.size) x rows ∧ Fr (fun k => k = b ∨ h.size ≤ k) h h' ∧ h9.size ≤ h'.size, ⟨(1 + y).toNat, rfl, by omega, rfl, D10.up (by omega), ⟨[], Ow.nil _ _ _ _, by simp, by simp; omega⟩, o10, f9.trans (inb f10), z10⟩, ?_⟩
      rintro m2 l k d' i11 sd11 h11 ⟨rfl, k0, rfl, D11, ⟨ys, q11, r11, e11⟩, o11, f11, z11⟩ hL11
      refine ⟨fun ek => ?_, fun ek => ?_⟩
      · simp only [decide_eq_true_eq] at ek
        refine k_pick hL11.tail.tail.head hb D11 (by omega) (1 + r) _ fun w i12 sd12 h12 w0 w1 V12 D12 f12 => ⟨d', i12, sd12, w, rfl, vcur hL11 2 rfl f12 V12, ?_⟩
        have w1 := w1 (by omega)
        have z12 := f12.size
        have q12 : OwI h12 (fun k => h9.size ≤ k) l ys := Ow.fr q11 f12 fun k hk hk3 => by have := (q11.foot hk).1; simp [In] at hk3; omega
        have hL12 := vcur hL11 2 rfl f12 V12
        refine eop_put (lo := h9.size) q12 (by omega) hL12 (fun q hq => by have := hoff _ _ _ q hq; omega) (by omega) _ fun u h14 o14 f14 V14 => ?_
        rw [w64_eq (k - 1) (by omega) (by omega)]
        have z14 := f14.size
        refine ⟨(k - 1).toNat, by omega, rfl, by omega, rfl, ?_, ⟨ys ++ [w], o14, ?_, by simp; omega⟩, ?_, ?_, by omega⟩
        · exact (D12.fr f14 fun k hk hk2 => by omega).up (by omega)
        · intro v hv
          rcases List.mem_append.1 hv with a | a
          · exact r11 v a
          · simp only [List.mem_cons, List.not_mem_nil, or_false] at a; omega
        · refine OwR.fr (OwR.fr o11 f12 fun k hk hk2 hk3 => by simp [In] at hk3; have := hk2.1; omega) f14 fun k hk hk2 hk3 => by have := hk2.2; omega
        · exact (f11.trans (inb f12)).trans (f14.mono fun k _ hk => .inr (by have := f9.size; omega))
      · simp only [decide_eq_false_iff_not] at ek
        have ek0 : k = 0 := by omega
        subst ek0
        refine ⟨fun y2 d2 i2' sd2' h' => d2 = d' ∧ (∃ zs, OwI h' (fun k => h9.size ≤ k) y2 zs ∧ (∀ x, x ∈ zs → 0 ≤ x ∧ x < 1 + r) ∧ zs.length ≤ 3) ∧ OwX h' (Iv h8.size h9.size) x rows ∧ CurD a (n + 14 + 10 * p.toNat) h' d' i2' ∧ Fr (fun k => k = b ∨ h.size ≤ k) h h' ∧ h9.size ≤ h'.size, ?_, ?_⟩
        · refine k_one hL11.tail.tail.head hb D11 (by omega) 8 _ fun q15 i15 sd15 h15 V15 D15 f15 => ⟨d', i15, sd15, q15, rfl, vcur hL11 2 rfl f15 V15, fun _ => ?_, fun _ => ?_⟩
          · exact ⟨rfl, ⟨[], Ow.nil _ _ _ _, by simp, by simp⟩, OwR.fr o11 f15 fun k hk hk2 hk3 => by simp [In] at hk3; have := hk2.1; omega, D15.up (by omega), f11.trans (inb f15), by have := f15.size; omega⟩
          · exact ⟨rfl, ⟨ys, Ow.fr q11 f15 fun k hk hk3 => by have := (q11.foot hk).1; simp [In] at hk3; omega, r11, by omega⟩, OwR.fr o11 f15 fun k hk hk2 hk3 => by simp [In] at hk3; have := hk2.1; omega, D15.up (by omega), f11.trans (inb f15), by have := f15.size; omega⟩
        rintro y2 d2 i16 sd16 h16 ⟨rfl, ⟨zs, q16, r16, e16⟩, o16, D16, f16, z16⟩ hL16
        refine eop_putR (lo := h8.size) (m := h9.size) o16 q16 z9 z16 hL16 (fun q hq => hoff _ _ _ q hq) (by omega) _ fun u h18 o18 f18 V18 h19 f19 hL19 => ?_
        rw [w64_eq (p + 1) (by omega) (by omega)]
        have z18 := f18.size
        have z19 := f19.size
        refine ⟨m - 1, by omega, by omega, by omega, rfl, ?_, ⟨rows ++ [zs], OwR.fr o18 f19 fun k hk hk2 hk3 => by simp [In] at hk3; omega, g9.snoc e16 r16, by simp; omega⟩, ?_, by omega⟩
        · exact ((D16.fr f18 fun k hk hk2 => by omega).fr f19 fun k hk hk2 => by simp [In] at hk2; omega).up (by omega)
        · exact (f16.trans (f18.mono fun k _ hk => .inr (by omega))).trans (f19.mono fun k _ hk => .inr (by simp [In] at hk; omega))
    · simp only [decide_eq_false_iff_not] at e
      have hrl : (rows.length : Int) = 1 + r := by omega
      refine k_one hL9.tail.tail.head hb D9 (by omega) 2 _ fun q20 i20 sd20 h20 V20 D20 f20 => ⟨d, i20, sd20, q20, rfl, vcur hL9 2 rfl f20 V20, fun _ => ?_, fun _ => ?_⟩
      · have z20 := f20.size
        have o20 : OwX h20 (fun k => h8.size ≤ k) x rows := OwR.fr o9 f20 fun k hk hk2 hk3 => by simp [In] at hk3; omega
        have hL20 := vcur hL9 2 rfl f20 V20
        refine ⟨fun m2 j h' => 0 ≤ j ∧ j + m2 = 1 + r ∧ CurD a (n + 100) h' d i20 ∧ (∃ rs, OwX h' (fun k => h8.size ≤ k) x rs ∧ GR (1 + r) 4 rs ∧ (rs.length : Int) = 1 + r ∧ ∀ k (hk : k < rs.length), j ≤ (k : Int) → rs[k].length ≤ 3) ∧ Fr (fun k => k = b ∨ h.size ≤ k) h h' ∧ h8.size ≤ h'.size, ⟨(1 + r).toNat, by omega, by omega, D20.up (by omega), ⟨rows, o20, g9.up (by omega), hrl, fun k hk _ => (g9 _ (List.getElem_mem hk)).1⟩, f9.trans (inb f20), by omega⟩, ?_⟩
        rintro m2 j h21 ⟨j0, j1, D21, ⟨rs, o21, g21, e21, s21⟩, f21, z21⟩ hL21
        have hxn : (x.n : Int) = 1 + r := by have := OwR.len o21; omega
        refine ⟨fun ej => ?_, fun ej => ?_⟩
        · simp only [decide_eq_true_eq] at ej
          have hj : j < (rs.length : Int) := by omega
          have hsj := s21 j.toNat (by omega) (by omega)
          obtain ⟨si, c1, c2⟩ := row_put o21 z21 j0 hj hL21 (fun q hq => hoff _ _ _ q hq) (by omega) ((w64 (j + 1)).tmod (1 + r))
          refine ⟨(OwR.rd o21).inb j0 hj, si, c1, by omega, c2 _ fun h24 o24 f24 V24 => ?_⟩
          rw [w64_eq (j + 1) (by omega) (by omega)] at o24 ⊢
          refine ⟨m2 - 1, by omega, by omega, by omega, D21.fr f24 fun k hk hk2 => by omega, ⟨_, o24, g21.set _ (by simp; omega) ?_, by simp; omega, fun k hk hk2 => ?_⟩, f21.trans (f24.mono fun k _ hk => .inr (by omega)), by have := f24.size; omega⟩
          · intro v hv
            rcases List.mem_append.1 hv with a | a
            · exact (g21 _ (List.getElem_mem _)).2 v a
            · simp only [List.mem_cons, List.not_mem_nil, or_false] at a
              rw [a]; exact ⟨Int.tmod_nonneg _ (by omega), Int.tmod_lt_of_pos _ (by omega)⟩
          · rw [List.getElem_set, if_neg (by omega)]
            exact s21 k (by simpa using hk) (by omega)
        · intro h25 f25 hL25
          have o25 : OwX h25 (fun k => h8.size ≤ k) x rs := OwR.fr o21 f25 fun k hk hk2 hk3 => by simp [In] at hk3; omega
          refine HK x rs i20 sd20 h25 (OwR.ivs (OwR.toIv o25) (by omega) (Nat.le_refl _)) (by rw [e21]; exact g21) (by omega) (by omega) hL25.tail.tail.head (D21.fr f25 fun k hk hk2 => by simp [In] at hk2; omega) (fin _ (f21.trans (f25.mono fun k _ hk => .inr (by simp [In] at hk; omega))))
      · intro h26 f26 hL26
        have z20 := f20.size
        have o26 : OwX h26 (fun k => h8.size ≤ k) x rows := OwR.fr (OwR.fr o9 f20 fun k hk hk2 hk3 => by simp [In] at hk3; omega) f26 fun k hk hk2 hk3 => by simp [In] at hk3; omega
        refine HK x rows i20 sd20 h26 (OwR.ivs (OwR.toIv o26) (by omega) (Nat.le_refl _)) (by rw [hrl]; exact g9.up (by omega)) (by omega) (by omega) hL26.tail.tail.head ((D20.fr f26 fun k hk hk2 => by simp [In] at hk2; omega).up (by omega)) (fin _ ((f9.trans (inb f20)).trans (f26.mono fun k _ hk => .inr (by simp [In] at hk; omega))))

theorem row_set {L : List (Nat × List Value)} {F : Nat → Prop} {m : Nat} {h : Heap} {s x : Sl} {xss : List (List Int)} {ys : List Int} {i : Int} (O : OwX h (fun k => F k ∧ k < m) s xss) (X : OwI h (fun k => m ≤ k) x ys) (hF : ∀ k, m ≤ k → F k) (h0 : 0 ≤ i) (h1 : i < (xss.length : Int)) (hL : Vars h L) (hoff : ∀ p, p ∈ L → ¬ F p.1) (R : Heap → Prop) (HR : ∀ h', OwX h' F s (xss.set i.toNat ys) → Fr F h h' → Vars h' L → R h') : InB s i ∧ Writable h (s.at i 1) ∧ Vars (hset h (s.at i 1) x.v) L ∧ ∀ h3, h3 = hset h (s.at i 1) x.v → Vars h3 L → R h3 := by
  obtain ⟨si, c1, c2, _⟩ := O.inner h0 h1
  obtain ⟨i11, w11, o11, f11⟩ := O.outer2 h0 h1 c1 (Fr.refl _ _) (F' := F) (X.mono fun k _ hk => hF k hk) (fun k _ hk => hk.1) fun k hk => .inr fun hk2 => by have := (X.foot hk).1; have := hk2.2; omega
  have g11 : Fr F h _ := (O.ownF f11).mono fun k _ hk => hk.1
  have V11 := hL.fr g11 hoff
  exact ⟨i11, w11, V11, fun h3 e3 V3 => HR h3 (by rw [e3]; exact o11) (by rw [e3]; exact g11) V3⟩

theorem k_sureWalk {a n b : Nat} {h : Heap} {c : Sl} {i sd : Int} (V : IsVar h b [c.v, VI i, .int .u64 sd]) (hb : a ≤ b) (D : CurD a n h c i) (hn : n ≤ 1000000000) {S : Nat → Prop} {g : Sl} {xss : List (List Int)} (G : RdR S h g xss) (hS : ¬ S b) (hl : xss.length ≤ 1000) (K : Value → Heap → Prop) (HK : ∀ (t : Sl) (rs : List Int) (p i' sd' : Int) h', OwI h' (Iv h.size h'.size) t rs → rs.length = xss.length → IsVar h' b [c.v, VI i', .int .u64 sd'] → CurD a (n + 2 + 2 * xss.length) h' c i' → Fr (In [b]) h h' → K (.agg #[t.v, VI p]) h') : callM Try.prog 157 #[VP b 0, .agg #[g.v]] h K := by
  have lb := V.lt
  refine v157 b c i sd g h K (.cons V (by simp) .nil) fun b2 b3 h2 hb2 hb3 f2 hL2 => ?_
  have f2 := f2.in_nil
  have z2 := f2.size
  have l3 : b3 < h2.size := hL2.head.lt
  have l2 : b2 < h2.size := hL2.tail.head.lt
  have fin : ∀ (h' : Heap), Fr (fun k => k = b ∨ h.size ≤ k) h h' → Fr (In [b]) h h' := fun h' f => f.mono fun k hk hk2 => by
    rcases hk2 with e | e
    · simp [In, e]
    · omega
  have inb : ∀ {x y : Heap}, Fr (In [b]) x y → Fr (fun k => k = b ∨ h.size ≤ k) x y := fun f => f.mono fun k _ hk => .inl (by simpa [In] using hk)
  have G0 : RdR (fun k => S k ∧ k < h.size) h g xss := G.lowS
  have gT : ∀ k, (S k ∧ k < h.size) → ¬ (k = b ∨ h.size ≤ k) := fun k hk hk2 => by
    rcases hk2 with e | e
    · subst e; exact hS hk.1
    · omega
  refine k_pick hL2.tail.tail.head hb (D.no f2) (by omega) _ _ fun r i3 sd3 h3 r0 r1 V3 D3 f3 => ⟨c, i3, sd3, r, rfl, vcur hL2 2 rfl f3 V3, fun b4 h5 hb4 f5 hL5 => ?_⟩
  have f5 := f5.in_nil
  have z3 := f3.size
  have z5 := f5.size
  have l4 : b4 < h5.size := hL5.head.lt
  have gn := G.len
  refine ⟨fun m p x y d i' sd' h' => 0 ≤ p ∧ p + m = (xss.length : Int) ∧ y = r ∧ d = c ∧ CurD a (n + 2 + 2 * p.toNat) h' c i' ∧ (∃ rs, OwI h' (fun k => h5.size ≤ k) x rs ∧ rs.length = p.toNat) ∧ Fr (fun k => k = b ∨ h.size ≤ k) h h' ∧ h5.size ≤ h'.size, ⟨xss.length, by omega, by omega, rfl, rfl, (D3.no f5).up (by omega), ⟨[], Ow.nil _ _ _ _, rfl⟩, (f2.of_no.trans (inb f3)).trans f5.of_no, Nat.le_refl _⟩, ?_⟩
  rintro m p x y d i6 sd6 h6 ⟨p0, p1, rfl, rfl, D6, ⟨rs, o6, e6⟩, f6, z6⟩ hL6
  have G6 := G0.fr f6 gT
  refine ⟨fun e => ?_, fun e => ?_⟩
  · simp only [decide_eq_true_eq] at e
    obtain ⟨si, c1, r6⟩ := G6.get p0 (by omega)
    refine ⟨G6.inb p0 (by omega), si, c1, fun w d2 i' sd' h' => d2 = d ∧ CurD a (n + 2 + 2 * p.toNat + 2) h' d i' ∧ OwI h' (fun k => h5.size ≤ k) x rs ∧ Fr (fun k => k = b ∨ h.size ≤ k) h h' ∧ h5.size ≤ h'.size, ⟨fun _ => ?_, fun _ => ⟨rfl, D6.up (by omega), o6, f6, z6⟩⟩, ?_⟩
    · refine k_pick hL6.tail.tail.tail.head hb D6 (by omega) _ _ fun w i7 sd7 h7 w0 w1 V7 D7 f7 => ⟨d, i7, sd7, w, rfl, vcur hL6 3 rfl f7 V7, rfl, D7, Ow.fr o6 f7 fun k hk hk3 => by have := (o6.foot hk).1; simp [In] at hk3; omega, f6.trans (inb f7), by have := f7.size; omega⟩
    rintro w d2 i8 sd8 h8 ⟨rfl, D8, o8, f8, z8⟩ hL8
    refine eop_put (lo := h5.size) o8 z8 hL8 (fun q hq => by
      simp only [List.mem_cons, List.not_mem_nil, or_false] at hq
      rcases hq with rfl | rfl | rfl | rfl <;> simp only <;> omega) (by omega) _ fun u h10 o10 f10 V10 h11 f11 hL11 => ?_
    rw [w64_eq (p + 1) (by omega) (by omega)]
    have z10 := f10.size
    have z11 := f11.size
    refine ⟨m - 1, by omega, by omega, by omega, rfl, rfl, ?_, ⟨rs ++ [w], Ow.fr o10 f11 fun k hk hk3 => by have := (o10.foot hk).1; simp [In] at hk3; omega, by simp; omega⟩, ?_, by omega⟩
    · exact ((D8.fr f10 fun k hk hk2 => by omega).fr f11 fun k hk hk2 => by simp [In] at hk2; omega).up (by omega)
    · exact (f8.trans (f10.mono fun k _ hk => .inr (by omega))).trans (f11.mono fun k _ hk => .inr (by simp [In] at hk; omega))
  · simp only [decide_eq_false_iff_not] at e
    intro h12 f12 hL12
    have o12 : OwI h12 (fun k => h5.size ≤ k) x rs := Ow.fr o6 f12 fun k hk hk3 => by have := (o6.foot hk).1; simp [In] at hk3; omega
    refine HK x rs y i6 sd6 h12 (Ow.ivs (Ow.toIv o12) (by omega) (Nat.le_refl _)) (by omega) hL12.tail.tail.tail.head ?_ (fin _ (f6.trans (f12.mono fun k _ hk => .inr (by simp [In] at hk; omega))))
    exact (D6.fr f12 fun k hk hk2 => by simp [In] at hk2; omega).up (by omega)

theorem k_sunk {a n b : Nat} {h : Heap} {c : Sl} {i sd : Int} (V : IsVar h b [c.v, VI i, .int .u64 sd]) (hb : a ≤ b) (D : CurD a n h c i) (hn : n ≤ 100000000) (K : Value → Heap → Prop) (HK : ∀ (t : Sl) (xss : List (List Int)) (p i' sd' : Int) h', RdR (fun k => h.size ≤ k) h' t xss → graphB xss = true → 0 ≤ p → p < (xss.length : Int) → IsVar h' b [c.v, VI i', .int .u64 sd'] → CurD a (n + 200) h' c i' → Fr (In [b]) h h' → K (.tuple #[.agg #[t.v], VI p]) h') : callM Try.prog 156 #[VP b 0] h K := by
  have lb := V.lt
  refine v156 b c i sd h K (.cons V (by simp) .nil) fun b2 h1 hb2 f1 hL1 => ?_
  have f1 := f1.in_nil
  have z1 := f1.size
  have l2 : b2 < h1.size := hL1.head.lt
  have fin : ∀ (h' : Heap), Fr (fun k => k = b ∨ h.size ≤ k) h h' → Fr (In [b]) h h' := fun h' f => f.mono fun k hk hk2 => by
    rcases hk2 with e | e
    · simp [In, e]
    · omega
  have inb : ∀ {x y : Heap}, Fr (In [b]) x y → Fr (fun k => k = b ∨ h.size ≤ k) x y := fun f => f.mono fun k _ hk => .inl (by simpa [In] using hk)
  refine k_sureGraph hL1.tail.head hb (D.no f1) (by omega) (most := 5) (by omega) (by omega) _ fun t xss i2 sd2 h2 o2 g2 n1 n2 V2 D2 f2 => ⟨c, i2, sd2, t, rfl, vcur hL1 1 rfl f2 V2, fun b3 h4 hb3 f4 hL4 => ?_⟩
  have f4 := f4.in_nil
  have z2 := f2.size
  have z4 := f4.size
  have l3 : b3 < h4.size := hL4.head.lt
  have tn := OwR.len o2
  refine k_pick hL4.tail.tail.head hb (D2.no f4) (by omega) _ _ fun s i5 sd5 h5 s0 s1 V5 D5 f5 => ⟨c, i5, sd5, s, rfl, vcur hL4 2 rfl f5 V5, ?_⟩
  have s1 := s1 (by omega)
  have z5 := f5.size
  generalize hF : (fun k => (h1.size ≤ k ∧ k < h2.size) ∨ h4.size ≤ k) = F
  have F1 : ∀ k, F k → h1.size ≤ k := fun k hk => by rw [← hF] at hk; rcases hk with a | a <;> omega
  have F2 : ∀ k, h4.size ≤ k → F k := fun k hk => by rw [← hF]; exact .inr hk
  have F3 : ¬ F b3 := fun hk => by rw [← hF] at hk; rcases hk with a | a <;> omega
  have o5 : OwX h5 F t xss := (OwR.fr (OwR.no o2 f4) f5 fun k hk hk2 hk3 => by simp [In] at hk3; have := hk2.1; omega).mono fun k hk hk2 => by rw [← hF]; exact .inl hk2
  have f05 : Fr (fun k => k = b ∨ h.size ≤ k) h h5 := ((f1.of_no.trans (inb f2)).trans f4.of_no).trans (inb f5)
  refine ⟨fun m p d i' sd' h' => 0 ≤ p ∧ p + m = (xss.length : Int) ∧ d = c ∧ CurD a (n + 102 + 2 * p.toNat) h' c i' ∧ (∃ rs, OwX h' F t rs ∧ GR xss.length 5 rs ∧ rs.length = xss.length) ∧ Fr (fun k => k = b ∨ h.size ≤ k) h h' ∧ h4.size ≤ h'.size, ⟨xss.length, by omega, by omega, rfl, D5.up (by omega), ⟨xss, o5, g2.up (by omega), rfl⟩, f05, by omega⟩, ?_⟩
  rintro m p d i6 sd6 h6 ⟨p0, p1, rfl, D6, ⟨rs, o6, g6, e6⟩, f6, z6⟩ hL6
  have hoff : ∀ (A B C : List Value) (q : Nat × List Value), q ∈ [(b3, A), (b2, B), (b, C)] → ¬ F q.1 := fun A B C q hq => by
    simp only [List.mem_cons, List.not_mem_nil, or_false] at hq
    rcases hq with rfl | rfl | rfl
    · exact F3
    · exact fun hk => by have := F1 _ hk; omega
    · exact fun hk => by have := F1 _ hk; omega
  have hgr : graphB rs = true := GR.graph (q := 5) (by rw [e6]; exact g6) (Nat.le_refl _) (by omega) (by omega)
  refine ⟨fun e => ?_, fun e => ?_⟩
  · simp only [decide_eq_true_eq] at e
    have hp : p < (rs.length : Int) := by omega
    have next : ∀ (d7 i7 sd7 : Int) (h7 : Heap), CurD a (n + 102 + 2 * p.toNat + 2) h7 d i7 → (∃ rs', OwX h7 F t rs' ∧ GR xss.length 5 rs' ∧ rs'.length = xss.length) → Fr (fun k => k = b ∨ h.size ≤ k) h h7 → h4.size ≤ h7.size → ∃ m' : Nat, m' < m ∧ (0 ≤ w64 (p + 1) ∧ w64 (p + 1) + m' = (xss.length : Int) ∧ d = d ∧ CurD a (n + 102 + 2 * (w64 (p + 1)).toNat) h7 d i7 ∧ (∃ rs, OwX h7 F t rs ∧ GR xss.length 5 rs ∧ rs.length = xss.length) ∧ Fr (fun k => k = b ∨ h.size ≤ k) h h7 ∧ h4.size ≤ h7.size) := fun d7 i7 sd7 h7 a1 a2 a3 a4 => by
      rw [w64_eq (p + 1) (by omega) (by omega)]
      exact ⟨m - 1, by omega, by omega, by omega, rfl, a1.up (by omega), a2, a3, a4⟩
    refine k_grFar (OwR.rd o6) hgr p0 hp _ fun u h7 o7 _ f7 => ⟨u, rfl, hL6.of_no f7, fun _ => ⟨fun _ => ?_, fun _ => next 0 i6 sd6 h7 ((D6.no f7).up (by omega)) ⟨rs, OwR.no o6 f7, g6, e6⟩ (f6.trans f7.of_no) (by have := f7.size; omega)⟩, fun _ => next 0 i6 sd6 h7 ((D6.no f7).up (by omega)) ⟨rs, OwR.no o6 f7, g6, e6⟩ (f6.trans f7.of_no) (by have := f7.size; omega)⟩
    have z7 := f7.size
    have o7' := OwR.no o6 f7
    have hL7 := hL6.of_no f7
    refine k_grFar (OwR.rd o7') hgr p0 hp _ fun v h8 o8 fl f8 => ⟨v, rfl, hL7.of_no f8, ?_⟩
    have z8 := f8.size
    have o8' := OwR.no o7' f8
    have hL8 := hL7.of_no f8
    have r8 := Ow.rdI o8
    refine ⟨r8.inb s0 (by omega), _, r8.get s0 (by omega), fun _ => ?_, fun _ => next 0 i6 sd6 h8 (((D6.no f7).no f8).up (by omega)) ⟨rs, o8', g6, e6⟩ ((f6.trans f7.of_no).trans f8.of_no) (by omega)⟩
    refine k_one hL8.tail.tail.head hb ((D6.no f7).no f8) (by omega) 12 _ fun q9 i9 sd9 h9 V9 D9 f9 => ⟨d, i9, sd9, q9, rfl, vcur hL8 2 rfl f9 V9, fun _ => ?_, fun _ => ?_⟩
    rotate_left
    · exact next 0 i9 sd9 h9 (D9.up (by omega)) ⟨rs, OwR.fr o8' f9 fun k hk hk2 hk3 => by simp [In] at hk3; have := F1 _ hk2; omega, g6, e6⟩ (((f6.trans f7.of_no).trans f8.of_no).trans (inb f9)) (by have := f9.size; omega)
    have z9 := f9.size
    have hL9 : Vars h9 [(b3, [t.v]), (b2, [nilSl.v]), (b, [d.v, VI i9, .int .u64 sd9])] := vcur hL8 2 rfl f9 V9
    have o9 : OwX h9 F t rs := OwR.fr o8' f9 fun k hk hk2 hk3 => by simp [In] at hk3; have := F1 _ hk2; omega
    have f09 : Fr (fun k => k = b ∨ h.size ≤ k) h h9 := ((f6.trans f7.of_no).trans f8.of_no).trans (inb f9)
    have fT : ∀ {x y : Heap}, Fr F x y → Fr (fun k => k = b ∨ h.size ≤ k) x y := fun f => f.mono fun k _ hk => .inr (by have := F1 _ hk; omega)
    have o9i : OwX h9 (fun k => F k ∧ k < h9.size) t rs := o9.mono fun k hk hk2 => ⟨hk2, hk⟩
    obtain ⟨si, c1, c2, _⟩ := o9i.inner p0 hp
    have grow := g6 _ (List.getElem_mem (show p.toNat < rs.length by omega))
    have cn := c2.rd.len
    simp only [List.length_map, Nat.mul_one] at cn
    have hi9 := (OwR.rd o9).inb p0 hp
    have cR : RdI (fun k => F k ∧ k < h9.size) h9 si (rs[p.toNat]'(by omega)) := Ow.rdF c2
    refine ⟨hi9, si, c1, fun el => ?_, fun el => ?_⟩
    · simp only [decide_eq_true_eq] at el
      refine ⟨hi9, si, c1, ?_, ?_⟩
      · refine k_l1Own cR (by omega) _ fun w h10 o10 f10 => ⟨w, rfl, hL9.of_no f10, ?_⟩
        have z10 := f10.size
        refine eop_put (lo := h9.size) (o10.mono fun k _ hk => hk.1) z10 (hL9.of_no f10) (fun q hq => by
          simp only [List.mem_cons, List.not_mem_nil, or_false] at hq
          rcases hq with rfl | rfl | rfl <;> simp only <;> omega) (by omega) _ fun y h12 o12 f12 V12 => ?_
        have z12 := f12.size
        have o12x : OwX h12 (fun k => F k ∧ k < h9.size) t rs := OwR.fr (OwR.no o9i f10) f12 fun k hk hk2 hk3 => by have := hk2.2; omega
        refine row_set (m := h9.size) o12x o12 (fun k hk => F2 k (by omega)) p0 hp V12 (fun q hq => hoff _ _ _ q hq) _ fun h13 o13 f13 V13 => ?_
        refine next 0 i9 sd9 h13 ?_ ⟨_, o13, g6.set _ (by simp; omega) ?_, by simp [e6]⟩ (((f09.trans f10.of_no).trans (f12.mono fun k _ hk => .inr (by omega))).trans (fT f13)) (by have := f13.size; omega)
        · exact (((D9.no f10).fr f12 fun k hk hk2 => by omega).fr f13 fun k hk hk2 => by have := F1 _ hk2; omega).up (by omega)
        · intro v hv
          rcases List.mem_append.1 hv with a | a
          · exact grow.2 v a
          · simp only [List.mem_cons, List.not_mem_nil, or_false] at a; omega
      · refine eop_lit rIs (fun k => h9.size ≤ k) (fun _ h => h) 1 (by omega) [VI s] rfl rfl fun w h10 n10 c10 o10 f10 m10 _ => ⟨w, rfl, hL9.of_no f10, hcell_fr c1 f10 (fun h => h), ?_⟩
        have z10 := f10.size
        refine k_l1Own (cR.no f10) (by omega) _ fun y h11 o11 f11 => ⟨y, rfl, (hL9.of_no f10).of_no f11, ?_⟩
        have z11 := f11.size
        have yn := o11.rd.len
        have wn := o10.rd.len
        (try simp only [List.length_map, Nat.mul_one, List.length_cons, List.length_nil] at yn)
        (try simp only [List.length_map, Nat.mul_one, List.length_cons, List.length_nil] at wn)
        have o11' : OwI h11 (fun k => h10.size ≤ k) y (rs[p.toNat]'(by omega)) := o11.mono fun k _ hk => hk.1
        refine eop_append rIs o11' (fun k hk => by omega) (o10.rd.no f11) (plainVI [s]) (by omega) fun y2 h12 n12 o12 f12 d12 => ?_
        have g12 : Fr (fun k => h9.size ≤ k) h11 h12 := f12.mono fun k _ hk => by have := (o11'.foot hk).1; omega
        have V12 := ((hL9.of_no f10).of_no f11).fr g12 fun q hq hk => by
          simp only [List.mem_cons, List.not_mem_nil, or_false] at hq
          rcases hq with rfl | rfl | rfl <;> simp only at hk <;> omega
        have z12 := f12.size
        have o12' : OwI h12 (fun k => h9.size ≤ k) y2 (rs[p.toNat]'(by omega) ++ [s]) := by rw [OwI, List.map_append]; exact o12.mono fun k _ hk => by omega
        have o12x : OwX h12 (fun k => F k ∧ k < h9.size) t rs := OwR.fr (OwR.no (OwR.no o9i f10) f11) g12 fun k hk hk2 hk3 => by have := hk2.2; omega
        refine ⟨y2, rfl, V12, row_set (m := h9.size) o12x o12' (fun k hk => F2 k (by omega)) p0 hp V12 (fun q hq => hoff _ _ _ q hq) _ fun h13 o13 f13 V13 => ?_⟩
        refine next 0 i9 sd9 h13 ?_ ⟨_, o13, g6.set _ (by simp; omega) ?_, by simp [e6]⟩ ((((f09.trans f10.of_no).trans f11.of_no).trans (g12.mono fun k _ hk => .inr (by omega))).trans (fT f13)) (by have := f13.size; omega)
        · exact ((((D9.no f10).no f11).fr g12 fun k hk hk2 => by omega).fr f13 fun k hk hk2 => by have := F1 _ hk2; omega).up (by omega)
        · intro v hv
          rcases List.mem_append.1 hv with a | a
          · exact grow.2 v a
          · simp only [List.mem_cons, List.not_mem_nil, or_false] at a; omega
    · simp only [decide_eq_false_iff_not] at el
      refine ⟨hi9, si, c1, pop_cut_l rIs .i64 (by omega) (by omega) ⟨_, rfl, ?_⟩⟩
      refine eop_lit rIs (fun k => h9.size ≤ k) (fun _ h => h) 1 (by omega) [VI s] rfl rfl fun w h10 n10 c10 o10 f10 m10 _ => ⟨w, rfl, hL9.of_no f10, hcell_fr c1 f10 (fun h => h), ?_⟩
      have z10 := f10.size
      have wn := o10.rd.len
      simp only [Nat.mul_one, List.length_cons, List.length_nil] at wn
      have cC : RdI (fun k => F k ∧ k < h9.size) h9 (si.cut 1 (1 : Int).toNat si.n si.c) (((rs[p.toNat]'(by omega)).drop 1).take (si.n - 1)) := RdI.cut cR (l := 1) (by omega) (by omega)
      have cCn := (RdI.no cC f10).len
      simp only [List.length_take, List.length_drop] at cCn
      refine eop_append rIs (Ow.no o10 (Fr.refl _ _)) (fun k hk => by omega) (RdI.no cC f10) (plainVI _) (by omega) fun y2 h12 n12 o12 f12 d12 => ?_
      have g12 : Fr (fun k => h9.size ≤ k) h10 h12 := f12.mono fun k _ hk => (o10.foot hk).1
      have V12 := (hL9.of_no f10).fr g12 fun q hq hk => by
        simp only [List.mem_cons, List.not_mem_nil, or_false] at hq
        rcases hq with rfl | rfl | rfl <;> simp only at hk <;> omega
      have z12 := f12.size
      have o12' : OwI h12 (fun k => h9.size ≤ k) y2 ([s] ++ ((rs[p.toNat]'(by omega)).drop 1).take (si.n - 1)) := by rw [OwI, List.map_append]; exact o12
      have o12x : OwX h12 (fun k => F k ∧ k < h9.size) t rs := OwR.fr (OwR.no o9i f10) g12 fun k hk hk2 hk3 => by have := hk2.2; omega
      refine ⟨y2, rfl, V12, hcell_fr (hcell_fr c1 f10 fun h => h) f12 (fun hk => ?_), row_set (m := h9.size) o12x o12' (fun k hk => F2 k (by omega)) p0 hp V12 (fun q hq => hoff _ _ _ q hq) _ fun h13 o13 f13 V13 => ?_⟩
      · have h1 := (o10.foot hk).1
        have h2 := hcell_lt c1
        omega
      · refine next 0 i9 sd9 h13 ?_ ⟨_, o13, g6.set _ (by simp; omega) ?_, by simp [e6]⟩ (((f09.trans f10.of_no).trans (g12.mono fun k _ hk => .inr (by omega))).trans (fT f13)) (by have := f13.size; omega)
        · exact (((D9.no f10).fr g12 fun k hk hk2 => by omega).fr f13 fun k hk hk2 => by have := F1 _ hk2; omega).up (by omega)
        · intro v hv
          rcases List.mem_append.1 hv with a | a
          · simp only [List.mem_cons, List.not_mem_nil, or_false] at a; omega
          · exact grow.2 v (List.mem_of_mem_drop (List.mem_of_mem_take a))
  · simp only [decide_eq_false_iff_not] at e
    intro h21 f21 hL21
    have o21 : OwX h21 F t rs := OwR.fr o6 f21 fun k hk hk2 hk3 => by simp [In] at hk3; subst hk3; have := F1 _ hk2; omega
    exact HK t rs s i6 sd6 h21 ((OwR.rd o21).mono fun k hk => by have := F1 _ hk.1; omega) hgr s0 (by omega) hL21.tail.tail.head ((D6.fr f21 fun k hk hk2 => by simp [In] at hk2; omega).up (by omega)) (fin _ (f6.trans (f21.mono fun k _ hk => .inr (by simp [In] at hk; omega))))

theorem int_set {L : List (Nat × List Value)} {F : Nat → Prop} {h : Heap} {s : Sl} {xs : List Int} {i : Int} {v : Int} (O : OwI h F s xs) (h0 : 0 ≤ i) (h1 : i < (xs.length : Int)) (hL : Vars h L) (hoff : ∀ p, p ∈ L → ¬ F p.1) (R : Heap → Prop) (HR : ∀ h', OwI h' F s (xs.set i.toNat v) → Fr F h h' → Vars h' L → R h') : InB s i ∧ Writable h (s.at i 1) ∧ Vars (hset h (s.at i 1) (VI v)) L ∧ ∀ h3, h3 = hset h (s.at i 1) (VI v) → Vars h3 L → R h3 := by
  have on := O.rd.len
  simp only [List.length_map, Nat.mul_one] at on
  obtain ⟨w1, w2, w3⟩ := O.store1 h0 (by omega) (VI v)
  have g : Fr F h _ := w3.mono fun k _ hk => (O.foot hk).1
  have V := hL.fr g hoff
  exact ⟨O.rd.inb h0 (by simp; omega), w1, V, fun h3 e3 V3 => HR h3 (by rw [e3, OwI, List.map_set]; exact w2) (by rw [e3]; exact g) V3⟩

theorem k_drload {a n b : Nat} {h : Heap} {c : Sl} {i sd : Int} (V : IsVar h b [c.v, VI i, .int .u64 sd]) (hb : a ≤ b) (D : CurD a n h c i) (hn : n ≤ 10000000) (K : Value → Heap → Prop) (HK : ∀ (t u v : Sl) (gs : List (List Int)) (rs cs : List Int) (p i' sd' : Int) h', RdR (fun k => h.size ≤ k) h' t gs → RdI (fun k => h.size ≤ k) h' u rs → RdI (fun k => h.size ≤ k) h' v cs → gs.length ≤ 8 → IsVar h' b [c.v, VI i', .int .u64 sd'] → CurD a (n + 400) h' c i' → Fr (In [b]) h h' → K (.tuple #[.agg #[t.v], VI p, .agg #[u.v, v.v]]) h') : callM Try.prog 98 #[VP b 0] h K := by
  have lb := V.lt
  refine v98 b c i sd h K (.cons V (by simp) .nil) fun b2 b3 h2 hb2 hb3 f2 hL2 => ?_
  have f2 := f2.in_nil
  have z2 := f2.size
  have l3 : b3 < h2.size := hL2.head.lt
  have l2 : b2 < h2.size := hL2.tail.head.lt
  have fin : ∀ (h' : Heap), Fr (fun k => k = b ∨ h.size ≤ k) h h' → Fr (In [b]) h h' := fun h' f => f.mono fun k hk hk2 => by
    rcases hk2 with e | e
    · simp [In, e]
    · omega
  have inb : ∀ {x y : Heap}, Fr (In [b]) x y → Fr (fun k => k = b ∨ h.size ≤ k) x y := fun f => f.mono fun k _ hk => .inl (by simpa [In] using hk)
  refine k_sunk hL2.tail.tail.head hb (D.no f2) (by omega) _ fun t xss s i3 sd3 h3 G3 hg s0 s1 V3 D3 f3 => ⟨c, i3, sd3, t, s, rfl, vcur hL2 2 rfl f3 V3, fun b4 h5 hb4 f5 hL5 => ?_⟩
  have hgl := graph_len hg
  have f5 := f5.in_nil
  have z3 := f3.size
  have z5 := f5.size
  have l4 : b4 < h5.size := hL5.head.lt
  have G3i : RdR (Iv h2.size h3.size) h3 t xss := G3.lowS
  have G5 := G3i.no f5
  refine k_sureWalk hL5.tail.tail.tail.head hb (D3.no f5) (by omega) G5 (fun hk => by have := hk.1; omega) (by omega) _ fun u rs p6 i6 sd6 h6 o6 e6 V6 D6 f6 => ⟨c, i6, sd6, u, p6, rfl, vcur hL5 3 rfl f6 V6, fun b5 h8 hb5 f8 hL8 => ?_⟩
  have f8 := f8.in_nil
  have z6 := f6.size
  have z8 := f8.size
  have l5 : b5 < h8.size := hL8.head.lt
  have G8 : RdR (Iv h2.size h3.size) h8 t xss := (G5.fr f6 fun k hk hk2 => by simp [In] at hk2; have := hk.1; omega).no f8
  have f08 : Fr (fun k => k = b ∨ h.size ≤ k) h h8 := ((((f2.of_no.trans (inb f3)).trans f5.of_no).trans (inb f6)).trans f8.of_no)
  have tn := G5.len
  refine ⟨fun m p x y d i' sd' h' => 0 ≤ p ∧ p + m = (xss.length : Int) ∧ x = u ∧ d = c ∧ CurD a (n + 250 + 2 * p.toNat) h' c i' ∧ (∃ cs, OwI h' (fun k => h8.size ≤ k) y cs ∧ cs.length = p.toNat) ∧ OwI h' (Iv h5.size h6.size) u rs ∧ RdR (Iv h2.size h3.size) h' t xss ∧ Fr (fun k => k = b ∨ h.size ≤ k) h h' ∧ h8.size ≤ h'.size, ⟨xss.length, by omega, by omega, rfl, rfl, (D6.no f8).up (by omega), ⟨[], Ow.nil _ _ _ _, rfl⟩, Ow.no o6 f8, G8, f08, Nat.le_refl _⟩, ?_⟩
  rintro m p x y d i9 sd9 h9 ⟨p0, p1, rfl, rfl, D9, ⟨cs, o9, e9⟩, q9, G9, f9, z9⟩ hL9
  have hoff : ∀ (A B C E F : List Value) (q : Nat × List Value), q ∈ [(b5, A), (b4, B), (b3, C), (b2, E), (b, F)] → q.1 < h8.size := fun A B C E F q hq => by
    simp only [List.mem_cons, List.not_mem_nil, or_false] at hq
    rcases hq with rfl | rfl | rfl | rfl | rfl <;> simp only <;> omega
  have gb : ∀ {X Y : Heap}, RdR (Iv h2.size h3.size) X t xss → Fr (In [b]) X Y → RdR (Iv h2.size h3.size) Y t xss := fun G f => G.fr f fun k hk hk2 => by simp [In] at hk2; have := hk.1; omega
  have qb : ∀ {X Y : Heap}, OwI X (Iv h5.size h6.size) x rs → Fr (In [b]) X Y → OwI Y (Iv h5.size h6.size) x rs := fun O f => Ow.fr O f fun k hk hk2 => by simp [In] at hk2; have := (O.foot hk).1.1; omega
  have ob : ∀ {X Y : Heap} {w : Sl} {zs : List Int}, OwI X (fun k => h8.size ≤ k) w zs → Fr (In [b]) X Y → OwI Y (fun k => h8.size ≤ k) w zs := fun O f => Ow.fr O f fun k hk hk2 => by simp [In] at hk2; have := (O.foot hk).1; omega
  refine ⟨fun e => ?_, fun e => ?_⟩
  · simp only [decide_eq_true_eq] at e
    refine eop_lit rIs (fun k => h9.size ≤ k) (fun _ h => h) 6 (by omega) [VI 0, VI 0, VI 1, VI 2, VI 0, VI 3] rfl rfl fun w h10 n10 c10 o10 f10 m10 _ => ⟨w, rfl, hL9.of_no f10, ?_⟩
    have z10 := f10.size
    have r10 : RdI (fun k => h9.size ≤ k) h10 w [0, 0, 1, 2, 0, 3] := o10.rdF
    refine k_among (hL9.of_no f10).tail.tail.tail.tail.head hb (D9.no f10) (by omega) r10 (by omega) (by simp) _ fun v i11 sd11 h11 hv V11 D11 f11 => ⟨d, i11, sd11, v, rfl, vcur (hL9.of_no f10) 4 rfl f11 V11, ?_⟩
    have z11 := f11.size
    have hL11 : Vars h11 [(b5, [x.v, y.v]), (b4, [t.v]), (b3, [nilSl.v, nilSl.v]), (b2, [nilSl.v]), (b, [d.v, VI i11, .int .u64 sd11])] := vcur (hL9.of_no f10) 4 rfl f11 V11
    refine eop_put (lo := h8.size) (ob (Ow.no o9 f10) f11) (by omega) hL11 (fun q hq => hoff _ _ _ _ _ q hq) (by omega) _ fun w2 h13 o13 f13 V13 h14 f14 hL14 => ?_
    rw [w64_eq (p + 1) (by omega) (by omega)]
    have z13 := f13.size
    have z14 := f14.size
    refine ⟨m - 1, by omega, by omega, by omega, rfl, rfl, ?_, ⟨cs ++ [v], Ow.fr o13 f14 fun k hk hk3 => by have := (o13.foot hk).1; simp [In] at hk3; omega, by simp; omega⟩, ?_, ?_, ?_, by omega⟩
    · exact ((D11.fr f13 fun k hk hk2 => by omega).fr f14 fun k hk hk2 => by simp [In] at hk2; omega).up (by omega)
    · have q11 := qb (Ow.no q9 f10) f11
      refine Ow.fr (Ow.fr q11 f13 fun k hk hk3 => by have := (q11.foot hk).1.2; omega) f14 fun k hk hk3 => by have := (q11.foot hk).1.2; simp [In] at hk3; omega
    · exact ((gb (G9.no f10) f11).fr f13 fun k hk hk2 => by have := hk.2; omega).fr f14 fun k hk hk2 => by simp [In] at hk2; have := hk.2; omega
    · exact (((f9.trans f10.of_no).trans (inb f11)).trans (f13.mono fun k _ hk => .inr (by omega))).trans (f14.mono fun k _ hk => .inr (by simp [In] at hk; omega))
  · simp only [decide_eq_false_iff_not] at e
    have ecs : cs.length = xss.length := by omega
    generalize hS : (fun k => h2.size ≤ k ∧ k ≠ b4 ∧ k ≠ b5) = S
    have S1 : ∀ k, S k → h2.size ≤ k ∧ k ≠ b4 ∧ k ≠ b5 := fun k hk => by rw [← hS] at hk; exact hk
    have S2 : ∀ k, h2.size ≤ k → k ≠ b4 → k ≠ b5 → S k := fun k h1 h2 h3 => by rw [← hS]; exact ⟨h1, h2, h3⟩
    have oS : ∀ {X : Heap} {w : Sl} {zs : List Int}, OwI X (fun k => h8.size ≤ k) w zs → RdI S X w zs := fun O => (show RdI (fun k => h8.size ≤ k) _ _ _ from Ow.rdF O).mono fun k hk => S2 k (by omega) (by omega) (by omega)
    have qS : ∀ {X : Heap}, OwI X (Iv h5.size h6.size) x rs → RdI S X x rs := fun O => (show RdI (Iv h5.size h6.size) _ _ _ from Ow.rdF O).mono fun k hk => by have := hk.1; have := hk.2; exact S2 k (by omega) (by omega) (by omega)
    have gS : ∀ {X : Heap}, RdR (Iv h2.size h3.size) X t xss → RdR S X t xss := fun G => G.mono fun k hk => by have := hk.1; have := hk.2; exact S2 k (by omega) (by omega) (by omega)
    refine ⟨fun s' x' y' d' i' sd' h' => d' = d ∧ (∃ rs', RdI S h' x' rs') ∧ (∃ cs', RdI S h' y' cs') ∧ RdR S h' t xss ∧ CurD a (n + 400) h' d i' ∧ Fr (fun k => k = b ∨ h.size ≤ k) h h' ∧ h8.size ≤ h'.size, ?_, ?_⟩
    · refine k_pick hL9.tail.tail.tail.tail.head hb D9 (by omega) 18 _ fun w i15 sd15 h15 w0 w1 V15 D15 f15 => ⟨d, i15, sd15, w, rfl, vcur hL9 4 rfl f15 V15, fun _ => ?_, fun _ => ?_⟩
      · have z15 := f15.size
        have hL15 : Vars h15 [(b5, [x.v, y.v]), (b4, [t.v]), (b3, [nilSl.v, nilSl.v]), (b2, [nilSl.v]), (b, [d.v, VI i15, .int .u64 sd15])] := vcur hL9 4 rfl f15 V15
        have o15 := ob o9 f15
        have yn := o15.rd.len
        simp only [List.length_map, Nat.mul_one] at yn
        have last : ∀ (w v i' sd' : Int) (X : Heap), 0 ≤ w → (1 ≤ (y.n : Int) → w < (y.n : Int)) → Vars X [(b5, [x.v, y.v]), (b4, [t.v]), (b3, [nilSl.v, nilSl.v]), (b2, [nilSl.v]), (b, [d.v, VI i', .int .u64 sd'])] → OwI X (fun k => h8.size ≤ k) y cs → OwI X (Iv h5.size h6.size) x rs → RdR (Iv h2.size h3.size) X t xss → CurD a (n + 400) X d i' → Fr (fun k => k = b ∨ h.size ≤ k) h X → h8.size ≤ X.size → InB y w ∧ Writable X (y.at w 1) ∧ Vars (hset X (y.at w 1) (VI v)) [(b5, [x.v, y.v]), (b4, [t.v]), (b3, [nilSl.v, nilSl.v]), (b2, [nilSl.v]), (b, [d.v, VI i', .int .u64 sd'])] ∧ ∀ h3, h3 = hset X (y.at w 1) (VI v) → Vars h3 [(b5, [x.v, y.v]), (b4, [t.v]), (b3, [nilSl.v, nilSl.v]), (b2, [nilSl.v]), (b, [d.v, VI i', .int .u64 sd'])] → (d = d ∧ (∃ rs', RdI S h3 x rs') ∧ (∃ cs', RdI S h3 y cs') ∧ RdR S h3 t xss ∧ CurD a (n + 400) h3 d i' ∧ Fr (fun k => k = b ∨ h.size ≤ k) h h3 ∧ h8.size ≤ h3.size) := fun w v i' sd' X w0 w1 hX O Q G DD ff zz => by
          have w1 := w1 (by omega)
          refine int_set O w0 (by omega) hX (fun q hq => by have := hoff _ _ _ _ _ q hq; omega) _ fun Y O' f' V' => ⟨rfl, ⟨rs, qS (Ow.fr Q f' fun k hk hk2 => by have := (Q.foot hk).1.2; omega)⟩, ⟨_, oS O'⟩, gS (G.fr f' fun k hk hk2 => by have := hk.2; omega), DD.fr f' fun k hk hk2 => by omega, ff.trans (f'.mono fun k _ hk => .inr (by omega)), by have := f'.size; omega⟩
        refine ⟨?_, ?_⟩
        · refine k_pick hL15.tail.tail.tail.tail.head hb D15 (by omega) _ _ fun w i16 sd16 h16 w0 w1 V16 D16 f16 => ⟨d, i16, sd16, w, rfl, vcur hL15 4 rfl f16 V16, ?_⟩
          have z16 := f16.size
          have hL16 := vcur hL15 4 rfl f16 V16
          refine eop_lit rIs (fun k => h16.size ≤ k) (fun _ h => h) 4 (by omega) [VI (-1), VI 21, VI 20, VI 4611686018427387904] rfl rfl fun w2 h17 n17 c17 o17 f17 m17 _ => ⟨w2, rfl, hL16.of_no f17, ?_⟩
          have z17 := f17.size
          have r17 : RdI (fun k => h16.size ≤ k) h17 w2 [-1, 21, 20, 4611686018427387904] := o17.rdF
          refine k_among (hL16.of_no f17).tail.tail.tail.tail.head hb (D16.no f17) (by omega) r17 (by omega) (by simp) _ fun v i18 sd18 h18 hv V18 D18 f18 => ⟨d, i18, sd18, v, rfl, vcur (hL16.of_no f17) 4 rfl f18 V18, ?_⟩
          exact last w v i18 sd18 h18 w0 w1 (vcur (hL16.of_no f17) 4 rfl f18 V18) (ob (Ow.no (ob o15 f16) f17) f18) (qb (Ow.no (qb (qb q9 f15) f16) f17) f18) (gb ((gb (gb G9 f15) f16).no f17) f18) (D18.up (by omega)) ((((f9.trans (inb f15)).trans (inb f16)).trans f17.of_no).trans (inb f18)) (by have := f18.size; omega)
        · refine eop_lit rIs (fun k => h15.size ≤ k) (fun _ h => h) 4 (by omega) [VI (-1), VI 21, VI 20, VI 4611686018427387904] rfl rfl fun w2 h17 n17 c17 o17 f17 m17 _ => ⟨w2, rfl, hL15.of_no f17, ?_⟩
          have z17 := f17.size
          have r17 : RdI (fun k => h15.size ≤ k) h17 w2 [-1, 21, 20, 4611686018427387904] := o17.rdF
          have hL17 := hL15.of_no f17
          refine k_pick hL17.tail.tail.tail.tail.head hb (D15.no f17) (by omega) _ _ fun w i16 sd16 h16 w0 w1 V16 D16 f16 => ⟨d, i16, sd16, w, rfl, vcur hL17 4 rfl f16 V16, ?_⟩
          have z16 := f16.size
          have hL16 := vcur hL17 4 rfl f16 V16
          refine k_among hL16.tail.tail.tail.tail.head hb D16 (by omega) (r17.fr f16 fun k hk hk2 => by simp [In] at hk2; omega) (by omega) (by simp) _ fun v i18 sd18 h18 hv V18 D18 f18 => ⟨d, i18, sd18, v, rfl, vcur hL16 4 rfl f18 V18, ?_⟩
          exact last w v i18 sd18 h18 w0 w1 (vcur hL16 4 rfl f18 V18) (ob (ob (Ow.no o15 f17) f16) f18) (qb (qb (Ow.no (qb q9 f15) f17) f16) f18) (gb (gb ((gb G9 f15).no f17) f16) f18) (D18.up (by omega)) ((((f9.trans (inb f15)).trans f17.of_no).trans (inb f16)).trans (inb f18)) (by have := f18.size; omega)
      · have z15 := f15.size
        have hL15 : Vars h15 [(b5, [x.v, y.v]), (b4, [t.v]), (b3, [nilSl.v, nilSl.v]), (b2, [nilSl.v]), (b, [d.v, VI i15, .int .u64 sd15])] := vcur hL9 4 rfl f15 V15
        refine ⟨fun _ => ?_, fun _ => ⟨fun _ => ?_, fun _ => ⟨rfl, ⟨rs, qS (qb q9 f15)⟩, ⟨cs, oS (ob o9 f15)⟩, gS (gb G9 f15), D15.up (by omega), f9.trans (inb f15), by omega⟩⟩⟩
        · have q15 := qb q9 f15
          refine eop_lit rIs (fun k => h15.size ≤ k) (fun _ h => h) 1 (by omega) [VI 0] rfl rfl fun w2 h17 n17 c17 o17 f17 m17 _ => ⟨w2, rfl, hL15.of_no f17, ?_⟩
          have z17 := f17.size
          have q17 : OwI h17 (fun k => Iv h5.size h6.size k ∨ h17.size ≤ k) x rs := (Ow.no q15 f17).mono fun k _ hk => .inl hk
          have qn := q17.rd.len
          have on := o17.rd.len
          simp only [List.length_map, Nat.mul_one, List.length_cons, List.length_nil] at qn on
          refine eop_append rIs q17 (fun k hk => .inr hk) o17.rd (plainVI [0]) (by omega) fun w3 h18 n18 o18 f18 d18 => ?_
          have g18 : Fr (Iv h5.size h6.size) h17 h18 := f18.mono fun k hk1 hk => by rcases (q17.foot hk).1 with e | e; exact e; omega
          have V18 := (hL15.of_no f17).fr g18 fun q hq hk => by
            have h1 := hk.1; have h2 := hk.2
            simp only [List.mem_cons, List.not_mem_nil, or_false] at hq
            rcases hq with rfl | rfl | rfl | rfl | rfl <;> simp only at h1 h2 <;> omega
          refine ⟨w3, rfl, V18, fun h26 f26 hL26 => ?_⟩
          have z18 := f18.size
          have o18' : OwI h18 (fun k => Iv h5.size h6.size k ∨ h17.size ≤ k) w3 (rs ++ [0]) := by rw [OwI, List.map_append]; exact o18
          have o26 : OwI h26 (fun k => Iv h5.size h6.size k ∨ h17.size ≤ k) w3 (rs ++ [0]) := Ow.fr o18' f26 fun k hk hk2 => by
            simp [In] at hk2
            rcases (o18'.foot hk).1 with e | e
            · have := e.2; omega
            · omega
          have ob26 : OwI h26 (fun k => h8.size ≤ k) y cs := by
            have O17 := Ow.no (ob o9 f15) f17
            have O18 : OwI h18 (fun k => h8.size ≤ k) y cs := Ow.fr O17 g18 fun k hk hk2 => by have := (O17.foot hk).1; have := hk2.2; omega
            exact Ow.fr O18 f26 fun k hk hk2 => by have := (O18.foot hk).1; simp [In] at hk2; omega
          refine ⟨rfl, ⟨_, (show RdI (fun k => Iv h5.size h6.size k ∨ h17.size ≤ k) h26 w3 (rs ++ [0]) from Ow.rdF o26).mono fun k hk => ?_⟩, ⟨cs, oS ob26⟩, gS ((((gb G9 f15).no f17).fr g18 fun k hk hk2 => by have := hk.2; have := hk2.1; omega).fr f26 fun k hk hk2 => by simp [In] at hk2; have := hk.2; omega), ?_, ?_, by have := f26.size; omega⟩
          · rcases hk with e | e
            · have := e.1; have := e.2; exact S2 k (by omega) (by omega) (by omega)
            · exact S2 k (by omega) (by omega) (by omega)
          · exact (((D15.no f17).fr g18 fun k hk hk2 => by have := hk2.1; omega).fr f26 fun k hk hk2 => by simp [In] at hk2; omega).up (by omega)
          · exact (((f9.trans (inb f15)).trans f17.of_no).trans (g18.mono fun k _ hk => .inr (by have := hk.1; omega))).trans (f26.mono fun k _ hk => .inr (by simp [In] at hk; omega))
        · refine eop_lit rIs (fun k => h15.size ≤ k) (fun _ h => h) 3 (by omega) [VI (-1), VI (t.n : Int), VI 0] rfl rfl fun w2 h17 n17 c17 o17 f17 m17 _ => ⟨w2, rfl, hL15.of_no f17, ?_⟩
          have z17 := f17.size
          have r17 : RdI (fun k => h15.size ≤ k) h17 w2 [-1, (t.n : Int), 0] := o17.rdF
          refine k_among (hL15.of_no f17).tail.tail.tail.tail.head hb (D15.no f17) (by omega) r17 (by omega) (by simp) _ fun v i18 sd18 h18 hv V18 D18 f18 => ⟨d, i18, sd18, v, rfl, vcur (hL15.of_no f17) 4 rfl f18 V18, rfl, ⟨rs, qS (qb (Ow.no (qb q9 f15) f17) f18)⟩, ⟨cs, oS (ob (Ow.no (ob o9 f15) f17) f18)⟩, gS (gb ((gb G9 f15).no f17) f18), D18.up (by omega), ((f9.trans (inb f15)).trans f17.of_no).trans (inb f18), by have := f18.size; omega⟩
    · rintro s' x' y' d' i29 sd29 h29 ⟨rfl, ⟨rs', r29⟩, ⟨cs', q29⟩, G29, D29, f29, z29⟩ hL29 h30 f30 hL30 h31 f31 hL31
      have f31' : Fr (fun k => k < h2.size ∧ k ≠ b) h29 h31 := (f30.mono fun k _ hk => by simp [In] at hk; omega).trans (f31.mono fun k _ hk => by simp [In] at hk; omega)
      have off : ∀ k, S k → ¬ (k < h2.size ∧ k ≠ b) := fun k hk hk2 => by have := S1 k hk; omega
      refine HK t x' y' xss rs' cs' s' i29 sd29 h31 ((G29.fr f31' off).mono fun k hk => by have := S1 k hk; omega) ((r29.fr f31' off).mono fun k hk => by have := S1 k hk; omega) ((q29.fr f31' off).mono fun k hk => by have := S1 k hk; omega) (by omega) hL31.tail.tail.tail.tail.head ?_ (fin _ ?_)
      · exact (D29.fr f30 fun k hk hk2 => by simp [In] at hk2; omega).fr f31 fun k hk hk2 => by simp [In] at hk2; omega
      · exact (f29.trans (f30.mono fun k _ hk => .inr (by simp [In] at hk; omega))).trans (f31.mono fun k _ hk => .inr (by simp [In] at hk; omega))

theorem k_DrawForceMoves {S : Nat → Prop} {h : Heap} {code : Sl} {vs : List Value} (C : RdV S h 1 code vs) (B : ∀ v, v ∈ vs → ∃ m : Int, v = Value.int .u8 m ∧ 0 ≤ m ∧ m ≤ 255) (K : Value → Heap → Prop) (HK : ∀ (t u v w : Sl) (gs : List (List Int)) (rs cs ns : List Int) (p : Int) h', RdR (fun k => h.size ≤ k) h' t gs → RdI (fun k => h.size ≤ k) h' u rs → RdI (fun k => h.size ≤ k) h' v cs → RdI (fun k => h.size ≤ k) h' w ns → Fr No h h' → K (.tuple #[.agg #[t.v], VI p, .agg #[u.v, v.v], w.v]) h') : callM Try.prog 37 #[code.v] h K := by
  refine v37 code h K fun b1 b2 b3 h3 hb1 hb2 hb3 f3 hL3 => ?_
  have f3 := f3.in_nil
  have z3 := f3.size
  have l3 : b3 < h3.size := hL3.head.lt
  have l2 : b2 < h3.size := hL3.tail.head.lt
  have l1 : b1 < h3.size := hL3.tail.tail.head.lt
  have D3 : CurD h.size 0 h3 code 0 := ⟨⟨vs, ((RdV.lt C).mono fun k hk => hk.2).no f3, B⟩, by omega, by omega⟩
  refine k_drload hL3.head hb3 D3 (by omega) _ fun t u v gs rs cs p i4 sd4 h4 G4 R4 Q4 gl V4 D4 f4 => ⟨code, i4, sd4, t, p, u, v, rfl, vcur hL3 0 rfl f4 V4, fun b4 b5 h8 hb4 hb5 f8 hL8 => ?_⟩
  have f8 := f8.in_nil
  have z4 := f4.size
  have z8 := f8.size
  have l5 : b5 < h8.size := hL8.head.lt
  have l4 : b4 < h8.size := hL8.tail.head.lt
  have G8 : RdR (Iv h3.size h4.size) h8 t gs := (G4.lowS.mono fun k hk => hk).no f8
  have R8 : RdI (Iv h3.size h4.size) h8 u rs := ((RdV.lt R4).mono fun k hk => hk).no f8
  have Q8 : RdI (Iv h3.size h4.size) h8 v cs := ((RdV.lt Q4).mono fun k hk => hk).no f8
  have gn := G8.len
  generalize hFF : (fun X : Heap => RdR (Iv h3.size h4.size) X t gs ∧ RdI (Iv h3.size h4.size) X u rs ∧ RdI (Iv h3.size h4.size) X v cs ∧ Fr (fun k => h.size ≤ k) h X ∧ h8.size ≤ X.size) = FF
  have ffi : ∀ X, FF X ↔ (RdR (Iv h3.size h4.size) X t gs ∧ RdI (Iv h3.size h4.size) X u rs ∧ RdI (Iv h3.size h4.size) X v cs ∧ Fr (fun k => h.size ≤ k) h X ∧ h8.size ≤ X.size) := fun X => by rw [← hFF]
  have ffz : ∀ {X : Heap}, FF X → h8.size ≤ X.size := fun H => ((ffi _).1 H).2.2.2.2
  have ff : ∀ {X Y : Heap}, FF X → Fr (fun k => k = b3 ∨ h8.size ≤ k) X Y → FF Y := fun {X Y} H f => by
    obtain ⟨a1, a2, a3, a4, a5⟩ := (ffi X).1 H
    have off : ∀ k, Iv h3.size h4.size k → ¬ (k = b3 ∨ h8.size ≤ k) := fun k hk hk2 => by
      have := hk.1; have := hk.2; rcases hk2 with e | e <;> omega
    exact (ffi Y).2 ⟨a1.fr f off, a2.fr f off, a3.fr f off, a4.trans (f.mono fun k _ hk => by rcases hk with e | e <;> omega), by have := f.size; omega⟩
  have c3 : ∀ {X Y : Heap}, Fr (In [b3]) X Y → Fr (fun k => k = b3 ∨ h8.size ≤ k) X Y := fun f => f.mono fun k _ hk => .inl (by simpa [In] using hk)
  have ob : ∀ {X Y : Heap} {w : Sl} {zs : List Int}, OwI X (fun k => h8.size ≤ k) w zs → Fr (In [b3]) X Y → OwI Y (fun k => h8.size ≤ k) w zs := fun O f => Ow.fr O f fun k hk hk2 => by simp [In] at hk2; have := (O.foot hk).1; omega
  have hoff : ∀ (A B C E F : List Value) (q : Nat × List Value), q ∈ [(b5, A), (b4, B), (b3, C), (b2, E), (b1, F)] → q.1 < h8.size := fun A B C E F q hq => by
    simp only [List.mem_cons, List.not_mem_nil, or_false] at hq
    rcases hq with rfl | rfl | rfl | rfl | rfl <;> simp only <;> omega
  have F8 : FF h8 := (ffi h8).2 ⟨G8, R8, Q8, (f3.of_no.trans (f4.mono fun k _ hk => by simp [In] at hk; omega)).trans f8.of_no, Nat.le_refl _⟩
  have D8 := D4.no f8
  refine k_spec_MovesOfLoad G8 R8 Q8 p _ fun w h9 o9 f9 => ⟨w, _, rfl, hL8.of_no f9, fun w' d i' sd' h' => d = code ∧ (∃ ns, OwI h' (fun k => h8.size ≤ k) w' ns ∧ ns.length ≤ 100) ∧ CurD h.size 1000 h' code i' ∧ FF h', ⟨fun _ => ?_, fun _ => ?_⟩, ?_⟩
  · refine ⟨fun m cnt q d i' sd' h' => 0 ≤ q ∧ q + m = (gs.length : Int) ∧ d = code ∧ CurD h.size (500 + 2 * q.toNat) h' code i' ∧ (∃ ns, OwI h' (fun k => h8.size ≤ k) cnt ns ∧ ns.length = q.toNat) ∧ FF h', ⟨gs.length, by omega, by omega, rfl, (D8.no f9).up (by omega), ⟨[], Ow.nil _ _ _ _, rfl⟩, ff F8 f9.of_no⟩, ?_⟩
    rintro m cnt q d i20 sd20 h20 ⟨q0, q1, rfl, D20, ⟨ns, o20, e20⟩, F20⟩ hL20
    refine ⟨fun e => ?_, fun e => ?_⟩
    · simp only [decide_eq_true_eq] at e
      refine k_pick hL20.tail.tail.head hb3 D20 (by omega) 4 _ fun y i21 sd21 h21 y0 y1 V21 D21 f21 => ⟨d, i21, sd21, y, rfl, vcur hL20 2 rfl f21 V21, ?_⟩
      have hL21 := vcur hL20 2 rfl f21 V21
      have z21 := f21.size
      have z20 := (ffz F20)
      refine eop_put (lo := h8.size) (ob o20 f21) (by omega) hL21 (fun q hq => hoff _ _ _ _ _ q hq) (by omega) _ fun w2 h23 o23 f23 V23 => ?_
      rw [w64_eq (q + 1) (by omega) (by omega)]
      exact ⟨m - 1, by omega, by omega, by omega, rfl, (D21.fr f23 fun k hk hk2 => by omega).up (by omega), ⟨ns ++ [y], o23, by simp; omega⟩, ff (ff F20 (c3 f21)) (f23.mono fun k _ hk => .inr hk)⟩
    · simp only [decide_eq_false_iff_not] at e
      exact ⟨rfl, ⟨ns, o20, by omega⟩, D20.up (by omega), F20⟩
  · refine k_one (hL8.of_no f9).tail.tail.head hb3 (D8.no f9) (by omega) 3 _ fun y i10 sd10 h10 V10 D10 f10 => ⟨code, i10, sd10, y, rfl, vcur (hL8.of_no f9) 2 rfl f10 V10, fun _ => ?_, fun _ => ?_⟩
    · refine ⟨fun m cnt q d i' sd' h' => 0 ≤ q ∧ q + m = (gs.length : Int) ∧ d = code ∧ CurD h.size (500 + 2 * q.toNat) h' code i' ∧ (∃ ns, OwI h' (fun k => h8.size ≤ k) cnt ns ∧ ns.length = q.toNat) ∧ FF h', ⟨gs.length, by omega, by omega, rfl, D10.up (by omega), ⟨[], Ow.nil _ _ _ _, rfl⟩, ff (ff F8 f9.of_no) (c3 f10)⟩, ?_⟩
      rintro m cnt q d i20 sd20 h20 ⟨q0, q1, rfl, D20, ⟨ns, o20, e20⟩, F20⟩ hL20
      refine ⟨fun e => ?_, fun e => ?_⟩
      · simp only [decide_eq_true_eq] at e
        refine k_pick hL20.tail.tail.head hb3 D20 (by omega) 4 _ fun y i21 sd21 h21 y0 y1 V21 D21 f21 => ⟨d, i21, sd21, y, rfl, vcur hL20 2 rfl f21 V21, ?_⟩
        have hL21 := vcur hL20 2 rfl f21 V21
        have z21 := f21.size
        have z20 := (ffz F20)
        refine eop_put (lo := h8.size) (ob o20 f21) (by omega) hL21 (fun q hq => hoff _ _ _ _ _ q hq) (by omega) _ fun w2 h23 o23 f23 V23 => ?_
        rw [w64_eq (q + 1) (by omega) (by omega)]
        exact ⟨m - 1, by omega, by omega, by omega, rfl, (D21.fr f23 fun k hk hk2 => by omega).up (by omega), ⟨ns ++ [y], o23, by simp; omega⟩, ff (ff F20 (c3 f21)) (f23.mono fun k _ hk => .inr hk)⟩
      · simp only [decide_eq_false_iff_not] at e
        exact ⟨rfl, ⟨ns, o20, by omega⟩, D20.up (by omega), F20⟩
    · have ml := molP_len gs p (rs, cs)
      exact ⟨rfl, ⟨_, ob (o9.mono fun k _ hk => hk.1) f10, by omega⟩, D10.up (by omega), ff (ff F8 f9.of_no) (c3 f10)⟩
  rintro w' d i19 sd19 h19 ⟨rfl, ⟨ns, o19, e19⟩, D19, F19⟩ hL19
  have wn : (w'.n : Int) = ns.length := by have := o19.rd.len; simp at this; omega
  refine ⟨fun m q d' i' sd' h' => 0 ≤ q ∧ q + m = (ns.length : Int) ∧ d' = d ∧ CurD h.size (1000 + 6 * q.toNat) h' d i' ∧ (∃ zs, OwI h' (fun k => h8.size ≤ k) w' zs ∧ zs.length = ns.length) ∧ FF h', ⟨ns.length, by omega, by omega, rfl, D19.up (by omega), ⟨ns, o19, rfl⟩, F19⟩, ?_⟩
  rintro m q d' i20 sd20 h20 ⟨q0, q1, rfl, D20, ⟨zs, o20, e20⟩, F20⟩ hL20
  refine ⟨fun e => ?_, fun e => ?_⟩
  · simp only [decide_eq_true_eq] at e
    have next : ∀ (ys : List Int) (i7 : Int) (h7 : Heap), CurD h.size (1000 + 6 * q.toNat + 6) h7 d' i7 → OwI h7 (fun k => h8.size ≤ k) w' ys → ys.length = ns.length → FF h7 → ∃ m' : Nat, m' < m ∧ (0 ≤ w64 (q + 1) ∧ w64 (q + 1) + m' = (ns.length : Int) ∧ d' = d' ∧ CurD h.size (1000 + 6 * (w64 (q + 1)).toNat) h7 d' i7 ∧ (∃ zs, OwI h7 (fun k => h8.size ≤ k) w' zs ∧ zs.length = ns.length) ∧ FF h7) := fun ys i7 h7 a1 a2 a3 a4 => by
      rw [w64_eq (q + 1) (by omega) (by omega)]
      exact ⟨m - 1, by omega, by omega, by omega, rfl, a1.up (by omega), ⟨ys, a2, a3⟩, a4⟩
    refine ⟨fun _ => ?_, fun _ => ?_⟩
    · refine k_one hL20.tail.tail.head hb3 D20 (by omega) 20 _ fun y i21 sd21 h21 V21 D21 f21 => ⟨d', i21, sd21, y, rfl, vcur hL20 2 rfl f21 V21, fun _ => ?_, fun _ => ?_⟩
      · exact int_set (ob o20 f21) q0 (by omega) (vcur hL20 2 rfl f21 V21) (fun q hq => by have := hoff _ _ _ _ _ q hq; omega) _ fun h22 o22 f22 V22 => next _ i21 h22 ((D21.fr f22 fun k hk hk2 => by have := ffz F20; omega).up (by omega)) o22 (by simp; omega) (ff (ff F20 (c3 f21)) (f22.mono fun k _ hk => .inr hk))
      · have hL21 := vcur hL20 2 rfl f21 V21
        have o21 := ob o20 f21
        have F21 := ff F20 (c3 f21)
        refine k_one hL21.tail.tail.head hb3 D21 (by omega) 4 _ fun y2 i42 sd42 h42 V42 D42 f42 => ⟨d', i42, sd42, y2, rfl, vcur hL21 2 rfl f42 V42, fun _ => ?_, fun _ => next zs i42 h42 (D42.up (by omega)) (ob o21 f42) (by omega) (ff F21 (c3 f42))⟩
        have hL42 := vcur hL21 2 rfl f42 V42
        have O42 := ob o21 f42
        have R42 : RdI (fun k => h8.size ≤ k) h42 w' zs := Ow.rdF O42
        have iq : q < ((zs).length : Int) := by omega
        refine ⟨R42.inb q0 iq, _, R42.get q0 iq, ?_⟩
        refine eop_lit rIs (fun k => h42.size ≤ k) (fun _ h => h) 4 (by omega) [VI 1, VI (-1), VI 2, VI 1] rfl rfl fun w3 h43 n43 c43 o43 f43 m43 _ => ⟨w3, rfl, hL42.of_no f43, (R42.no f43).get q0 iq, ?_⟩
        have z42 := f42.size
        have z43 := f43.size
        have zF := ffz F21
        have r43 : RdI (fun k => h42.size ≤ k) h43 w3 [1, -1, 2, 1] := o43.rdF
        refine k_among (hL42.of_no f43).tail.tail.head hb3 (D42.no f43) (by omega) r43 (by omega) (by simp) _ fun y3 i44 sd44 h44 hy V44 D44 f44 => ⟨d', i44, sd44, y3, rfl, vcur (hL42.of_no f43) 2 rfl f44 V44, ?_⟩
        have O44 := ob (Ow.no O42 f43) f44
        have R44 : RdI (fun k => h8.size ≤ k) h44 w' zs := Ow.rdF O44
        refine ⟨R44.get q0 iq, int_set O44 q0 iq (vcur (hL42.of_no f43) 2 rfl f44 V44) (fun q hq => by have := hoff _ _ _ _ _ q hq; omega) _ fun h46 o46 f46 V46 => next _ i44 h46 ((D44.fr f46 fun k hk hk2 => by omega).up (by omega)) o46 (by simp; omega) (ff (ff (ff (ff F21 (c3 f42)) f43.of_no) (c3 f44)) (f46.mono fun k _ hk => .inr hk))⟩
    · refine k_one hL20.tail.tail.head hb3 D20 (by omega) 4 _ fun y2 i42 sd42 h42 V42 D42 f42 => ⟨d', i42, sd42, y2, rfl, vcur hL20 2 rfl f42 V42, fun _ => ?_, fun _ => next zs i42 h42 (D42.up (by omega)) (ob o20 f42) (by omega) (ff F20 (c3 f42))⟩
      have hL42 := vcur hL20 2 rfl f42 V42
      have O42 := ob o20 f42
      have R42 : RdI (fun k => h8.size ≤ k) h42 w' zs := Ow.rdF O42
      have iq : q < ((zs).length : Int) := by omega
      refine ⟨R42.inb q0 iq, _, R42.get q0 iq, ?_⟩
      refine eop_lit rIs (fun k => h42.size ≤ k) (fun _ h => h) 4 (by omega) [VI 1, VI (-1), VI 2, VI 1] rfl rfl fun w3 h43 n43 c43 o43 f43 m43 _ => ⟨w3, rfl, hL42.of_no f43, (R42.no f43).get q0 iq, ?_⟩
      have z42 := f42.size
      have z43 := f43.size
      have zF := ffz F20
      have r43 : RdI (fun k => h42.size ≤ k) h43 w3 [1, -1, 2, 1] := o43.rdF
      refine k_among (hL42.of_no f43).tail.tail.head hb3 (D42.no f43) (by omega) r43 (by omega) (by simp) _ fun y3 i44 sd44 h44 hy V44 D44 f44 => ⟨d', i44, sd44, y3, rfl, vcur (hL42.of_no f43) 2 rfl f44 V44, ?_⟩
      have O44 := ob (Ow.no O42 f43) f44
      have R44 : RdI (fun k => h8.size ≤ k) h44 w' zs := Ow.rdF O44
      refine ⟨R44.get q0 iq, int_set O44 q0 iq (vcur (hL42.of_no f43) 2 rfl f44 V44) (fun q hq => by have := hoff _ _ _ _ _ q hq; omega) _ fun h46 o46 f46 V46 => next _ i44 h46 ((D44.fr f46 fun k hk hk2 => by omega).up (by omega)) o46 (by simp; omega) (ff (ff (ff (ff F20 (c3 f42)) f43.of_no) (c3 f44)) (f46.mono fun k _ hk => .inr hk))⟩
  · intro h31 f31 hL31 h32 f32 hL32
    obtain ⟨a1, a2, a3, a4, a5⟩ := (ffi _).1 F20
    have g32 : Fr (fun k => k = b1 ∨ k = b2) h20 h32 := (f31.mono fun k _ hk => .inl (by simpa [In] using hk)).trans (f32.mono fun k _ hk => .inr (by simpa [In] using hk))
    have off : ∀ k, Iv h3.size h4.size k → ¬ (k = b1 ∨ k = b2) := fun k hk hk2 => by have := hk.1; rcases hk2 with e | e <;> omega
    have R20 : RdI (fun k => h8.size ≤ k) h20 w' zs := Ow.rdF o20
    refine HK t u v w' gs rs cs zs p h32 ((a1.fr g32 off).mono fun k hk => by have := hk.1; omega) ((a2.fr g32 off).mono fun k hk => by have := hk.1; omega) ((a3.fr g32 off).mono fun k hk => by have := hk.1; omega) ((R20.fr g32 fun k hk hk2 => by rcases hk2 with e | e <;> omega).mono fun k hk => by omega) ?_
    exact (a4.trans (g32.mono fun k _ hk => by rcases hk with e | e <;> omega)).mono fun k hk hk2 => absurd hk2 (by omega)

theorem k_DrawAreEnough {S : Nat → Prop} {h : Heap} {code : Sl} {vs : List Value} (C : RdV S h 1 code vs) (B : ∀ v, v ∈ vs → ∃ m : Int, v = Value.int .u8 m ∧ 0 ≤ m ∧ m ≤ 255) (K : Value → Heap → Prop) (HK : ∀ (t u v w : Sl) (gs : List (List Int)) (rs cs ns : List Int) (p : Int) h', RdR (fun k => h.size ≤ k) h' t gs → RdI (fun k => h.size ≤ k) h' u rs → RdI (fun k => h.size ≤ k) h' v cs → RdI (fun k => h.size ≤ k) h' w ns → Fr No h h' → K (.tuple #[.agg #[t.v], VI p, .agg #[u.v, v.v], w.v]) h') : callM Try.prog 33 #[code.v] h K := by
  refine v33 code h K fun b1 b2 h2 hb1 hb2 f2 hL2 => ?_
  have f2 := f2.in_nil
  have z2 := f2.size
  have l2 : b2 < h2.size := hL2.head.lt
  have l1 : b1 < h2.size := hL2.tail.head.lt
  refine k_DrawForceMoves (C.no f2) B _ fun t u v w gs rs cs ns p h3 G3 R3 Q3 N3 f3 => ⟨t, p, u, v, w, rfl, hL2.of_no f3, fun h5 f5 hL5 => ?_⟩
  have off : ∀ k, h2.size ≤ k → ¬ In [b2, b1] k := fun k hk hk2 => by simp [In] at hk2; omega
  refine HK t u v w gs rs cs ns p h5 ((G3.fr f5 off).mono fun k hk => by omega) ((R3.fr f5 off).mono fun k hk => by omega) ((Q3.fr f5 off).mono fun k hk => by omega) ((N3.fr f5 off).mono fun k hk => by omega) ?_
  exact ((f2.no_trans f3).of_no.trans f5 : Fr (In [b2, b1]) h h5).mono fun k hk hk2 => by simp [In] at hk2; omega

theorem w64_add (a b : Int) : w64 (w64 a + b) = w64 (a + b) := by
  simp only [w64, IntKind.wrap, IntKind.bits, IntKind.signed]
  simp
  try omega

theorem k_big (s t : Sl) (h : Heap) (K : Value → Heap → Prop) (HK : ∀ b, K (VB b) h) : callM Try.prog 32 #[s.v, t.v] h K :=
  v32 s t h K ⟨fun _ => HK true, fun _ => HK _⟩

theorem k_xSum {S : Nat → Prop} {h : Heap} {s : Sl} {xs : List Int} (H : RdI S h s xs) (K : Value → Heap → Prop) (HK : K (VI (w64 xs.sum)) h) : callM Try.prog 41 #[s.v] h K := by
  refine v41 s h K ⟨fun n t i h' => h' = h ∧ 0 ≤ i ∧ i + n = (xs.length : Int) ∧ t = w64 (xs.take i.toNat).sum, ⟨xs.length, rfl, by omega, by omega, by simp [w64_eq]⟩, ?_⟩
  rintro n t i _ ⟨rfl, i0, i1, e1⟩ hL
  refine ⟨fun e => ?_, fun e => ?_⟩
  · have hi := H.lt e
    refine ⟨H.inb i0 hi, _, H.get i0 hi, ?_⟩
    rw [H.succ i0 hi]
    refine ⟨n - 1, by omega, rfl, by omega, by omega, ?_⟩
    rw [take_snoc xs i0 hi, List.sum_append, e1, w64_add]
    simp
  · have hi := H.ge e
    rw [List.take_of_length_le (by omega)] at e1
    rw [e1]
    exact HK

theorem k_xMost {S : Nat → Prop} {h : Heap} {s : Sl} {xs : List Int} (H : RdI S h s xs) (K : Value → Heap → Prop) (HK : ∀ r, 0 ≤ r → (∀ x, x ∈ xs → x ≤ r) → (r = 0 ∨ r ∈ xs) → K (VI r) h) : callM Try.prog 36 #[s.v] h K := by
  refine v36 s h K ⟨fun n t i h' => h' = h ∧ 0 ≤ i ∧ i + n = (xs.length : Int) ∧ 0 ≤ t ∧ (∀ x, x ∈ xs.take i.toNat → x ≤ t) ∧ (t = 0 ∨ t ∈ xs), ⟨xs.length, rfl, by omega, by omega, by omega, by simp, .inl rfl⟩, ?_⟩
  rintro n t i _ ⟨rfl, i0, i1, t0, e1, e2⟩ hL
  refine ⟨fun e => ?_, fun e => ?_⟩
  · have hi := H.lt e
    refine ⟨H.inb i0 hi, _, H.get i0 hi, fun c => ?_, fun c => ?_⟩
    · simp only [decide_eq_true_eq] at c
      rw [H.succ i0 hi]
      refine ⟨n - 1, by omega, rfl, by omega, by omega, by omega, fun x hx => ?_, .inr (List.getElem_mem _)⟩
      rw [take_snoc xs i0 hi, List.mem_append] at hx
      rcases hx with a | a
      · have := e1 x a; omega
      · simp only [List.mem_cons, List.not_mem_nil, or_false] at a; omega
    · simp only [decide_eq_false_iff_not] at c
      rw [H.succ i0 hi]
      refine ⟨n - 1, by omega, rfl, by omega, by omega, by omega, fun x hx => ?_, e2⟩
      rw [take_snoc xs i0 hi, List.mem_append] at hx
      rcases hx with a | a
      · exact e1 x a
      · simp only [List.mem_cons, List.not_mem_nil, or_false] at a; omega
  · have hi := H.ge e
    rw [List.take_of_length_le (by omega)] at e1
    exact HK t t0 e1 e2

theorem k_xSame {S S' : Nat → Prop} {h : Heap} {a b : Sl} {xs ys : List Int} (H : RdI S h a xs) (H' : RdI S' h b ys) (K : Value → Heap → Prop) (HK : K (VB (decide (xs = ys))) h) : callM Try.prog 45 #[a.v, b.v] h K := by
  refine v45 a b h K ⟨fun e => ?_, fun e => ?_⟩
  · have e1 := not_t e
    rw [H.len, H'.len] at e1
    have : ¬ xs = ys := fun e2 => by subst e2; simp at e1
    rw [decide_eq_false this] at HK
    exact HK
  · have e1 := not_f e
    rw [H.len, H'.len] at e1
    have hl : xs.length = ys.length := by simp at e1; omega
    refine ⟨fun n i h' => h' = h ∧ 0 ≤ i ∧ i + n = (xs.length : Int) ∧ decide (xs = ys) = decide (xs.drop i.toNat = ys.drop i.toNat), ⟨xs.length, rfl, by omega, by omega, by simp⟩, ?_⟩
    rintro n i hh ⟨rfl, h0, h1, h2⟩ hL
    refine ⟨fun e => ?_, fun e => ?_⟩
    · have hi := H.lt e
      have hi' : i < (ys.length : Int) := by omega
      refine ⟨H.inb h0 hi, _, H.get h0 hi, H'.inb h0 hi', _, H'.get h0 hi', fun e => ?_, fun e => ?_⟩
      · rw [drop_cons xs h0 hi, drop_cons ys h0 hi'] at h2
        have e3 := not_t e
        simp only [decide_eq_false_iff_not] at e3
        rw [h2, decide_eq_false (fun e4 => e3 (List.cons.inj e4).1)] at HK
        exact HK
      · rw [drop_cons xs h0 hi, drop_cons ys h0 hi'] at h2
        have e3 := not_f e
        simp only [decide_eq_true_eq] at e3
        rw [H.succ h0 hi]
        refine ⟨n - 1, by omega, rfl, by omega, by omega, h2.trans ?_⟩
        rw [e3]
        simp
    · have hi := H.ge e
      rw [List.drop_of_length_le (by omega), List.drop_of_length_le (by omega)] at h2
      rw [h2] at HK
      exact HK

theorem k_xLoad {S S' T T' : Nat → Prop} {h : Heap} {a b c d : Sl} {xs ys us ws : List Int} (H : RdI S h a xs) (G : RdI S' h b ys) (H' : RdI T h c us) (G' : RdI T' h d ws) : Ret Try.prog 40 #[.agg #[a.v, b.v], .agg #[c.v, d.v]] h (VB (decide (xs = us ∧ ys = ws))) := by
  intro K HK
  refine v40 a b c d h K fun b1 b2 h2 hb1 hb2 f2 hL2 => ?_
  have f2 := f2.in_nil
  refine k_xSame (H.no f2) (H'.no f2) _ ⟨_, rfl, hL2, fun e => ?_, fun e => ?_⟩
  · simp only [decide_eq_true_eq] at e
    refine k_xSame (G.no f2) (G'.no f2) _ ⟨_, rfl, hL2, ?_⟩
    have : decide (xs = us ∧ ys = ws) = decide (ys = ws) := by simp [e]
    rw [this] at HK
    exact HK h2 f2
  · simp only [decide_eq_false_iff_not] at e
    rw [decide_eq_false fun e2 => e e2.1] at HK
    exact HK h2 f2

theorem k_lawLeastMoves {h : Heap} {S0 S1 : Nat → Prop} {s0 s1 : Sl} {x0 x1 : List Value} (G0 : RdV S0 h 1 s0 x0) (B0 : ∀ v, v ∈ x0 → ∃ m : Int, v = Value.int .u8 m ∧ 0 ≤ m ∧ m ≤ 255) (G1 : RdV S1 h 1 s1 x1) (B1 : ∀ v, v ∈ x1 → ∃ m : Int, v = Value.int .u8 m ∧ 0 ≤ m ∧ m ≤ 255) : Ret Try.prog 6 #[s0.v, s1.v] h (VB true) := by
  intro K HK
  refine v6 s0 s1 h K ?_
  refine k_big s0 s1 h _ fun b0 => ⟨b0, rfl, .nil, fun _ => HK h (Fr.refl _ _), fun _ => ?_⟩
  refine k_DrawAreEnough G0 B0 _ fun t u v w gs rs cs ns p h2 G2 R2 Q2 N2 f2 => ⟨t, p, u, v, w, rfl, .nil, fun b1 b2 h6 hb1 hb2 f6 hL6 => ?_⟩
  have f6 := f6.in_nil
  have F6 := f2.no_trans f6
  refine k_AreEnough (G2.no f6) (R2.no f6) (Q2.no f6) (N2.no f6) p _ fun h7 f7 => ⟨_, _, rfl, hL6.of_no f7, ?_⟩
  have f27 := f6.no_trans f7
  refine k_spec_AreEnough (G2.no f27) (R2.no f27) (Q2.no f27) (N2.no f27) p _ fun h8 f8 => ⟨_, _, rfl, (hL6.of_no f7).of_no f8, ?_⟩
  have f28 := f27.no_trans f8
  refine k_MovesOfLoad (G2.no f28) (R2.no f28) (Q2.no f28) p _ fun m h9 o9 f9 => ⟨m, _, rfl, ((hL6.of_no f7).of_no f8).of_no f9, fun e => by simp at e, fun _ => ⟨fun e => by simp at e, fun _ => ?_⟩⟩
  have f29 := f28.no_trans f9
  have F9 := f2.no_trans f29
  have hL9 := ((hL6.of_no f7).of_no f8).of_no f9
  have M9 := Ow.rdI o9
  have N9 := N2.no f29
  refine ⟨fun h' => Fr No h h', ⟨fun e1 => ⟨fun e2 => ?_, fun _ => F9⟩, fun _ => F9⟩, ?_⟩
  · have hc : cntB gs p (rs, cs) ns = true := by
      unfold enoP at e1
      by_cases hc : cntB gs p (rs, cs) ns = true
      · exact hc
      · rw [if_neg hc] at e1; simp at e1
    obtain ⟨c1, c2, c3, c4⟩ := cnt_of hc
    obtain ⟨m1, m2, m3⟩ := mol_rng e2
    refine ⟨fun n i h' => h9 = h' ∧ 0 ≤ i ∧ i + n = (ns.length : Int), ⟨ns.length, rfl, by omega, by omega⟩, ?_⟩
    rintro n i _ ⟨rfl, i0, i1⟩ hL
    refine ⟨fun e => ?_, fun e => ?_⟩
    · have hi := N9.lt e
      have hi2 : i < ((molP gs p (rs, cs)).1.length : Int) := by omega
      have next : ∃ m : Nat, m < n ∧ (h9 = h9 ∧ 0 ≤ w64 (i + 1) ∧ w64 (i + 1) + m = (ns.length : Int)) := by
        rw [N9.succ i0 hi]
        exact ⟨n - 1, by omega, rfl, by omega, by omega⟩
      refine ⟨N9.inb i0 hi, _, N9.get i0 hi, fun e3 => ⟨M9.inb i0 hi2, _, M9.get i0 hi2, fun e4 => ?_, fun _ => next⟩, fun _ => next⟩
      exfalso
      simp only [decide_eq_true_eq] at e4
      have := least_law e1 e2 e3 i.toNat (by omega)
      rw [getD_getI (by omega), getD_getI (by omega)] at this
      omega
    · refine k_xMost M9 _ fun r r0 r1 r2 => ⟨r, rfl, hL9, fun e3 => ?_, fun _ => F9⟩
      simp only [decide_eq_true_eq] at e3
      have own := (own_law e2 fun x hx => by have := r1 x hx; omega).1
      refine k_AreEnough (G2.no f29) (R2.no f29) (Q2.no f29) M9 p _ fun h12 f12 => ⟨_, _, rfl, hL9.of_no f12, fun e4 => ?_, fun _ => ⟨fun e4 => ?_, fun _ => F9.no_trans f12⟩⟩
      · rw [own] at e4; simp at e4
      · rw [own] at e4; simp at e4
  · intro h13 F13 hL13
    refine k_DrawForceMoves (G1.no F13) B1 _ fun t' u' v' w' gs' rs' cs' ns' p' h14 G14 R14 Q14 N14 f14 => ⟨t', p', u', v', w', rfl, hL13.of_no f14, fun b3 b4 h18 hb3 hb4 f18 hL18 => ?_⟩
    have f18 := f18.in_nil
    have F18 := (F13.no_trans f14).no_trans f18
    refine k_ForceMoves (G14.no f18) (R14.no f18) (Q14.no f18) (N14.no f18) p' _ fun x y m1 h19 o19 q19 y1 y2 f19 => ⟨x, y, _, rfl, hL18.of_no f19, fun b5 h21 hb5 f21 hL21 => ?_⟩
    have f21 := f21.in_nil
    have f1421 := (f18.no_trans f19).no_trans f21
    have X21 : RdI (Iv h18.size m1) h21 x _ := Ow.rdI (Ow.no o19 f21)
    have Y21 : RdI (Iv m1 h19.size) h21 y _ := Ow.rdI (Ow.no q19 f21)
    refine k_spec_ForceMoves (G14.no f1421) (R14.no f1421) (Q14.no f1421) (N14.no f1421) p' _ fun x' y' m2 h22 o22 q22 y3 y4 f22 => ⟨x', y', _, rfl, hL21.of_no f22, fun e => by simp at e, fun _ b6 h24 hb6 f24 hL24 => ?_⟩
    have f24 := f24.in_nil
    have f2124 := f22.no_trans f24
    have F24 := ((F18.no_trans f19).no_trans f21).no_trans f2124
    refine k_xLoad (X21.no f2124) (Y21.no f2124) (Ow.rdI (Ow.no o22 f24)) (Ow.rdI (Ow.no q22 f24)) _ fun h25 f25 => ⟨_, rfl, hL24.of_no f25, fun e => by simp at e, fun _ => ⟨fun _ => HK h25 (F24.no_trans f25), fun e => ?_⟩⟩
    have e := not_f e
    have f2125 := f2124.no_trans f25
    refine k_xSum (Y21.no f2125) _ ⟨_, rfl, hL24.of_no f25, ?_⟩
    refine k_xSum ((Q14.no f1421).no f2125) _ ⟨_, rfl, hL24.of_no f25, ?_⟩
    have hs := force_sum e
    rw [hs]
    have := HK h25 (F24.no_trans f25)
    simpa using this
end Go.Proofs.Ytbhnecochpehdaa
