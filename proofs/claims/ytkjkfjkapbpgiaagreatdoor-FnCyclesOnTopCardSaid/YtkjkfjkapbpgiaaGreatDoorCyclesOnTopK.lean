import Derived.Test.YtkjkfjkapbpgiaaGreatDoorCyclesOnTopK0
set_option linter.unusedVariables false
set_option linter.unusedSimpArgs false
namespace Go.Proofs.YtkjkfjkapbpgiaaGreatDoor
open Go Go.Mx
theorem cell_keep {S T : Nat -> Prop} {h h' : Heap} {s : Sl} {xss : List (List Int)} {i : Int} (R : RdR S h s xss) (h0 : 0 ≤ i) (h1 : i < (xss.length : Int)) (f : Fr T h h') (hd : ∀ k, S k -> ¬ T k) {v : Value} (c : hcell h (s.at i 1) = some v) : hcell h' (s.at i 1) = some v := by
  obtain ⟨ss, e, V, _⟩ := R.out
  obtain ⟨a, ha, hs, _⟩ := V.cell i.toNat (by simp; omega)
  refine hcell_fr c f ?_
  rw [at_one ha, add_block]
  exact hd _ hs
theorem slv_inj {a b : Sl} (h : some a.v = some b.v) : a = b := by
  cases a; cases b; simp [Sl.v] at h; simp [h]
theorem row_putF {L : List (Nat × List Value)} {F : Nat -> Prop} {h : Heap} {s si : Sl} {xss : List (List Int)} {i : Int} (O : OwX h F s xss) (hF : ∀ k, h.size ≤ k -> F k) (h0 : 0 ≤ i) (h1 : i < (xss.length : Int)) (c0 : hcell h (s.at i 1) = some si.v) (hL : Vars h L) (hoff : ∀ p, p ∈ L -> ¬ F p.1) (hb : (xss[i.toNat]'(by omega)).length ≤ 1000000) (x : Int) (R : Heap -> Prop) (HR : ∀ h', OwX h' F s (xss.set i.toNat (xss[i.toNat]'(by omega) ++ [x])) -> Fr F h h' -> Vars h' L -> R h') : eop Tryz.prog (Instr.buildSlice tIs 1 #[(0, VI x)]) h fun rv h1 => ∃ t : Sl, rv = t.v /\ Vars h1 L /\ hcell h1 (s.at i 1) = some si.v /\ eop Tryz.prog (appS tIs tIs tIs si.v t.v) h1 fun rv2 h2 => ∃ t2 : Sl, rv2 = t2.v /\ Vars h2 L /\ InB s i /\ Writable h2 (s.at i 1) /\ Vars (hset h2 (s.at i 1) t2.v) L /\ ∀ h3, h3 = hset h2 (s.at i 1) t2.v -> Vars h3 L -> R h3 := by
  have Oi : OwX h (fun k => F k /\ k < h.size) s xss := O.mono fun k hk hk2 => ⟨hk2, hk⟩
  obtain ⟨sj, c1, c2, _⟩ := Oi.inner h0 h1
  have : sj = si := slv_inj (c1.symm.trans c0)
  subst this
  refine eop_lit rIs (fun k => h.size ≤ k) (fun _ h => h) 1 (by omega) [VI x] rfl rfl fun t h9 n9 c9 o9 f9 m9 _ => ⟨t, rfl, hL.of_no f9, hcell_fr c1 f9 (fun h => h), ?_⟩
  have s9 := f9.size
  have O9 := OwR.no Oi f9
  have c2' : OwI h9 F sj (xss[i.toNat]'(by omega)) := (Ow.no c2 f9).mono fun k _ hk => hk.1
  have on := c2'.rd.len
  have tn := o9.rd.len
  simp only [List.length_map, Nat.mul_one, List.length_cons, List.length_nil] at on tn
  refine eop_append rIs c2' (fun k hk => hF k (by omega)) o9.rd (plainVI [x]) (by omega) fun w h10 n10 o10 f10 d10 => ?_
  have g10 : Fr F h9 h10 := f10.mono fun k _ hk => (c2'.foot hk).1
  have V10 : Vars h10 L := (hL.of_no f9).fr g10 hoff
  have o10' : OwI h10 F w (xss[i.toNat]'(by omega) ++ [x]) := by rw [OwI, List.map_append]; exact o10
  obtain ⟨i11, w11, o11, f11⟩ := O9.outer2 h0 h1 (hcell_fr c1 f9 fun h => h) f10 (F' := F) o10' (fun k _ hk => hk.1) fun k hk => (d10 k hk).imp id fun hk2 hk3 => by have := hk3.2; omega
  have g11 : Fr F h10 _ := (O9.ownF f11).mono fun k _ hk => hk.1
  have V11 := V10.fr g11 hoff
  exact ⟨w, rfl, V10, i11, w11, V11, fun h3 e3 V3 => HR h3 (by rw [e3]; exact o11) (by rw [e3]; exact (f9.of_no.trans g10).trans g11) V3⟩
theorem eop_putF {L : List (Nat × List Value)} {F : Nat -> Prop} {m : Nat} {h : Heap} {s x : Sl} {xss : List (List Int)} {ys : List Int} (O : OwX h (fun k => F k /\ k < m) s xss) (X : OwI h (fun k => m ≤ k) x ys) (hF : ∀ k, m ≤ k -> F k) (hm : m ≤ h.size) (hL : Vars h L) (hoff : ∀ p, p ∈ L -> ¬ F p.1) (hb : xss.length ≤ 1000000) (R : Sl -> Heap -> Prop) (HR : ∀ t h', OwX h' F t (xss ++ [ys]) -> Fr F h h' -> Vars h' L -> R t h') : eop Tryz.prog (Instr.buildSlice tIss 1 #[(0, x.v)]) h fun rv h1 => ∃ t : Sl, rv = t.v /\ Vars h1 L /\ eop Tryz.prog (appS tIss tIss tIss s.v t.v) h1 fun rv2 h2 => ∃ t2 : Sl, rv2 = t2.v /\ Vars h2 L /\ R t2 h2 := by
  refine eop_lit rIss (fun k => h.size ≤ k) (fun _ h => h) 1 (by omega) [x.v] rfl rfl fun t h1 n1 c1 o1 f1 m1 _ => ⟨t, rfl, hL.of_no f1, ?_⟩
  have z1 := f1.size
  refine OwR.snoc rIss (OwR.no O f1) (F' := F) (fun k _ hk => hk.1) (fun k hk => hF k (by omega)) ((Ow.no X f1).mono fun k _ hk => hF k hk) (fun k hk hk2 => by have := (X.foot hk).1; have := hk2.2; omega) o1.rd (by omega) fun y h2 o2 f2 => ?_
  have g2 : Fr F h1 h2 := f2.mono fun k _ hk => hk.1
  have V2 : Vars h2 L := (hL.of_no f1).fr g2 hoff
  exact ⟨y, rfl, V2, HR y h2 o2 (f1.of_no.trans g2) V2⟩
theorem k_drplace {a n b : Nat} {h : Heap} {c : Sl} {i sd : Int} (V : IsVar h b [c.v, VI i, .int .u64 sd]) (hb : a ≤ b) (D : CurD a n h c i) (hn : n ≤ 10000000) (g : Sl) (K : Value -> Heap -> Prop) (HK : ∀ (p i' sd' : Int) h', IsVar h' b [c.v, VI i', .int .u64 sd'] -> CurD a (n + 4) h' c i' -> Fr (In [b]) h h' -> K (VI p) h') : callM Tryz.prog 61 #[VP b 0, .agg #[g.v]] h K := by
  have lb := V.lt
  have ub : ∀ {x y z : Heap}, Fr No x y -> Fr (In [b]) y z -> Fr (In [b]) x z := fun f g => f.of_no.trans g
  refine v61 b c i sd g h K (.cons V (by simp) .nil) ⟨fun _ b2 h1 hb2 f1 hL1 => ?_, fun e b2 h1 hb2 f1 hL1 => ?_⟩
  · have f1 := f1.in_nil
    have z1 := f1.size
    refine eop_lit rIs (fun k => h1.size ≤ k) (fun _ h => h) 4 (by omega) [VI (-1), VI 0, VI (g.n : Int), VI 4611686018427387904] rfl rfl fun w h6 n6 c6 o6 f6 m6 _ => ⟨w, rfl, hL1.of_no f6, ?_⟩
    have r6 : RdI (fun k => h1.size ≤ k) h6 w [-1, 0, (g.n : Int), 4611686018427387904] := o6.rdF
    exact k_among (hL1.of_no f6).tail.head hb ((D.no f1).no f6) (by omega) r6 (by omega) (by simp) _ fun v i7 sd7 h7 hv V7 D7 f7 => ⟨c, i7, sd7, v, rfl, vcur (hL1.of_no f6) 1 rfl f7 V7, HK v i7 sd7 h7 V7 (D7.up (by omega)) (ub (f1.no_trans f6) f7)⟩
  · have f1 := f1.in_nil
    have z1 := f1.size
    refine k_one hL1.tail.head hb (D.no f1) (by omega) 14 _ fun q i2 sd2 h2 V2 D2 f2 => ⟨c, i2, sd2, q, rfl, vcur hL1 1 rfl f2 V2, fun _ => ?_, fun _ => ?_⟩
    · have z2 := f2.size
      have hL2 := vcur hL1 1 rfl f2 V2
      refine eop_lit rIs (fun k => h2.size ≤ k) (fun _ h => h) 4 (by omega) [VI (-1), VI 0, VI (g.n : Int), VI 4611686018427387904] rfl rfl fun w h6 n6 c6 o6 f6 m6 _ => ⟨w, rfl, hL2.of_no f6, ?_⟩
      have r6 : RdI (fun k => h2.size ≤ k) h6 w [-1, 0, (g.n : Int), 4611686018427387904] := o6.rdF
      exact k_among (hL2.of_no f6).tail.head hb (D2.no f6) (by omega) r6 (by omega) (by simp) _ fun v i7 sd7 h7 hv V7 D7 f7 => ⟨c, i7, sd7, v, rfl, vcur (hL2.of_no f6) 1 rfl f7 V7, HK v i7 sd7 h7 V7 (D7.up (by omega)) ((ub f1 f2).trans (ub f6 f7))⟩
    · have hL2 := vcur hL1 1 rfl f2 V2
      exact k_pick hL2.tail.head hb D2 (by omega) _ _ fun v i5 sd5 h5 v0 v1 V5 D5 f5 => ⟨c, i5, sd5, v, rfl, vcur hL2 1 rfl f5 V5, HK v i5 sd5 h5 V5 (D5.up (by omega)) ((ub f1 f2).trans f5)⟩
theorem k_drgraph9 {a n b : Nat} {h : Heap} {c : Sl} {i sd : Int} (V : IsVar h b [c.v, VI i, .int .u64 sd]) (hb : a ≤ b) (D : CurD a n h c i) (hn : n ≤ 10000000) (K : Value -> Heap -> Prop) (HK : ∀ (t : Sl) (gs : List (List Int)) (i' sd' : Int) h', gs.length ≤ 9 -> RdR (fun k => h.size ≤ k) h' t gs -> IsVar h' b [c.v, VI i', .int .u64 sd'] -> CurD a (n + 200) h' c i' -> Fr (In [b]) h h' -> K (.agg #[t.v]) h') : callM Tryz.prog 121 #[VP b 0] h K := by
  have lb := V.lt
  refine v121 b c i sd h K (.cons V (by simp) .nil) fun b2 h1 hb2 f1 hL1 => ?_
  have f1 := f1.in_nil
  have z1 := f1.size
  have l2 : b2 < h1.size := hL1.head.lt
  have fin : ∀ (h' : Heap), Fr (fun k => k = b ∨ h.size ≤ k) h h' -> Fr (In [b]) h h' := fun h' f => f.mono fun k hk hk2 => by
    rcases hk2 with e | e
    · simp [In, e]
    · omega
  have inb : ∀ {x y : Heap}, Fr (In [b]) x y -> Fr (fun k => k = b ∨ h.size ≤ k) x y := fun f => f.mono fun k _ hk => .inl (by simpa [In] using hk)
  refine k_sureGraph hL1.tail.head hb (D.no f1) (by omega) (most := 6) (by omega) (by omega) _ fun t xss i2 sd2 h2 o2 g2 n1 n2 V2 D2 f2 => ⟨c, i2, sd2, t, rfl, vcur hL1 1 rfl f2 V2, fun b3 h4 hb3 f4 hL4 => ?_⟩
  have f4 := f4.in_nil
  have z2 := f2.size
  have z4 := f4.size
  have l3 : b3 < h4.size := hL4.head.lt
  have tn := OwR.len o2
  generalize hF : (fun k => (h1.size ≤ k /\ k < h2.size) ∨ h4.size ≤ k) = F
  have F1 : ∀ k, F k -> h1.size ≤ k := fun k hk => by rw [← hF] at hk; rcases hk with a | a <;> omega
  have F2 : ∀ k, h4.size ≤ k -> F k := fun k hk => by rw [← hF]; exact .inr hk
  have F3 : ¬ F b3 := fun hk => by rw [← hF] at hk; rcases hk with a | a <;> omega
  have o4 : OwX h4 F t xss := (OwR.no o2 f4).mono fun k hk hk2 => by rw [← hF]; exact .inl hk2
  have f04 : Fr (fun k => k = b ∨ h.size ≤ k) h h4 := (f1.of_no.trans (inb f2)).trans f4.of_no
  have gb : ∀ {X Y : Heap} {w : Sl} {zs : List (List Int)}, OwX X F w zs -> Fr (In [b]) X Y -> OwX Y F w zs := fun O f => OwR.fr O f fun k hk hk2 hk3 => by simp [In] at hk3; have := F1 _ hk2; omega
  have fT : ∀ {x y : Heap}, Fr F x y -> Fr (fun k => k = b ∨ h.size ≤ k) x y := fun f => f.mono fun k _ hk => .inr (by have := F1 _ hk; omega)
  have hoff : ∀ (A B C : List Value) (q : Nat × List Value), q ∈ [(b3, A), (b2, B), (b, C)] -> ¬ F q.1 := fun A B C q hq => by
    simp only [List.mem_cons, List.not_mem_nil, or_false] at hq
    rcases hq with rfl | rfl | rfl
    · exact F3
    · exact fun hk => by have := F1 _ hk; omega
    · exact fun hk => by have := F1 _ hk; omega
  have out : ∀ (w : Sl) (zs : List (List Int)) (i' sd' : Int) (X Y : Heap), OwX X F w zs -> zs.length ≤ 9 -> CurD a (n + 200) X c i' -> Fr (fun k => k = b ∨ h.size ≤ k) h X -> Fr (In [b2]) X Y -> IsVar Y b [c.v, VI i', .int .u64 sd'] -> K (.agg #[w.v]) Y := fun w zs i' sd' X Y O zl DD ff f VV => by
    have OY : OwX Y F w zs := OwR.fr O f fun k hk hk2 hk3 => by simp [In] at hk3; subst hk3; have := F1 _ hk2; omega
    exact HK w zs i' sd' Y zl ((OwR.rd OY).mono fun k hk => by have := F1 _ hk.1; omega) VV (DD.fr f fun k hk hk2 => by simp [In] at hk2; omega) (fin _ (ff.trans (f.mono fun k _ hk => .inr (by simp [In] at hk; omega))))
  refine k_pick hL4.tail.tail.head hb (D2.no f4) (by omega) 16 _ fun s i5 sd5 h5 s0 s1 V5 D5 f5 => ⟨c, i5, sd5, s, rfl, vcur hL4 2 rfl f5 V5, fun _ => ?_, fun _ => ⟨fun _ => ?_, fun _ => ⟨fun _ => ?_, fun _ => ⟨fun _ h24 f24 hL24 => ?_, fun _ h25 f25 hL25 => ?_⟩⟩⟩⟩
  · have o5 := gb o4 f5
    have z5 := f5.size
    have hL5 : Vars h5 [(b3, [t.v]), (b2, [nilSl.v]), (b, [c.v, VI i5, .int .u64 sd5])] := vcur hL4 2 rfl f5 V5
    have hp : (0 : Int) < (xss.length : Int) := by omega
    obtain ⟨si, c1, c2, _⟩ := OwR.inner o5 (Int.le_refl 0) hp
    have r5 := OwR.rd o5
    refine ⟨r5.inb (Int.le_refl 0) hp, si, c1, ?_⟩
    refine eop_lit rIs (fun k => h5.size ≤ k) (fun _ h => h) 3 (by omega) [VI (-1), VI (t.n : Int), VI 4611686018427387904] rfl rfl fun w h6 n6 c6 o6 f6 m6 _ => ⟨w, rfl, hL5.of_no f6, hcell_fr c1 f6 (fun h => h), ?_⟩
    have z6 := f6.size
    have r6 : RdI (fun k => h5.size ≤ k) h6 w [-1, (t.n : Int), 4611686018427387904] := o6.rdF
    refine k_among (hL5.of_no f6).tail.tail.head hb (D5.no f6) (by omega) r6 (by omega) (by simp) _ fun v i7 sd7 h7 hv V7 D7 f7 => ⟨c, i7, sd7, v, rfl, vcur (hL5.of_no f6) 2 rfl f7 V7, ?_⟩
    have z7 := f7.size
    have hL7 : Vars h7 [(b3, [t.v]), (b2, [nilSl.v]), (b, [c.v, VI i7, .int .u64 sd7])] := vcur (hL5.of_no f6) 2 rfl f7 V7
    have c7 : hcell h7 (t.at 0 1) = some si.v := cell_keep (r5.no f6) (Int.le_refl 0) hp f7 (fun k hk hk2 => by simp [In] at hk2; have := F1 _ hk.1; omega) (hcell_fr c1 f6 fun h => h)
    have g0 := (g2 _ (List.getElem_mem (show (0 : Int).toNat < xss.length by omega))).1
    refine ⟨c7, row_putF (gb (OwR.no o5 f6) f7) (fun k hk => F2 k (by omega)) (Int.le_refl 0) hp c7 hL7 (fun q hq => hoff _ _ _ q hq) (by omega) v _ fun h10 o10 f10 V10 h11 f11 hL11 => ?_⟩
    exact out t _ i7 sd7 h10 h11 o10 (by simp; omega) ((D7.fr f10 fun k hk hk2 => by have := F1 _ hk2; omega).up (by omega)) ((((f04.trans (inb f5)).trans f6.of_no).trans (inb f7)).trans (fT f10)) f11 hL11.tail.tail.head
  · have o5 := gb o4 f5
    have z5 := f5.size
    have hL5 : Vars h5 [(b3, [t.v]), (b2, [nilSl.v]), (b, [c.v, VI i5, .int .u64 sd5])] := vcur hL4 2 rfl f5 V5
    have hp : (0 : Int) < (xss.length : Int) := by omega
    refine k_pick hL5.tail.tail.head hb D5 (by omega) 2 _ fun y i6 sd6 h6 y0 y1 V6 D6 f6 => ⟨c, i6, sd6, y, rfl, vcur hL5 2 rfl f6 V6, ?_⟩
    have y1 := y1 (by omega)
    have z6 := f6.size
    have hL6 : Vars h6 [(b3, [t.v]), (b2, [nilSl.v]), (b, [c.v, VI i6, .int .u64 sd6])] := vcur hL5 2 rfl f6 V6
    rw [w64_eq (5 + y) (by omega) (by omega)]
    have ey : 5 + y = (((5 + y).toNat : Nat) : Int) := by omega
    rw [ey]
    refine eop_make rIs (fun k => h6.size ≤ k) (fun _ h => h) .i64 .i64 (5 + y).toNat (5 + y).toNat (Nat.le_refl _) (by omega) fun w h7 n7 c7 o7 f7 m7 _ => ⟨w, rfl, hL6.of_no f7, ?_⟩
    have z7 := f7.size
    have o7' : OwI h7 (fun k => h6.size ≤ k) w (List.replicate (5 + y).toNat 0) := by
      have e : (List.replicate (5 + y).toNat [VI 0]).flatten = (List.replicate (5 + y).toNat (0 : Int)).map VI := by simp [List.flatten_replicate_singleton]
      rw [e] at o7; exact o7
    have o6i : OwX h6 (fun k => F k /\ k < h6.size) t xss := (gb o5 f6).mono fun k hk hk2 => ⟨hk2, hk⟩
    exact row_set (m := h6.size) (OwR.no o6i f7) o7' (fun k hk => F2 k (by omega)) (Int.le_refl 0) hp (hL6.of_no f7) (fun q hq => hoff _ _ _ q hq) _ fun h10 o10 f10 V10 h11 f11 hL11 => out t _ i6 sd6 h10 h11 o10 (by simp; omega) (((D6.no f7).fr f10 fun k hk hk2 => by have := F1 _ hk2; omega).up (by omega)) ((((f04.trans (inb f5)).trans (inb f6)).trans f7.of_no).trans (fT f10)) f11 hL11.tail.tail.head
  · have o5 := gb o4 f5
    have z5 := f5.size
    refine ⟨fun m x d i' sd' h' => d = c /\ CurD a (n + 104 + 4 * (9 - m)) h' c i' /\ m ≤ 9 /\ (∃ zs, OwX h' F x zs /\ zs.length + m = 9) /\ Fr (fun k => k = b ∨ h.size ≤ k) h h' /\ h4.size ≤ h'.size, ⟨9 - xss.length, rfl, D5.up (by omega), by omega, ⟨xss, o5, by omega⟩, f04.trans (inb f5), by omega⟩, ?_⟩
    rintro m x d i16 sd16 h16 ⟨rfl, D16, m9, ⟨zs, o16, e16⟩, f16, z16⟩ hL16
    have xn := OwR.len o16
    refine k_pick hL16.tail.tail.head hb D16 (by omega) 2 _ fun y i17 sd17 h17 y0 y1 V17 D17 f17 => ⟨d, i17, sd17, y, rfl, vcur hL16 2 rfl f17 V17, fun e => ?_, fun e h22 f22 hL22 => ?_⟩
    · have y1 := y1 (by omega)
      have z17 := f17.size
      rw [w64_eq (8 + y) (by omega) (by omega)] at e
      simp only [decide_eq_true_eq] at e
      have hL17 : Vars h17 [(b3, [x.v]), (b2, [nilSl.v]), (b, [d.v, VI i17, .int .u64 sd17])] := vcur hL16 2 rfl f17 V17
      refine eop_lit rIs (fun k => h17.size ≤ k) (fun _ h => h) 1 (by omega) [VI 0] rfl rfl fun w h18 n18 c18 o18 f18 m18 _ => ⟨w, rfl, hL17.of_no f18, ?_⟩
      have z18 := f18.size
      have o17i : OwX h17 (fun k => F k /\ k < h17.size) x zs := (gb o16 f17).mono fun k hk hk2 => ⟨hk2, hk⟩
      refine eop_putF (m := h17.size) (xss := zs) (ys := [0]) (OwR.no o17i f18) o18 (fun k hk => F2 k (by omega)) z18 (hL17.of_no f18) (fun q hq => hoff _ _ _ q hq) (by omega) _ fun u h20 o20 f20 V20 h21 f21 hL21 => ?_
      have z20 := f20.size
      have z21 := f21.size
      have o21 : OwX h21 F u (zs ++ [[0]]) := OwR.fr o20 f21 fun k hk hk2 hk3 => by simp [In] at hk3; subst hk3; exact F3 hk2
      refine ⟨m - 1, by omega, rfl, ?_, by omega, ⟨_, o21, by simp; omega⟩, ?_, by omega⟩
      · exact (((D17.no f18).fr f20 fun k hk hk2 => by have := F1 _ hk2; omega).fr f21 fun k hk hk2 => by simp [In] at hk2; omega).up (by omega)
      · exact (((f16.trans (inb f17)).trans f18.of_no).trans (fT f20)).trans (f21.mono fun k _ hk => .inr (by simp [In] at hk; omega))
    · exact out x zs i17 sd17 h17 h22 (gb o16 f17) (by omega) (D17.up (by omega)) (f16.trans (inb f17)) f22 hL22.tail.tail.head
  · have g24 : Fr (fun k => k = b ∨ h.size ≤ k) h5 h24 := f24.mono fun k _ hk => .inr (by simp [In] at hk; omega)
    exact HK nilSl [] i5 sd5 h24 (by simp) ⟨[], rfl, RdV.nil _ _ _, fun i h1 => by simp at h1⟩ hL24.tail.tail.head ((D5.fr f24 fun k hk hk2 => by simp [In] at hk2; omega).up (by omega)) (fin _ ((f04.trans (inb f5)).trans g24))
  · exact out t xss i5 sd5 h5 h25 (gb o4 f5) (by omega) (D5.up (by omega)) (f04.trans (inb f5)) f25 hL25.tail.tail.head
theorem k_big (s t : Sl) (h : Heap) (K : Value -> Heap -> Prop) (HK : ∀ b, K (VB b) h) : callM Tryz.prog 5 #[s.v, t.v] h K :=
  v5 s t h K ⟨fun _ => HK true, fun _ => HK _⟩
theorem k_wSame {S S' : Nat -> Prop} {h : Heap} {a b : Sl} {xs ys : List Int} (H : RdI S h a xs) (H' : RdI S' h b ys) (K : Value -> Heap -> Prop) (HK : K (VB (decide (xs = ys))) h) : callM Tryz.prog 16 #[a.v, b.v] h K := by
  refine v16 a b h K ⟨fun e => ?_, fun e => ?_⟩
  · have e1 := not_t e
    rw [H.len, H'.len] at e1
    have : ¬ xs = ys := fun e2 => by subst e2; simp at e1
    rw [decide_eq_false this] at HK
    exact HK
  · have e1 := not_f e
    rw [H.len, H'.len] at e1
    have hl : xs.length = ys.length := by simp at e1; omega
    refine ⟨fun n i h' => h' = h /\ 0 ≤ i /\ i + n = (xs.length : Int) /\ decide (xs = ys) = decide (xs.drop i.toNat = ys.drop i.toNat), ⟨xs.length, rfl, by omega, by omega, by simp⟩, ?_⟩
    rintro n i hh ⟨rfl, h0, h1, h2⟩ hL
    refine ⟨fun e => ?_, fun e => ?_⟩
    · have hi := H.lt e
      have hi' : i < (ys.length : Int) := by omega
      refine ⟨H.inb h0 hi, _, H.get h0 hi, H'.inb h0 hi', _, H'.get h0 hi', fun e => ?_, fun e => ?_⟩
      · rw [drop_cons xs h0 hi, drop_cons ys h0 hi'] at h2
        have e3 := not_t e
        simp only [decide_eq_false_iff_not] at e3
        rw [h2, decide_eq_false (fun e4 => e3 (List.cons.inj e4).1)] at HK
        exact HK
      · rw [drop_cons xs h0 hi, drop_cons ys h0 hi'] at h2
        have e3 := not_f e
        simp only [decide_eq_true_eq] at e3
        rw [H.succ h0 hi]
        refine ⟨n - 1, by omega, rfl, by omega, by omega, h2.trans ?_⟩
        rw [e3]
        simp
    · have hi := H.ge e
      rw [List.drop_of_length_le (by omega), List.drop_of_length_le (by omega)] at h2
      rw [h2] at HK
      exact HK
theorem k_wRows {S S' : Nat -> Prop} {h : Heap} {a b : Sl} {xs ys : List (List Int)} (H : RdR S h a xs) (H' : RdR S' h b ys) (he : xs = ys) (K : Value -> Heap -> Prop) (HK : K (VB true) h) : callM Tryz.prog 15 #[a.v, b.v] h K := by
  subst he
  refine v15 a b h K ⟨fun e => ?_, fun e => ?_⟩
  · have e1 := not_t e
    rw [H.len, H'.len] at e1
    simp at e1
  · refine ⟨fun n i h' => h = h' /\ 0 ≤ i /\ i + n = (xs.length : Int), ⟨xs.length, rfl, by omega, by omega⟩, ?_⟩
    rintro n i hh ⟨rfl, h0, h1⟩ hL
    refine ⟨fun e => ?_, fun e => HK⟩
    have hi := H.lt e
    obtain ⟨si, c1, r1⟩ := H.get h0 hi
    obtain ⟨sj, c2, r2⟩ := H'.get h0 hi
    refine ⟨H.inb h0 hi, si, c1, H'.inb h0 hi, sj, c2, k_wSame r1 r2 _ ⟨_, rfl, .nil, fun e => by simp at e, fun _ => ?_⟩⟩
    rw [H.succ h0 hi]
    exact ⟨n - 1, by omega, rfl, by omega, by omega⟩
def inA (m : Nat) (xs : List Int) : Prop := ∀ y, y ∈ xs -> 0 ≤ y /\ y < (m : Int)
theorem inA.set {m : Nat} {xs : List Int} (H : inA m xs) (i : Nat) {v : Int} (h0 : 0 ≤ v) (h1 : v < (m : Int)) : inA m (xs.set i v) := fun y hy => by
  rcases List.mem_or_eq_of_mem_set hy with h | h
  · exact H y h
  · subst h; exact ⟨h0, h1⟩
theorem inA.get {m : Nat} {xs : List Int} (H : inA m xs) {i : Nat} (hi : i < xs.length) : 0 ≤ xs[i] /\ xs[i] < (m : Int) := H _ (List.getElem_mem hi)
theorem k_shufB {a n b : Nat} {h : Heap} {c : Sl} {i sd : Int} (V : IsVar h b [c.v, VI i, .int .u64 sd]) (hb : a ≤ b) (D : CurD a n h c i) (hn : n ≤ 1000000000) {m : Nat} (hm : m ≤ 100) (K : Value -> Heap -> Prop) (HK : ∀ (t : Sl) (xs : List Int) (i' sd' : Int) h', OwI h' (fun k => h.size ≤ k) t xs -> xs.length = m -> inA m xs -> IsVar h' b [c.v, VI i', .int .u64 sd'] -> CurD a (n + 200) h' c i' -> Fr (In [b]) h h' -> K t.v h') : callM Tryz.prog 130 #[VP b 0, VI (m : Int)] h K := by
  have lb := V.lt
  refine v130 b c i sd m h K (.cons V (by simp) .nil) ⟨fun n x p h' => 0 ≤ p /\ p + n = (m : Int) /\ (∃ xs, OwI h' (fun k => h.size ≤ k) x xs /\ xs.length = p.toNat /\ inA m xs) /\ Fr No h h', ⟨m, by omega, by omega, ⟨[], Ow.nil _ _ _ _, rfl, fun y hy => by cases hy⟩, Fr.refl _ _⟩, ?_⟩
  rintro n1 x p h1 ⟨p0, p1, ⟨xs, o1, e1, A1⟩, f1⟩ hL1
  have z1 := f1.size
  refine ⟨fun e => ?_, fun e => ?_⟩
  · simp only [decide_eq_true_eq] at e
    refine eop_putI o1 (fun k hk => by omega) hL1 (fun q hq hk => ?_) (by omega) (fun t2 h6 => ∃ m : Nat, m < n1 /\ _) fun y h3 o3 f3 V3 => ?_
    · simp only [List.mem_cons, List.not_mem_nil, or_false] at hq
      subst hq
      simp only at hk
      omega
    · rw [w64_eq _ (by omega) (by omega)]
      refine ⟨n1 - 1, by omega, by omega, by omega, ⟨_, o3, by simp; omega, fun z hz => ?_⟩, f1.fresh f3 fun k hk => by omega⟩
      rcases List.mem_append.mp hz with hz | hz
      · exact A1 z hz
      · simp only [List.mem_cons, List.not_mem_nil, or_false] at hz
        subst hz
        omega
  simp only [decide_eq_false_iff_not] at e
  have xn : x.n = xs.length := RdI.len o1.rdF
  refine ⟨fun n2 j c' i' sd' h' => 0 ≤ j /\ j + n2 = (m : Int) /\ c' = c /\ CurD a (n + 2 * j.toNat) h' c i' /\ (∃ ys, OwI h' (fun k => h.size ≤ k) x ys /\ ys.length = m /\ inA m ys) /\ Fr (In [b]) h h', ⟨m, by omega, by omega, rfl, (D.no f1).up (by omega), ⟨xs, o1, by omega, A1⟩, f1.of_no⟩, ?_⟩
  rintro n2 j c' i4 sd4 h4 ⟨j0, j1, rfl, D4, ⟨ys, o4, e4, A4⟩, f4⟩ hL4
  refine ⟨fun e5 => ?_, fun e5 => ?_⟩
  · simp only [decide_eq_true_eq] at e5
    refine k_pick hL4.head hb D4 (by omega) m _ fun y i5 sd5 h5 y0 y1 V5 D5 f5 => ⟨c', i5, sd5, y, rfl, .cons V5 (by simp) .nil, ?_⟩
    have y1 := y1 (by omega)
    have o5 : OwI h5 (fun k => h.size ≤ k) x ys := Ow.fr o4 f5 fun k hk hk2 => by have := (o4.foot hk).1; simp [In] at hk2; omega
    have R5 : RdI (fun k => h.size ≤ k) h5 x ys := o5.rdF
    have by1 := A4.get (show y.toNat < ys.length by omega)
    have by2 := A4.get (show j.toNat < ys.length by omega)
    obtain ⟨w1, w2, w3⟩ := o5.store1 j0 (by omega) (VI (ys[y.toNat]'(by omega)))
    rw [← List.map_set] at w2
    obtain ⟨u1, u2, u3⟩ := Ow.store1 w2 y0 (by omega) (VI (ys[j.toNat]'(by omega)))
    rw [← List.map_set] at u2
    have w3' : Fr (fun k => h.size ≤ k) h5 _ := w3.mono fun k _ hk => (o5.foot hk).1
    have u3' : Fr (fun k => h.size ≤ k) _ _ := u3.mono fun k _ hk => (w2.foot hk).1
    have off : ∀ q, q ∈ [(b, [c'.v, VI i5, Value.int .u64 sd5])] -> ¬ (h.size ≤ q.1) := fun q hq => by
      simp only [List.mem_cons, List.not_mem_nil, or_false] at hq
      subst hq
      simp only
      omega
    have hL5 : Vars h5 [(b, [c'.v, VI i5, Value.int .u64 sd5])] := .cons V5 (by simp) .nil
    refine ⟨R5.inb j0 (by omega), _, R5.get j0 (by omega), R5.inb y0 (by omega), _, R5.get y0 (by omega), R5.inb j0 (by omega), w1, hL5.fr w3' off, ?_⟩
    rintro h6 rfl hL6
    refine ⟨R5.inb y0 (by omega), u1, hL6.fr u3' off, ?_⟩
    rintro h7 rfl hL7
    rw [w64_eq _ (by omega) (by omega)]
    have zz := f4.size
    have z5 := f5.size
    refine ⟨n2 - 1, by omega, by omega, by omega, rfl, (((D5.fr w3' fun k hk hk2 => by omega).fr u3' fun k hk hk2 => by omega).up (by omega)), ⟨_, u2, by simp [e4], (A4.set _ by1.1 by1.2).set _ by2.1 by2.2⟩, ?_⟩
    exact (f4.trans f5).fresh2 (w3'.trans u3') fun k hk => hk
  · simp only [decide_eq_false_iff_not] at e5
    exact HK x ys i4 sd4 h4 o4 e4 A4 hL4.head (D4.up (by omega)) f4
theorem row_put2 {L : List (Nat × List Value)} {F : Nat -> Prop} {h : Heap} {s si : Sl} {xss : List (List Int)} {i : Int} (A : Heap -> Prop) (hA : ∀ h', Fr F h h' -> A h') (O : OwX h F s xss) (hF : ∀ k, h.size ≤ k -> F k) (h0 : 0 ≤ i) (h1 : i < (xss.length : Int)) (c0 : hcell h (s.at i 1) = some si.v) (hL : Vars h L) (hoff : ∀ p, p ∈ L -> ¬ F p.1) (hb : (xss[i.toNat]'(by omega)).length ≤ 1000000) (x : Int) (R : Heap -> Prop) (HR : ∀ h', OwX h' F s (xss.set i.toNat (xss[i.toNat]'(by omega) ++ [x])) -> Fr F h h' -> Vars h' L -> R h') : eop Tryz.prog (Instr.buildSlice tIs 1 #[(0, VI x)]) h fun rv h1 => ∃ t : Sl, rv = t.v /\ Vars h1 L /\ hcell h1 (s.at i 1) = some si.v /\ A h1 /\ A h1 /\ eop Tryz.prog (appS tIs tIs tIs si.v t.v) h1 fun rv2 h2 => ∃ t2 : Sl, rv2 = t2.v /\ Vars h2 L /\ A h2 /\ A h2 /\ InB s i /\ Writable h2 (s.at i 1) /\ Vars (hset h2 (s.at i 1) t2.v) L /\ ∀ h3, h3 = hset h2 (s.at i 1) t2.v -> Vars h3 L -> R h3 := by
  have Oi : OwX h (fun k => F k /\ k < h.size) s xss := O.mono fun k hk hk2 => ⟨hk2, hk⟩
  obtain ⟨sj, c1, c2, _⟩ := Oi.inner h0 h1
  have : sj = si := slv_inj (c1.symm.trans c0)
  subst this
  refine eop_lit rIs (fun k => h.size ≤ k) (fun _ h => h) 1 (by omega) [VI x] rfl rfl fun t h9 n9 c9 o9 f9 m9 _ => ⟨t, rfl, hL.of_no f9, hcell_fr c1 f9 (fun h => h), hA _ f9.of_no, hA _ f9.of_no, ?_⟩
  have s9 := f9.size
  have O9 := OwR.no Oi f9
  have c2' : OwI h9 F sj (xss[i.toNat]'(by omega)) := (Ow.no c2 f9).mono fun k _ hk => hk.1
  have on := c2'.rd.len
  have tn := o9.rd.len
  simp only [List.length_map, Nat.mul_one, List.length_cons, List.length_nil] at on tn
  refine eop_append rIs c2' (fun k hk => hF k (by omega)) o9.rd (plainVI [x]) (by omega) fun w h10 n10 o10 f10 d10 => ?_
  have g10 : Fr F h9 h10 := f10.mono fun k _ hk => (c2'.foot hk).1
  have V10 : Vars h10 L := (hL.of_no f9).fr g10 hoff
  have o10' : OwI h10 F w (xss[i.toNat]'(by omega) ++ [x]) := by rw [OwI, List.map_append]; exact o10
  obtain ⟨i11, w11, o11, f11⟩ := O9.outer2 h0 h1 (hcell_fr c1 f9 fun h => h) f10 (F' := F) o10' (fun k _ hk => hk.1) fun k hk => (d10 k hk).imp id fun hk2 hk3 => by have := hk3.2; omega
  have g11 : Fr F h10 _ := (O9.ownF f11).mono fun k _ hk => hk.1
  have V11 := V10.fr g11 hoff
  have a10 := hA _ (f9.of_no.trans g10)
  exact ⟨w, rfl, V10, a10, a10, i11, w11, V11, fun h3 e3 V3 => HR h3 (by rw [e3]; exact o11) (by rw [e3]; exact (f9.of_no.trans g10).trans g11) V3⟩
theorem RdR.tl {S : Nat -> Prop} {h : Heap} {s : Sl} {xss : List (List Int)} (H : RdR S h s xss) (h1 : 1 ≤ xss.length) : RdR S h (s.cut 1 1 s.n s.c) xss.tail := by
  obtain ⟨ss, e, V, R⟩ := H.out
  have sn := V.len
  simp only [List.length_map, Nat.mul_one] at sn
  have hc := RdV.cut V (l := 1) (m := s.n) (by omega) (Nat.le_refl _)
  have e2 : ((ss.map Sl.v).drop (1 * 1)).take ((s.n - 1) * 1) = ss.tail.map Sl.v := by
    cases ss with
    | nil => simp
    | cons x ss =>
      simp only [List.length_cons] at sn
      rw [show s.n - 1 = ss.length by omega]; simp [List.take_of_length_le]
  rw [e2] at hc
  refine ⟨ss.tail, by simp [e], hc, fun i a b => ?_⟩
  have := R (i + 1) (by simp at a; omega) (by simp at b; omega)
  simpa using this
theorem cycL_rows (n : Int) (both : Bool) : ∀ p r, r ∈ cycL' n both p -> r.length ≤ 2
  | 0, r, h => by cases h
  | p + 1, r, h => by
    rw [cycL', List.mem_append] at h
    rcases h with h | h
    · exact cycL_rows n both p r h
    · simp only [List.mem_cons, List.not_mem_nil, or_false] at h
      subst h
      unfold cycR
      cases both <;> simp
theorem rows_set {xss : List (List Int)} {B : Nat} (H : ∀ r, r ∈ xss -> r.length ≤ B) (i : Nat) (hi : i < xss.length) (x : Int) : ∀ r, r ∈ xss.set i (xss[i] ++ [x]) -> r.length ≤ B + 1 := fun r hr => by
  rcases List.mem_or_eq_of_mem_set hr with h | h
  · exact Nat.le_succ_of_le (H r h)
  · subst h
    have := H _ (List.getElem_mem hi)
    simp
    omega
theorem k_drbalanced {a n b : Nat} {h : Heap} {c : Sl} {i sd : Int} (V : IsVar h b [c.v, VI i, .int .u64 sd]) (hb : a ≤ b) (D : CurD a n h c i) (hn : n ≤ 1000000) (K : Value -> Heap -> Prop) (HK : ∀ (t : Sl) (gs : List (List Int)) (i' sd' : Int) h', gs.length ≤ 9 -> RdR (fun k => h.size ≤ k) h' t gs -> IsVar h' b [c.v, VI i', .int .u64 sd'] -> CurD a (n + 500) h' c i' -> Fr (In [b]) h h' -> K (.agg #[t.v]) h') : callM Tryz.prog 81 #[VP b 0] h K := by
  have lb := V.lt
  refine v81 b c i sd h K (.cons V (by simp) .nil) fun b2 h1 hb2 f1 hL1 => ?_
  have f1 := f1.in_nil
  have z1 := f1.size
  have l2 : b2 < h1.size := hL1.head.lt
  have fin : ∀ (h' : Heap), Fr (fun k => k = b ∨ h.size ≤ k) h h' -> Fr (In [b]) h h' := fun h' f => f.mono fun k hk hk2 => by
    rcases hk2 with e | e
    · simp [In, e]
    · omega
  have inb : ∀ {x y : Heap}, Fr (In [b]) x y -> Fr (fun k => k = b ∨ h.size ≤ k) x y := fun f => f.mono fun k _ hk => .inl (by simpa [In] using hk)
  refine k_one hL1.tail.head hb (D.no f1) (by omega) 6 _ fun q i2 sd2 h2 V2 D2 f2 => ⟨c, i2, sd2, q, rfl, vcur hL1 1 rfl f2 V2, fun _ => ?_, fun _ => ?_⟩
  · have hL2 := vcur hL1 1 rfl f2 V2
    have z2 := f2.size
    refine k_drgraph9 hL2.tail.head hb D2 (by omega) _ fun t gs i3 sd3 h3 gl G3 V3 D3 f3 => ⟨c, i3, sd3, t, rfl, vcur hL2 1 rfl f3 V3, fun h4 f4 hL4 => ?_⟩
    have g4 : Fr (fun k => k = b ∨ h.size ≤ k) h3 h4 := f4.mono fun k _ hk => .inr (by simp [In] at hk; omega)
    exact HK t gs i3 sd3 h4 gl ((G3.fr f4 fun k hk hk2 => by simp [In] at hk2; omega).mono fun k hk => by omega) hL4.tail.head ((D3.fr f4 fun k hk hk2 => by simp [In] at hk2; omega).up (by omega)) (fin _ (((f1.of_no.trans (inb f2)).trans (inb f3)).trans g4))
  have hL2 := vcur hL1 1 rfl f2 V2
  have z2 := f2.size
  refine k_pick hL2.tail.head hb D2 (by omega) 5 _ fun y i5 sd5 h5 y0 y1 V5 D5 f5 => ⟨c, i5, sd5, y, rfl, vcur hL2 1 rfl f5 V5, ?_⟩
  have y1 := y1 (by omega)
  have hL5 := vcur hL2 1 rfl f5 V5
  have z5 := f5.size
  refine k_one hL5.tail.head hb D5 (by omega) 2 _ fun q2 i6 sd6 h6 V6 D6 f6 => ⟨c, i6, sd6, q2, rfl, vcur hL5 1 rfl f6 V6, ?_⟩
  have hL6 := vcur hL5 1 rfl f6 V6
  have z6 := f6.size
  rw [w64_eq (1 + y) (by omega) (by omega)]
  obtain ⟨N, eN⟩ : ∃ N : Nat, 1 + y = (N : Int) := ⟨(1 + y).toNat, by omega⟩
  rw [eN]
  refine k_grCycle N (by omega) q2 _ fun t h7 o7 f7 => ⟨t, rfl, hL6.of_no f7, fun b3 h9 hb3 f9 hL9 => ?_⟩
  have f9 := f9.in_nil
  have z7 := f7.size
  have z9 := f9.size
  have l3 : b3 < h9.size := hL9.head.lt
  generalize hF : (fun k => (h6.size ≤ k /\ k < h7.size) ∨ h9.size ≤ k) = F
  have F1 : ∀ k, F k -> h6.size ≤ k := fun k hk => by rw [← hF] at hk; rcases hk with a | a <;> omega
  have F2 : ∀ k, h9.size ≤ k -> F k := fun k hk => by rw [← hF]; exact .inr hk
  have F3 : ¬ F b3 := fun hk => by rw [← hF] at hk; rcases hk with a | a <;> omega
  have o9 : OwX h9 F t (cycP N q2) := (OwR.no o7 f9).mono fun k hk hk2 => by rw [← hF]; exact .inl hk2
  have gb : ∀ {X Y : Heap} {w : Sl} {zs : List (List Int)}, OwX X F w zs -> Fr (In [b]) X Y -> OwX Y F w zs := fun O f => OwR.fr O f fun k hk hk2 hk3 => by simp [In] at hk3; have := F1 _ hk2; omega
  have fT : ∀ {x y : Heap}, Fr F x y -> Fr (fun k => k = b ∨ h.size ≤ k) x y := fun f => f.mono fun k _ hk => .inr (by have := F1 _ hk; omega)
  have f09 : Fr (fun k => k = b ∨ h.size ≤ k) h h9 := (((f1.of_no.trans (inb f2)).trans (inb f5)).trans (inb f6)).trans (f7.of_no.trans f9.of_no)
  refine k_pick hL9.tail.tail.head hb ((D6.no f7).no f9) (by omega) 3 _ fun k i10 sd10 h10 k0 k1 V10 D10 f10 => ⟨c, i10, sd10, k, rfl, vcur hL9 2 rfl f10 V10, ?_⟩
  have k1 := k1 (by omega)
  have z10 := f10.size
  refine ⟨fun m k d i' sd' h' => d = c /\ m = k.toNat /\ 0 ≤ k /\ k ≤ 2 /\ CurD a (n + 50 + 210 * (2 - k).toNat) h' c i' /\ (∃ xss, OwX h' F t xss /\ xss.length = N /\ ∀ r, r ∈ xss -> r.length ≤ 2 + 5 * (2 - k).toNat) /\ Fr (fun k => k = b ∨ h.size ≤ k) h h' /\ h9.size ≤ h'.size, ⟨k.toNat, rfl, rfl, k0, by omega, D10.up (by omega), ⟨_, gb o9 f10, cycL_length _ _ _, fun r hr => by have := cycL_rows _ _ _ r hr; omega⟩, f09.trans (inb f10), by omega⟩, ?_⟩
  rintro m k d i11 sd11 h11 ⟨rfl, em, kk0, k2, D11, ⟨xss, o11, e11, r11⟩, f11, z11⟩ hL11
  refine ⟨fun e => ?_, fun e h18 f18 hL18 => ?_⟩
  · simp only [decide_eq_true_eq] at e
    refine k_shufB hL11.tail.tail.head hb D11 (by omega) (m := N) (by omega) _ fun w os i12 sd12 h12 O12 e12 A12 V12 D12 f12 => ⟨d, i12, sd12, w, rfl, vcur hL11 2 rfl f12 V12, ?_⟩
    have hL12 := vcur hL11 2 rfl f12 V12
    have z12 := f12.size
    refine k_pick hL12.tail.tail.head hb D12 (by omega) N _ fun y3 i13 sd13 h13 u0 u1 V13 D13 f13 => ⟨d, i13, sd13, y3, rfl, vcur hL12 2 rfl f13 V13, ?_⟩
    have u1 := u1 (by omega)
    have hL13 := vcur hL12 2 rfl f13 V13
    have z13 := f13.size
    have W13 : RdI (fun k => h11.size ≤ k /\ k < h13.size) h13 w os := by
      have : OwI h13 (fun k => h11.size ≤ k) w os := Ow.fr O12 f13 fun k hk hk2 => by have := (O12.foot hk).1; simp [In] at hk2; omega
      exact (this.mono (F' := fun k => h11.size ≤ k /\ k < h13.size) fun k hk hk2 => ⟨hk2, (this.foot hk).2⟩).rdF
    have o13 : OwX h13 F t xss := gb (gb o11 f12) f13
    have sep : ∀ k, F k /\ k < h11.size ∨ h13.size ≤ k -> F k := fun k hk => by
      rcases hk with hk | hk
      · exact hk.1
      · exact F2 _ (by omega)
    have o13' : OwX h13 (fun k => F k /\ k < h11.size ∨ h13.size ≤ k) t xss := by
      have q1 : OwX h11 (fun k => F k /\ k < h11.size) t xss := o11.mono fun k hk hk2 => ⟨hk2, hk⟩
      have q2 : OwX h12 (fun k => F k /\ k < h11.size) t xss := OwR.fr q1 f12 fun k hk hk2 hk3 => by simp [In] at hk3; have := F1 _ hk2.1; omega
      have q3 : OwX h13 (fun k => F k /\ k < h11.size) t xss := OwR.fr q2 f13 fun k hk hk2 hk3 => by simp [In] at hk3; have := F1 _ hk2.1; omega
      exact q3.mono fun k hk hk2 => .inl hk2
    rw [w64_eq (1 + y3) (by omega) (by omega)]
    refine ⟨fun m2 j h' => 0 ≤ j /\ j ≤ 1 + y3 /\ m2 = (1 + y3 - j).toNat /\ CurD a (n + 50 + 210 * (2 - k).toNat + 202) h' d i13 /\ RdI (fun k => h11.size ≤ k /\ k < h13.size) h' w os /\ (∃ zss, OwX h' (fun k => F k /\ k < h11.size ∨ h13.size ≤ k) t zss /\ zss.length = N /\ ∀ r, r ∈ zss -> r.length ≤ 2 + 5 * (2 - k).toNat + j.toNat) /\ Fr (fun k => k = b ∨ h.size ≤ k) h h' /\ h13.size ≤ h'.size, ⟨(1 + y3).toNat, by omega, by omega, by omega, D13.up (by omega), W13, ⟨xss, o13', e11, fun r hr => by have := r11 r hr; omega⟩, (f11.trans (inb f12)).trans (inb f13), by omega⟩, ?_⟩
    rintro m2 j h14 ⟨j0, j1, em2, D14, W14, ⟨zss, o14, e14, r14⟩, f14, z14⟩ hL14
    refine ⟨fun e2 => ?_, fun e2 => ?_⟩
    · simp only [decide_eq_true_eq] at e2
      rw [w64_eq (j + 1) (by omega) (by omega)]
      have mo0 : 0 ≤ (j + 1).tmod (1 + y3) := Int.tmod_nonneg _ (by omega)
      have mo1 : (j + 1).tmod (1 + y3) < 1 + y3 := Int.tmod_lt_of_pos _ (by omega)
      have aj := A12.get (show j.toNat < os.length by omega)
      generalize hpj : (os[j.toNat]'(by omega)) = pj at aj
      obtain ⟨aj0, aj1⟩ := aj
      have cj : hcell h14 (w.at j 1) = some (VI pj) := by rw [W14.get j0 (by omega), hpj]
      obtain ⟨si, c1, _⟩ := OwR.inner o14 aj0 (show pj < (zss.length : Int) by omega)
      have r14' := OwR.rd o14
      refine ⟨W14.inb j0 (by omega), pj, cj, W14.inb j0 (by omega), pj, cj, r14'.inb aj0 (by omega), si, c1, by omega, W14.inb mo0 (by omega), _, W14.get mo0 (by omega), ?_⟩
      have hin : ∀ h', Fr (fun k => F k /\ k < h11.size ∨ h13.size ≤ k) h14 h' -> RdI (fun k => h11.size ≤ k /\ k < h13.size) h' w os := fun h' f => W14.fr f fun k hk hk2 => by rcases hk2 with hk2 | hk2 <;> omega
      refine row_put2 (A := fun x => hcell x (w.at j 1) = some (VI pj)) (fun h' f => by rw [(hin h' f).get j0 (by omega), hpj]) o14 (fun k hk => .inr (by omega)) aj0 (by omega) c1 hL14 (fun p hp hk => ?_) (by have := r14 _ (List.getElem_mem (show pj.toNat < zss.length by omega)); omega) _ _ fun h17 o17 f17 V17 => ?_
      · have := sep _ hk
        simp only [List.mem_cons, List.not_mem_nil, or_false] at hp
        rcases hp with rfl | rfl | rfl
        · exact F3 this
        · have := F1 _ this; simp only at this; omega
        · have := F1 _ this; simp only at this; omega
      have z17 := f17.size
      refine ⟨m2 - 1, by omega, by omega, by omega, by omega, D14.fr f17 fun k hk hk2 => ?_, hin _ f17, ⟨_, o17, by simp [e14], fun r hr => ?_⟩, f14.trans (f17.mono fun k _ hk => .inr ?_), by omega⟩
      · have := F1 _ (sep _ hk2); omega
      · have := rows_set r14 _ (show pj.toNat < zss.length by omega) _ r hr
        omega
      · have := F1 _ (sep _ hk); omega
    · simp only [decide_eq_false_iff_not] at e2
      rw [w64_eq (k - 1) (by omega) (by omega)]
      exact ⟨m - 1, by omega, rfl, by omega, by omega, by omega, D14.up (by omega), ⟨zss, o14.mono fun k _ hk => sep k hk, e14, fun r hr => by have := r14 r hr; omega⟩, f14, by omega⟩
  · have g18 : Fr (fun k => k = b ∨ h.size ≤ k) h11 h18 := f18.mono fun k _ hk => .inr (by simp [In] at hk; omega)
    have o18 : OwX h18 F t xss := OwR.fr o11 f18 fun k hk hk2 hk3 => by simp [In] at hk3; subst hk3; have := F1 _ hk2; omega
    simp only [decide_eq_false_iff_not] at e
    exact HK t xss i11 sd11 h18 (by omega) ((OwR.rd o18).mono fun k hk => by have := F1 _ hk.1; omega) hL18.tail.tail.head ((D11.fr f18 fun k hk hk2 => by simp [In] at hk2; omega).up (by omega)) (fin _ (f11.trans g18))
theorem k_drsinking {a n b : Nat} {h : Heap} {c : Sl} {i sd : Int} (V : IsVar h b [c.v, VI i, .int .u64 sd]) (hb : a ≤ b) (D : CurD a n h c i) (hn : n ≤ 100000) (K : Value -> Heap -> Prop) (HK : ∀ (t : Sl) (gs : List (List Int)) (p i' sd' : Int) h', gs.length ≤ 9 -> RdR (fun k => h.size ≤ k) h' t gs -> IsVar h' b [c.v, VI i', .int .u64 sd'] -> CurD a (n + 710) h' c i' -> Fr (In [b]) h h' -> K (.tuple #[.agg #[t.v], VI p]) h') : callM Tryz.prog 114 #[VP b 0] h K := by
  have lb := V.lt
  refine v114 b c i sd h K (.cons V (by simp) .nil) fun b2 h1 hb2 f1 hL1 => ?_
  have f1 := f1.in_nil
  have z1 := f1.size
  have l2 : b2 < h1.size := hL1.head.lt
  have fin : ∀ (h' : Heap), Fr (fun k => k = b ∨ h.size ≤ k) h h' -> Fr (In [b]) h h' := fun h' f => f.mono fun k hk hk2 => by
    rcases hk2 with e | e
    · simp [In, e]
    · omega
  have inb : ∀ {x y : Heap}, Fr (In [b]) x y -> Fr (fun k => k = b ∨ h.size ≤ k) x y := fun f => f.mono fun k _ hk => .inl (by simpa [In] using hk)
  refine k_drgraph9 hL1.tail.head hb (D.no f1) (by omega) _ fun t gs i2 sd2 h2 gl G2 V2 D2 f2 => ⟨c, i2, sd2, t, rfl, vcur hL1 1 rfl f2 V2, fun b3 h4 hb3 f4 hL4 => ?_⟩
  have f4 := f4.in_nil
  have z2 := f2.size
  have z4 := f4.size
  have l3 : b3 < h4.size := hL4.head.lt
  have G4 : RdR (fun k => h.size ≤ k /\ k ≠ b2 /\ k ≠ b3 /\ k ≠ b) h4 t gs := (G2.lowS.no f4).mono fun k hk => by omega
  have f04 : Fr (fun k => k = b ∨ h.size ≤ k) h h4 := (f1.of_no.trans (inb f2)).trans f4.of_no
  refine ⟨fun x d i' sd' h' => d = c /\ CurD a (n + 704) h' c i' /\ (∃ gs, gs.length ≤ 9 /\ RdR (fun k => h.size ≤ k /\ k ≠ b2 /\ k ≠ b3 /\ k ≠ b) h' x gs) /\ Fr (fun k => k = b ∨ h.size ≤ k) h h' /\ h4.size ≤ h'.size, ?_, ?_⟩
  · refine k_one hL4.tail.tail.head hb (D2.no f4) (by omega) 3 _ fun q i5 sd5 h5 V5 D5 f5 => ⟨c, i5, sd5, q, rfl, vcur hL4 2 rfl f5 V5, fun _ => ?_, fun _ => ?_⟩
    · have hL5 := vcur hL4 2 rfl f5 V5
      have z5 := f5.size
      refine k_drbalanced hL5.tail.tail.head hb D5 (by omega) _ fun t6 gs6 i6 sd6 h6 gl6 G6 V6 D6 f6 => ⟨c, i6, sd6, t6, rfl, vcur hL5 2 rfl f6 V6, fun h7 f7 hL7 => ?_⟩
      have z6 := f6.size
      refine ⟨rfl, (D6.fr f7 fun k hk hk2 => by simp [In] at hk2; omega).up (by omega), ⟨gs6, gl6, (G6.fr f7 fun k hk hk2 => by simp [In] at hk2; omega).mono fun k hk => by omega⟩, ((f04.trans (inb f5)).trans (inb f6)).trans (f7.mono fun k _ hk => .inr (by simp [In] at hk; omega)), by have := f7.size; omega⟩
    · exact ⟨rfl, D5.up (by omega), ⟨gs, gl, G4.fr f5 fun k hk hk2 => by simp [In] at hk2; omega⟩, f04.trans (inb f5), f5.size⟩
  rintro x d i8 sd8 h8 ⟨rfl, D8, ⟨gs8, gl8, G8⟩, f8, z8⟩ hL8
  refine k_drplace hL8.tail.tail.head hb D8 (by omega) x _ fun p i9 sd9 h9 V9 D9 f9 => ⟨d, i9, sd9, p, rfl, vcur hL8 2 rfl f9 V9, fun h10 f10 hL10 => ?_⟩
  have z9 := f9.size
  have G10 : RdR (fun k => h.size ≤ k /\ k ≠ b2 /\ k ≠ b3 /\ k ≠ b) h10 x gs8 := (G8.fr f9 fun k hk hk2 => by simp [In] at hk2; omega).fr f10 fun k hk hk2 => by simp [In] at hk2; omega
  exact HK x gs8 p i9 sd9 h10 gl8 (G10.mono fun k hk => hk.1) hL10.tail.tail.head ((D9.fr f10 fun k hk hk2 => by simp [In] at hk2; omega).up (by omega)) (fin _ ((f8.trans (inb f9)).trans (f10.mono fun k _ hk => .inr (by simp [In] at hk; omega))))
theorem k_drstacked {a n b : Nat} {h : Heap} {c : Sl} {i sd : Int} (V : IsVar h b [c.v, VI i, .int .u64 sd]) (hb : a ≤ b) (D : CurD a n h c i) (hn : n ≤ 10000) (K : Value -> Heap -> Prop) (HK : ∀ (t s : Sl) (gs ls : List (List Int)) (p i' sd' : Int) h', gs.length ≤ 9 -> RdR (fun k => h.size ≤ k) h' t gs -> RdR (fun k => h.size ≤ k) h' s ls -> IsVar h' b [c.v, VI i', .int .u64 sd'] -> CurD a (n + 1100) h' c i' -> Fr (In [b]) h h' -> K (.tuple #[.agg #[t.v], VI p, .agg #[s.v]]) h') : callM Tryz.prog 60 #[VP b 0] h K := by
  have lb := V.lt
  refine v60 b c i sd h K (.cons V (by simp) .nil) fun b2 b3 h2 hb2 hb3 f2 hL2 => ?_
  have f2 := f2.in_nil
  have z2 := f2.size
  have l3 : b3 < h2.size := hL2.head.lt
  have l2 : b2 < h2.size := hL2.tail.head.lt
  have fin : ∀ (h' : Heap), Fr (fun k => k = b ∨ h.size ≤ k) h h' -> Fr (In [b]) h h' := fun h' f => f.mono fun k hk hk2 => by
    rcases hk2 with e | e
    · simp [In, e]
    · omega
  have inb : ∀ {x y : Heap}, Fr (In [b]) x y -> Fr (fun k => k = b ∨ h.size ≤ k) x y := fun f => f.mono fun k _ hk => .inl (by simpa [In] using hk)
  refine k_drsinking hL2.tail.tail.head hb (D.no f2) (by omega) _ fun t gs p i3 sd3 h3 gl G3 V3 D3 f3 => ⟨c, i3, sd3, t, p, rfl, vcur hL2 2 rfl f3 V3, fun b4 b5 h7 hb4 hb5 f7 hL7 => ?_⟩
  have f7 := f7.in_nil
  have z3 := f3.size
  have z7 := f7.size
  have l5 : b5 < h7.size := hL7.head.lt
  have l4 : b4 < h7.size := hL7.tail.head.lt
  have tn := G3.len
  have G7 : RdR (fun k => h2.size ≤ k /\ k < h3.size) h7 t gs := G3.lowS.no f7
  have f07 : Fr (fun k => k = b ∨ h.size ≤ k) h h7 := (f2.of_no.trans (inb f3)).trans f7.of_no
  have gT : ∀ k, (h2.size ≤ k /\ k < h3.size) -> ¬ (k = b ∨ h7.size ≤ k ∨ k = b2 ∨ k = b3 ∨ k = b5) := fun k hk hk2 => by omega
  refine k_spec_grPlace G7 p _ fun h8 f8 => ⟨_, rfl, hL7.of_no f8, fun e h9 f9 hL9 h10 f10 hL10 => ?_, fun e => ?_⟩
  · have G10 : RdR (fun k => h2.size ≤ k /\ k < h3.size) h10 t gs := ((G7.no f8).fr f9 fun k hk hk2 => by simp [In] at hk2; omega).fr f10 fun k hk hk2 => by simp [In] at hk2; omega
    exact HK t nilSl gs [] p i3 sd3 h10 gl (G10.mono fun k hk => by omega) ⟨[], rfl, RdV.nil _ _ _, fun i h1 => by simp at h1⟩ hL10.tail.tail.tail.tail.head (((((D3.no f7).no f8).fr f9 fun k hk hk2 => by simp [In] at hk2; omega).fr f10 fun k hk hk2 => by simp [In] at hk2; omega).up (by omega)) (fin _ (((f07.trans f8.of_no).trans (f9.mono fun k _ hk => .inr (by simp [In] at hk; omega))).trans (f10.mono fun k _ hk => .inr (by simp [In] at hk; omega))))
  obtain ⟨e0, e1, e2⟩ : gs.length = gs.length /\ 0 ≤ p /\ p < (gs.length : Int) := by
    simp only [Bool.not_eq_false', Bool.and_eq_true, inR, decide_eq_true_eq] at e
    omega
  have z8 := f8.size
  have f08 := f07.trans f8.of_no
  refine ⟨fun m q x d i' sd' h' => 0 ≤ q /\ q + m = (gs.length : Int) /\ d = c /\ CurD a (n + 710 + 30 * q.toNat) h' c i' /\ RdR (fun k => h2.size ≤ k /\ k < h3.size) h' t gs /\ (∃ ls, OwX h' (fun k => h7.size ≤ k) x ls /\ ls.length = q.toNat /\ ∀ r, r ∈ ls -> r.length ≤ 11) /\ Fr (fun k => k = b ∨ h.size ≤ k) h h' /\ h7.size ≤ h'.size, ⟨gs.length, by omega, by omega, rfl, ((D3.no f7).no f8).up (by omega), G7.no f8, ⟨[], OwR.nil _ _ _ _, rfl, fun r hr => by cases hr⟩, f08, z8⟩, ?_⟩
  rintro m q x d i11 sd11 h11 ⟨q0, q1, rfl, D11, G11, ⟨ls, o11, e11, b11⟩, f11, z11⟩ hL11
  have gb : ∀ {X Y : Heap} {w : Sl} {zs : List (List Int)}, OwX X (fun k => h7.size ≤ k) w zs -> Fr (In [b]) X Y -> OwX Y (fun k => h7.size ≤ k) w zs := fun O f => OwR.fr O f fun k hk hk2 hk3 => by simp [In] at hk3; omega
  refine ⟨fun e => ?_, fun e => ?_⟩
  · simp only [decide_eq_true_eq] at e
    have q2 : q < (gs.length : Int) := by omega
    obtain ⟨si, c1, r11⟩ := G11.get q0 q2
    refine ⟨G11.inb q0 q2, si, c1, k_pick hL11.tail.tail.tail.tail.head hb D11 (by omega) 9 _ fun y i12 sd12 h12 y0 y1 V12 D12 f12 => ⟨d, i12, sd12, y, rfl, vcur hL11 4 rfl f12 V12, ?_⟩⟩
    have y1 := y1 (by omega)
    have z12 := f12.size
    rw [w64_eq (3 + y) (by omega) (by omega)]
    have q12 : OwX h12 (Iv h7.size h12.size) x ls := OwR.toIv (gb o11 f12)
    refine ⟨fun m2 l k d2 i' sd' h' => 0 ≤ k /\ k ≤ 3 + y /\ m2 = k.toNat /\ d2 = d /\ CurD a (n + 710 + 30 * q.toNat + 2 + 2 * (3 + y - k).toNat) h' d i' /\ RdR (fun k => h2.size ≤ k /\ k < h3.size) h' t gs /\ OwX h' (Iv h7.size h12.size) x ls /\ (∃ ys, OwI h' (fun k => h12.size ≤ k) l ys /\ ys.length ≤ (3 + y - k).toNat) /\ Fr (fun k => k = b ∨ h.size ≤ k) h h' /\ h12.size ≤ h'.size, ⟨(3 + y).toNat, by omega, by omega, rfl, rfl, D12.up (by omega), G11.fr f12 fun k hk hk2 => by simp [In] at hk2; omega, q12, ⟨[], Ow.nil _ _ _ _, by simp⟩, f11.trans (inb f12), Nat.le_refl _⟩, ?_⟩
    rintro m2 l k d2 i13 sd13 h13 ⟨k0, k1, em, rfl, D13, G13, x13, ⟨ys, o13, y13⟩, f13, z13⟩ hL13
    have tail : ∀ (u : Sl) (H : Heap), OwX H (fun k => h7.size ≤ k) u (ls ++ [ys]) -> Fr (fun k => h7.size ≤ k) h13 H -> ∀ H', Fr (In [b5]) H H' -> ∃ m' : Nat, m' < m /\ (0 ≤ w64 (q + 1) /\ w64 (q + 1) + m' = (gs.length : Int) /\ d2 = d2 /\ CurD a (n + 710 + 30 * (w64 (q + 1)).toNat) H' d2 i13 /\ RdR (fun k => h2.size ≤ k /\ k < h3.size) H' t gs /\ (∃ ls, OwX H' (fun k => h7.size ≤ k) u ls /\ ls.length = (w64 (q + 1)).toNat /\ ∀ r, r ∈ ls -> r.length ≤ 11) /\ Fr (fun k => k = b ∨ h.size ≤ k) h H' /\ h7.size ≤ H'.size) := fun u H oU fU H' f' => by
      rw [w64_eq (q + 1) (by omega) (by omega)]
      have zU := fU.size
      have z' := f'.size
      refine ⟨m - 1, by omega, by omega, by omega, rfl, ((D13.fr fU fun k hk hk2 => by omega).fr f' fun k hk hk2 => by simp [In] at hk2; omega).up (by omega), (G13.fr fU fun k hk hk2 => by omega).fr f' fun k hk hk2 => by simp [In] at hk2; omega, ⟨_, OwR.fr oU f' fun k hk hk2 hk3 => by simp [In] at hk3; omega, by simp; omega, fun r hr => by
        rcases List.mem_append.mp hr with hr | hr
        · exact b11 r hr
        · simp only [List.mem_cons, List.not_mem_nil, or_false] at hr; subst hr; omega⟩, (f13.trans (fU.mono fun k _ hk => .inr (by omega))).trans (f'.mono fun k _ hk => .inr (by simp [In] at hk; omega)), by omega⟩
    have off7 : ∀ A B C D E (r : Nat × List Value), r ∈ [(b5, A), (b4, B), (b3, C), (b2, D), (b, E)] -> r.1 < h7.size := fun A B C D E r hr => by
      simp only [List.mem_cons, List.not_mem_nil, or_false] at hr
      rcases hr with rfl | rfl | rfl | rfl | rfl <;> simp only <;> omega
    refine ⟨fun e3 => ⟨fun e4 => ⟨fun e5 => ?_, fun e5 => ?_⟩, fun e4 => ?_⟩, fun e3 => ?_⟩
    · simp only [decide_eq_true_eq] at e3
      refine k_pick hL13.tail.tail.tail.tail.head hb D13 (by omega) _ _ fun y2 i14 sd14 h14 u0 u1 V14 D14 f14 => ⟨d2, i14, sd14, y2, rfl, vcur hL13 4 rfl f14 V14, ?_⟩
      have z14 := f14.size
      have o14 : OwI h14 (fun k => h12.size ≤ k) l ys := Ow.fr o13 f14 fun k hk hk2 => by have := (o13.foot hk).1; simp [In] at hk2; omega
      refine eop_put (lo := h12.size) o14 (by omega) (vcur hL13 4 rfl f14 V14) (fun r hr => by have := off7 _ _ _ _ _ r hr; omega) (by omega) _ fun u h16 o16 f16 V16 => ?_
      have z16 := f16.size
      rw [w64_eq (k - 1) (by omega) (by omega)]
      refine ⟨m2 - 1, by omega, by omega, by omega, by omega, rfl, (D14.fr f16 fun k hk hk2 => by omega).up (by omega), (G13.fr f14 fun k hk hk2 => by simp [In] at hk2; omega).fr f16 fun k hk hk2 => by omega, OwR.fr (OwR.fr x13 f14 fun k hk hk2 hk3 => by simp [In] at hk3; have := hk2.1; omega) f16 fun k hk hk2 hk3 => by have := hk2.2; omega, ⟨_, o16, by simp; omega⟩, (f13.trans (inb f14)).trans (f16.mono fun k _ hk => .inr (by omega)), by omega⟩
    · exact eop_putR (lo := h7.size) (m := h12.size) x13 o13 (by omega) (by omega) hL13 (off7 _ _ _ _ _) (by omega) _ fun u h18 o18 f18 V18 h19 f19 hL19 => tail u h18 o18 f18 h19 f19
    · exact eop_putR (lo := h7.size) (m := h12.size) x13 o13 (by omega) (by omega) hL13 (off7 _ _ _ _ _) (by omega) _ fun u h18 o18 f18 V18 h19 f19 hL19 => tail u h18 o18 f18 h19 f19
    · exact eop_putR (lo := h7.size) (m := h12.size) x13 o13 (by omega) (by omega) hL13 (off7 _ _ _ _ _) (by omega) _ fun u h18 o18 f18 V18 h19 f19 hL19 => tail u h18 o18 f18 h19 f19
  simp only [decide_eq_false_iff_not] at e
  have eq : q = (gs.length : Int) := by omega
  have lsn : ls.length = gs.length := by omega
  have xn := OwR.len o11
  have off7 : ∀ A B C D E (r : Nat × List Value), r ∈ [(b5, A), (b4, B), (b3, C), (b2, D), (b, E)] -> ¬ h7.size ≤ r.1 := fun A B C D E r hr => by
    simp only [List.mem_cons, List.not_mem_nil, or_false] at hr
    rcases hr with rfl | rfl | rfl | rfl | rfl <;> simp only <;> omega
  refine ⟨fun x' d' i' sd' h' => d' = d /\ CurD a (n + 1000) h' d i' /\ RdR (fun k => h2.size ≤ k /\ k < h3.size) h' t gs /\ (∃ ls, RdR (fun k => h7.size ≤ k) h' x' ls) /\ Fr (fun k => k = b ∨ h.size ≤ k) h h' /\ h7.size ≤ h'.size, ?_, ?_⟩
  · refine k_pick hL11.tail.tail.tail.tail.head hb D11 (by omega) 16 _ fun y i12 sd12 h12 y0 y1 V12 D12 f12 => ⟨d, i12, sd12, y, rfl, vcur hL11 4 rfl f12 V12, ?_⟩
    have hL12 := vcur hL11 4 rfl f12 V12
    have z12 := f12.size
    have G12 : RdR (fun k => h2.size ≤ k /\ k < h3.size) h12 t gs := G11.fr f12 fun k hk hk2 => by simp [In] at hk2; omega
    have o12 := gb o11 f12
    have f012 := f11.trans (inb f12)
    refine ⟨fun _ => ?_, fun _ => ⟨fun _ => ?_, fun _ => ⟨fun _ => ?_, fun _ => ⟨fun _ => ?_, fun _ => ?_⟩⟩⟩⟩
    · refine eop_lit rIs (fun k => h12.size ≤ k) (fun _ h => h) 1 (by omega) [VI 0] rfl rfl fun w h13 n13 c13 o13 f13 m13 _ => ⟨w, rfl, hL12.of_no f13, ?_⟩
      have z13 := f13.size
      have o12i : OwX h12 (fun k => h7.size ≤ k /\ k < h12.size) x ls := o12.mono fun k hk hk2 => ⟨hk2, hk⟩
      have o13' : OwI h13 (fun k => h12.size ≤ k) w [0] := o13
      exact row_set (m := h12.size) (OwR.no o12i f13) o13' (fun k hk => by omega) e1 (by omega) (hL12.of_no f13) (off7 _ _ _ _ _) _ fun h14 o14 f14 V14 => ⟨rfl, ((D12.no f13).fr f14 fun k hk hk2 => by omega).up (by omega), (G12.no f13).fr f14 fun k hk hk2 => by omega, ⟨_, (OwR.rd o14).mono fun k hk => hk.1⟩, (f012.trans f13.of_no).trans (f14.mono fun k _ hk => .inr (by omega)), by have := f14.size; omega⟩
    · refine k_pick hL12.tail.tail.tail.tail.head hb D12 (by omega) _ _ fun y2 i13 sd13 h13 u0 u1 V13 D13 f13 => ⟨d, i13, sd13, y2, rfl, vcur hL12 4 rfl f13 V13, ?_⟩
      have u1 := u1 (by omega)
      have hL13 := vcur hL12 4 rfl f13 V13
      have z13 := f13.size
      have o13 := gb o12 f13
      have r13 := OwR.rd o13
      obtain ⟨sj, c2, _⟩ := OwR.inner o13 u0 (by omega)
      refine ⟨r13.inb u0 (by omega), sj, c2, ?_⟩
      refine eop_lit rIs (fun k => h13.size ≤ k) (fun _ h => h) 3 (by omega) [VI (-1), VI 4, VI 5] rfl rfl fun w h14 n14 c14 o14 f14 m14 _ => ⟨w, rfl, hL13.of_no f14, hcell_fr c2 f14 (fun h => h), ?_⟩
      have z14 := f14.size
      have r14 : RdI (fun k => h13.size ≤ k) h14 w [-1, 4, 5] := o14.rdF
      refine k_among (hL13.of_no f14).tail.tail.tail.tail.head hb (D13.no f14) (by omega) r14 (by omega) (by simp) _ fun v i15 sd15 h15 hv V15 D15 f15 => ⟨d, i15, sd15, v, rfl, vcur (hL13.of_no f14) 4 rfl f15 V15, ?_⟩
      have z15 := f15.size
      have c15 : hcell h15 (x.at y2 1) = some sj.v := cell_keep (r13.no f14) u0 (by omega) f15 (fun k hk hk2 => by simp [In] at hk2; omega) (hcell_fr c2 f14 fun h => h)
      have lr : ls.length ≤ 9 := by omega
      have hbig : (ls[y2.toNat]'(by omega)).length ≤ 1000000 := by have := b11 _ (List.getElem_mem (show y2.toNat < ls.length by omega)); omega
      refine ⟨c15, row_putF (gb (OwR.no o13 f14) f15) (fun k hk => by omega) u0 (by omega) c15 (vcur (hL13.of_no f14) 4 rfl f15 V15) (off7 _ _ _ _ _) hbig v _ fun h16 o16 f16 V16 => ⟨rfl, (D15.fr f16 fun k hk hk2 => by omega).up (by omega), (((G12.fr f13 fun k hk hk2 => by simp [In] at hk2; omega).no f14).fr f15 fun k hk hk2 => by simp [In] at hk2; omega).fr f16 fun k hk hk2 => by omega, ⟨_, (OwR.rd o16).mono fun k hk => hk.1⟩, (((f012.trans (inb f13)).trans f14.of_no).trans (inb f15)).trans (f16.mono fun k _ hk => .inr (by omega)), by have := f16.size; omega⟩⟩
    · refine k_pick hL12.tail.tail.tail.tail.head hb D12 (by omega) _ _ fun y2 i13 sd13 h13 u0 u1 V13 D13 f13 => ⟨d, i13, sd13, y2, rfl, vcur hL12 4 rfl f13 V13, ?_⟩
      have u1 := u1 (by omega)
      have hL13 := vcur hL12 4 rfl f13 V13
      have z13 := f13.size
      refine k_pick hL13.tail.tail.tail.tail.head hb D13 (by omega) 2 _ fun y3 i14 sd14 h14 w0 w1 V14 D14 f14 => ⟨d, i14, sd14, y3, rfl, vcur hL13 4 rfl f14 V14, ?_⟩
      have w1 := w1 (by omega)
      have hL14 := vcur hL13 4 rfl f14 V14
      have z14 := f14.size
      rw [w64_eq (12 + y3) (by omega) (by omega)]
      have ey : 12 + y3 = (((12 + y3).toNat : Nat) : Int) := by omega
      rw [ey]
      refine eop_make rIs (fun k => h14.size ≤ k) (fun _ h => h) .i64 .i64 (12 + y3).toNat (12 + y3).toNat (Nat.le_refl _) (by omega) fun w h15 n15 c15 o15 f15 m15 _ => ⟨w, rfl, hL14.of_no f15, ?_⟩
      have z15 := f15.size
      have o15' : OwI h15 (fun k => h14.size ≤ k) w (List.replicate (12 + y3).toNat 0) := by
        have e : (List.replicate (12 + y3).toNat [VI 0]).flatten = (List.replicate (12 + y3).toNat (0 : Int)).map VI := by simp [List.flatten_replicate_singleton]
        rw [e] at o15; exact o15
      have o14i : OwX h14 (fun k => h7.size ≤ k /\ k < h14.size) x ls := (gb (gb o12 f13) f14).mono fun k hk hk2 => ⟨hk2, hk⟩
      exact row_set (m := h14.size) (OwR.no o14i f15) o15' (fun k hk => by omega) u0 (by omega) (hL14.of_no f15) (off7 _ _ _ _ _) _ fun h16 o16 f16 V16 => ⟨rfl, ((D14.no f15).fr f16 fun k hk hk2 => by omega).up (by omega), (((G12.fr f13 fun k hk hk2 => by simp [In] at hk2; omega).fr f14 fun k hk hk2 => by simp [In] at hk2; omega).no f15).fr f16 fun k hk hk2 => by omega, ⟨_, (OwR.rd o16).mono fun k hk => hk.1⟩, (((f012.trans (inb f13)).trans (inb f14)).trans f15.of_no).trans (f16.mono fun k _ hk => .inr (by omega)), by have := f16.size; omega⟩
    · refine pop_cut_l rIss .i64 (by omega) (by omega) ⟨_, rfl, fun h13 f13 hL13 => ?_⟩
      have r13 : RdR (fun k => h7.size ≤ k) h13 x ls := ((OwR.rd o12).mono fun k hk => hk.1).fr f13 fun k hk hk2 => by simp [In] at hk2; omega
      exact ⟨rfl, (D12.fr f13 fun k hk hk2 => by simp [In] at hk2; omega).up (by omega), G12.fr f13 fun k hk hk2 => by simp [In] at hk2; omega, ⟨_, RdR.tl r13 (by omega)⟩, f012.trans (f13.mono fun k _ hk => .inr (by simp [In] at hk; omega)), by have := f13.size; omega⟩
    · exact ⟨rfl, D12.up (by omega), G12, ⟨ls, (OwR.rd o12).mono fun k hk => hk.1⟩, f012, by omega⟩
  rintro x' d' i13 sd13 h40 ⟨rfl, D40, G40, ⟨ls40, R40⟩, f40, z40⟩ hL40 h41 f41 hL41 h42 f42 hL42
  exact HK t x' gs ls40 p i13 sd13 h42 gl (((G40.fr f41 fun k hk hk2 => by simp [In] at hk2; omega).fr f42 fun k hk hk2 => by simp [In] at hk2; omega).mono fun k hk => by omega) (((R40.fr f41 fun k hk hk2 => by simp [In] at hk2; omega).fr f42 fun k hk hk2 => by simp [In] at hk2; omega).mono fun k hk => by omega) hL42.tail.tail.tail.tail.head (((D40.fr f41 fun k hk hk2 => by simp [In] at hk2; omega).fr f42 fun k hk hk2 => by simp [In] at hk2; omega).up (by omega)) (fin _ ((f40.trans (f41.mono fun k _ hk => .inr (by simp [In] at hk; omega))).trans (f42.mono fun k _ hk => .inr (by simp [In] at hk; omega))))
def twN (f : Int -> Int) (sink : Int) (n : Nat) : Nat -> Nat -> Int -> Option Nat
  | 0, _, _ => none
  | r + 1, m, a => if a = sink then some m else if f a < 0 ∨ n < m then none else twN f sink n r (m + 1) (f a)
def twL (g : List (List Int)) (rs : List Int) (sink : Int) : Nat -> Option (List Int)
  | 0 => some []
  | i + 1 => match twL g rs sink i with
    | none => none
    | some l => match twN (nx g rs) sink g.length (g.length + 3) 0 i with
      | none => none
      | some m => some (l ++ [(m : Int)])
def treeB (g : List (List Int)) (rs : List Int) (sink : Int) : Bool := (twL g rs sink g.length).isSome
theorem twL_none {g : List (List Int)} {rs : List Int} {sink : Int} {i : Nat} (h : twL g rs sink i = none) : ∀ m, twL g rs sink (i + m) = none
  | 0 => h
  | m + 1 => by rw [← Nat.add_assoc, twL, twL_none h m]
theorem twL_no {g : List (List Int)} {rs : List Int} {sink : Int} {i n : Nat} (h : twL g rs sink i = none) (hi : i ≤ n) : twL g rs sink n = none := by
  have := twL_none h (n - i)
  rwa [show i + (n - i) = n by omega] at this
theorem tree_of {g : List (List Int)} {rs : List Int} {sink : Int} (h : ∀ p : Nat, p < g.length -> (twN (nx g rs) sink g.length (g.length + 3) 0 p).isSome = true) : treeB g rs sink = true := by
  have : ∀ i, i ≤ g.length -> (twL g rs sink i).isSome = true := by
    intro i
    induction i with
    | zero => intro _; rfl
    | succ i ih =>
      intro hi
      have h1 := ih (by omega)
      have h2 := h i (by omega)
      rw [twL]
      cases h3 : twL g rs sink i with
      | none => rw [h3] at h1; cases h1
      | some l =>
        cases h4 : twN (nx g rs) sink g.length (g.length + 3) 0 i with
        | none => rw [h4] at h2; cases h2
        | some m => rfl
  exact this _ (Nat.le_refl _)
def sinkrB (g : List (List Int)) (sink : Int) (rs : List Int) : Bool := (graphB g && inR 0 ((g.length : Int) - 1) sink) && (walkB g rs 0 && decide (rs.getD sink.toNat 0 = 0))
def isTreeP (g : List (List Int)) (sink : Int) (rs : List Int) : Bool × Bool := if sinkrB g sink rs then (treeB g rs sink, true) else (false, false)
def topsOfP (g : List (List Int)) (sink : Int) (S : List (List Int)) : List Int × Bool := if stackB g sink S then topsP sink S else ([], false)
def cycsOfP (g : List (List Int)) (sink : Int) (S : List (List Int)) : List (List Int) × Bool := if stackB g sink S then (cycsP g S, true) else ([], false)
theorem k_treeWays {S S' : Nat -> Prop} {h : Heap} {g w : Sl} {xss : List (List Int)} {rs : List Int} {a : Int} (G : RdR S h g xss) (H : RdI S' h w rs) (W : WOK xss (rs, a)) (hn : xss.length ≤ 1000) (sink : Int) (K : Value -> Heap -> Prop) (HK : ∀ t h', OwI h' (Iv h.size h'.size) t ((twL xss rs sink xss.length).getD []) -> Fr No h h' -> K (.tuple #[t.v, VB (treeB xss rs sink)]) h') : callM Tryz.prog 113 #[.agg #[g.v], VI sink, w.v] h K := by
  refine v113 g sink w h K fun b1 h1 hb1 f1 hL1 => ?_
  have f1 := f1.in_nil
  have z1 := f1.size
  have l1 : b1 < h1.size := hL1.head.lt
  have gn := G.len
  refine eop_lit rIs (fun k => h1.size ≤ k) (fun _ h => h) 0 (by omega) [] rfl rfl fun o h2 n2 c2 o2 f2 m2 _ => ⟨o, rfl, hL1.of_no f2, ?_⟩
  have z2 := f2.size
  have o2' : OwI h2 (fun k => h1.size ≤ k) o [] := o2
  have no_ : ∀ {x : Heap}, Fr (fun k => h1.size ≤ k) h x -> Fr No h x := fun f => f.mono fun k hk hk2 => absurd hk2 (by omega)
  refine ⟨fun m x p h' => 0 ≤ p /\ p + m = (xss.length : Int) /\ (∃ l, twL xss rs sink p.toNat = some l /\ OwI h' (fun k => h1.size ≤ k) x l /\ l.length = p.toNat) /\ Fr (fun k => h1.size ≤ k) h h' /\ h2.size ≤ h'.size, ⟨xss.length, by omega, by omega, ⟨[], rfl, o2', rfl⟩, f1.of_no.trans f2.of_no, Nat.le_refl _⟩, ?_⟩
  rintro m x p h3 ⟨p0, p1, ⟨l, el, o3, ln⟩, f3, z3⟩ hL3
  have g3 := no_ f3
  refine ⟨fun e => ?_, fun e => ?_⟩
  · simp only [decide_eq_true_eq] at e
    refine ⟨fun m2 many at_ h' => m2 + many.toNat = xss.length + 2 /\ 0 ≤ many /\ many ≤ xss.length + 1 /\ 0 ≤ at_ /\ at_ < (xss.length : Int) /\ twN (nx xss rs) sink xss.length (xss.length + 3) 0 p = twN (nx xss rs) sink xss.length (m2 + 1) many.toNat at_ /\ Fr No h3 h', ⟨xss.length + 2, by omega, by omega, by omega, p0, by omega, by simp, Fr.refl _ _⟩, ?_⟩
    rintro m2 many at_ h4 ⟨e4, u0, u1, a0, a1, et, f4⟩ hL4
    have g4 := g3.trans f4
    have z4 := f4.size
    have bad : ∀ {h' : Heap}, Fr No h4 h' -> twN (nx xss rs) sink xss.length (xss.length + 3) 0 p = none -> K (.tuple #[nilSl.v, VB false]) h' := fun f e => by
      have e1 : twL xss rs sink (p.toNat + 1) = none := by rw [twL, el]; simp only; rw [show ((p.toNat : Nat) : Int) = p by omega, e]
      have e2 := twL_no e1 (show p.toNat + 1 ≤ xss.length by omega)
      have := HK nilSl _ (by rw [e2]; exact Ow.nil _ _ _ _) (g4.trans f)
      rwa [show treeB xss rs sink = false by unfold treeB; rw [e2]; rfl] at this
    refine ⟨fun e5 => ?_, fun e5 => ?_⟩
    · simp only [Bool.not_eq_true', decide_eq_false_iff_not] at e5
      refine k_next (G.no g4) (H.no g4) W a0 a1 _ fun h5 f5 => ⟨_, rfl, hL4.of_no f5, fun e6 => ?_, fun e6 => ⟨fun e7 => ?_, fun e7 => ?_⟩⟩
      · simp only [decide_eq_true_eq] at e6
        exact bad f5 (by rw [et, twN, if_neg e5, if_pos (.inl e6)])
      · simp only [decide_eq_true_eq] at e7
        exact bad f5 (by rw [et, twN, if_neg e5, if_pos (.inr (by omega))])
      · simp only [decide_eq_false_iff_not] at e6 e7
        have lt := nx_lt W a1
        refine ⟨m2 - 1, by omega, ?_, ?_, ?_, by omega, lt.2, ?_, f4.trans f5⟩
        · rw [w64_eq _ (by omega) (by omega)]; omega
        · rw [w64_eq _ (by omega) (by omega)]; omega
        · rw [w64_eq _ (by omega) (by omega)]; omega
        · rw [et, twN, if_neg e5, if_neg (by omega), w64_eq _ (by omega) (by omega), show m2 - 1 + 1 = m2 by omega, show (many + 1).toNat = many.toNat + 1 by omega]
    · simp only [Bool.not_eq_false', decide_eq_true_eq] at e5
      refine eop_put (lo := h1.size) (Ow.no o3 f4) (by omega) hL4 (fun q hq => by
        simp only [List.mem_cons, List.not_mem_nil, or_false] at hq
        subst hq; exact l1) (by omega) _ fun y h7 o7 f7 V7 => ?_
      rw [w64_eq (p + 1) (by omega) (by omega)]
      refine ⟨m - 1, by omega, by omega, by omega, ⟨_, ?_, o7, by simp; omega⟩, (f3.trans f4.of_no).trans f7, by have := f7.size; omega⟩
      rw [show (p + 1).toNat = p.toNat + 1 by omega, twL, el]
      simp only
      rw [show ((p.toNat : Nat) : Int) = p by omega, et, twN, if_pos e5]
      simp only [Option.some.injEq, List.append_cancel_left_eq, List.cons.injEq, and_true]
      omega
  · simp only [decide_eq_false_iff_not] at e
    have ep : p.toNat = xss.length := by omega
    rw [ep] at el
    have := HK x h3 (by rw [el]; exact o3.mono fun k hk hk2 => ⟨by omega, (o3.foot hk).2⟩) g3
    rwa [show treeB xss rs sink = true by unfold treeB; rw [el]; rfl] at this
theorem k_isTree {S S' : Nat -> Prop} {h : Heap} {g w : Sl} {xss : List (List Int)} {rs : List Int} {a : Int} (G : RdR S h g xss) (H : RdI S' h w rs) (W : WOK xss (rs, a)) (hn : xss.length ≤ 1000) (sink : Int) : Ret Tryz.prog 59 #[.agg #[g.v], VI sink, w.v] h (VB (treeB xss rs sink)) := by
  intro K HK
  refine v59 g sink w h K fun b1 h1 hb1 f1 hL1 => ?_
  have f1 := f1.in_nil
  exact k_treeWays (G.no f1) (H.no f1) W hn sink _ fun t h2 o2 f2 => ⟨t, _, rfl, hL1.of_no f2, HK h2 (f1.trans f2)⟩
theorem k_areSinkRotors {S S' : Nat -> Prop} {h : Heap} {g w : Sl} {xss : List (List Int)} {rs : List Int} (G : RdR S h g xss) (H : RdI S' h w rs) (sink : Int) : Ret Tryz.prog 58 #[.agg #[g.v], VI sink, w.v] h (VB (sinkrB xss sink rs)) := by
  intro K HK
  unfold sinkrB at HK
  refine v58 g sink w h K fun b1 h1 hb1 f1 hL1 => ?_
  have f1 := f1.in_nil
  refine eop_lit rIs (fun k => h1.size ≤ k) (fun _ h => h) 1 (by omega) [VI sink] rfl rfl fun o h2 n2 c2 o2 f2 m2 _ => ⟨o, rfl, hL1.of_no f2, ?_⟩
  have r2 : RdI (fun k => h1.size ≤ k) h2 o [sink] := o2.rdF
  have f02 := f1.trans f2
  refine k_has (G.no f02) r2 _ fun h3 f3 => ⟨_, rfl, (hL1.of_no f2).of_no f3, fun e => ?_, fun e => ?_⟩
  · simp only [List.all_cons, List.all_nil, Bool.and_true] at e
    have f03 := f02.trans f3
    rw [e, Bool.true_and] at HK
    refine k_areRotors (G.no f03) (H.no f03) _ fun h4 f4 => ⟨_, rfl, ((hL1.of_no f2).of_no f3).of_no f4, fun e2 => ?_, fun e2 => ?_⟩
    · rw [e2, Bool.true_and] at HK
      have W := wok_of e2
      have wl : rs.length = xss.length := W.len
      simp only [Bool.and_eq_true, inR, decide_eq_true_eq] at e
      have f04 := f03.trans f4
      have H4 := H.no f04
      refine ⟨H4.inb (by omega) (by omega), _, H4.get (by omega) (by omega), ?_⟩
      have e3 : rs.getD sink.toNat 0 = rs[sink.toNat]'(by omega) := getD_getI (by omega)
      rw [e3] at HK
      exact HK h4 f04
    · rw [e2] at HK
      exact HK h4 (f03.trans f4)
  · simp only [List.all_cons, List.all_nil, Bool.and_true] at e
    rw [e] at HK
    exact HK h3 (f02.trans f3)
theorem k_IsTree {S S' : Nat -> Prop} {h : Heap} {g w : Sl} {xss : List (List Int)} {rs : List Int} (G : RdR S h g xss) (H : RdI S' h w rs) (sink : Int) : Ret Tryz.prog 17 #[.agg #[g.v], VI sink, w.v] h (.tuple #[VB (isTreeP xss sink rs).1, VB (isTreeP xss sink rs).2]) := by
  intro K HK
  unfold isTreeP at HK
  refine v17 g sink w h K fun b1 h1 hb1 f1 hL1 => ?_
  have f1 := f1.in_nil
  refine k_areSinkRotors (G.no f1) (H.no f1) sink _ fun h2 f2 => ⟨_, rfl, hL1.of_no f2, fun e => ?_, fun e => ?_⟩
  · simp only [Bool.not_eq_true'] at e
    rw [e] at HK
    exact HK h2 (f1.trans f2)
  · simp only [Bool.not_eq_false'] at e
    rw [if_pos e] at HK
    have W : WOK xss (rs, 0) := by
      unfold sinkrB at e
      simp only [Bool.and_eq_true] at e
      exact wok_of e.2.1
    have f02 := f1.trans f2
    exact k_isTree (G.no f02) (H.no f02) W (by have := graph_len W.graph; omega) sink _ fun h3 f3 => ⟨_, rfl, (hL1.of_no f2).of_no f3, HK h3 (f02.trans f3)⟩
theorem k_TopsOf {S S' : Nat -> Prop} {h : Heap} {g s : Sl} {xss ls : List (List Int)} (G : RdR S h g xss) (H : RdR S' h s ls) (sink : Int) (K : Value -> Heap -> Prop) (HK : ∀ t h', OwI h' (Iv h.size h'.size) t (topsOfP xss sink ls).1 -> Fr No h h' -> K (.tuple #[t.v, VB (topsOfP xss sink ls).2]) h') : callM Tryz.prog 13 #[.agg #[g.v], VI sink, .agg #[s.v]] h K := by
  unfold topsOfP at HK
  refine v13 g sink s h K fun b1 b2 h2 hb1 hb2 f2 hL2 => ?_
  have f2 := f2.in_nil
  refine k_areStacks (G.no f2) (H.no f2) sink _ fun h3 f3 => ⟨_, rfl, hL2.of_no f3, fun e => ?_, fun e => ?_⟩
  · simp only [Bool.not_eq_true'] at e
    rw [e] at HK
    exact HK nilSl h3 (Ow.nil _ _ _ _) (f2.trans f3)
  · simp only [Bool.not_eq_false'] at e
    rw [if_pos e] at HK
    have f03 := f2.trans f3
    have W := (stack_of e).1
    refine k_tops (H.no f03) (by have := W.tot; omega) sink _ fun t h4 o4 f4 => ⟨t, _, rfl, (hL2.of_no f3).of_no f4, ?_⟩
    exact HK t h4 (o4.mono fun k _ hk => ⟨Nat.le_trans f03.size hk.1, hk.2⟩) (f03.trans f4)
theorem k_CyclesOf {S S' : Nat -> Prop} {h : Heap} {g s : Sl} {xss ls : List (List Int)} (G : RdR S h g xss) (H : RdR S' h s ls) (sink : Int) (K : Value -> Heap -> Prop) (HK : ∀ t h', OwX h' (Iv h.size h'.size) t (cycsOfP xss sink ls).1 -> Fr No h h' -> K (.tuple #[t.v, VB (cycsOfP xss sink ls).2]) h') : callM Tryz.prog 7 #[.agg #[g.v], VI sink, .agg #[s.v]] h K := by
  unfold cycsOfP at HK
  refine v7 g sink s h K fun b1 b2 h2 hb1 hb2 f2 hL2 => ?_
  have f2 := f2.in_nil
  refine k_areStacks (G.no f2) (H.no f2) sink _ fun h3 f3 => ⟨_, rfl, hL2.of_no f3, fun e => ?_, fun e => ?_⟩
  · simp only [Bool.not_eq_true'] at e
    rw [e] at HK
    exact HK nilSl h3 (OwR.nil _ _ _ _) (f2.trans f3)
  · simp only [Bool.not_eq_false'] at e
    rw [if_pos e] at HK
    have f03 := f2.trans f3
    refine k_cycles (G.no f03) (H.no f03) (stack_of e).1 _ fun t h4 o4 f4 => ⟨t, rfl, (hL2.of_no f3).of_no f4, ?_⟩
    exact HK t h4 (OwR.ivs o4 f03.size (Nat.le_refl _)) (f03.trans f4)
theorem k_wStacks {S S' : Nat -> Prop} {h : Heap} {a b : Sl} {xs ys : List (List Int)} (H : RdR S h a xs) (H' : RdR S' h b ys) (he : xs = ys) : Ret Tryz.prog 21 #[.agg #[a.v], .agg #[b.v]] h (VB true) := by
  intro K HK
  refine v21 a b h K fun b1 b2 h2 hb1 hb2 f2 hL2 => ?_
  have f2 := f2.in_nil
  exact k_wRows (H.no f2) (H'.no f2) he _ ⟨_, rfl, hL2, HK h2 f2⟩
@[reducible] def tSs : TypeId := 99
theorem rSs : rowC Tryz.prog tSs = some (9, 1, 16, [VS (⟨#[]⟩ : ByteArray)]) := by kernel_rfl
theorem plainVS (xs : List ByteArray) : (xs.map VS).all plainV = true := by simp [List.all_eq_true, plainV]
@[reducible] def OwS (h : Heap) (F : Nat -> Prop) (s : Sl) (xs : List ByteArray) : Prop := Ow h F 9 1 s (xs.map VS)
theorem mk_add (g o j : Nat) : (⟨g, o, none⟩ : Addr).add j = ⟨g, o + j, none⟩ := by
  unfold Addr.add
  by_cases h : j = 0 <;> simp [h]
theorem cell_hc (w : World) (a : Addr) : w.cell? a = hcell w.heap a := rfl
theorem ba_app (a b : List UInt8) : ((⟨a.toArray⟩ : ByteArray) ++ (⟨b.toArray⟩ : ByteArray)) = ⟨(a ++ b).toArray⟩ := by
  apply ByteArray.ext
  simp [ByteArray.data_append]
theorem ba_size (a : List UInt8) : (⟨a.toArray⟩ : ByteArray).size = a.length := by simp [ByteArray.size]
theorem dec_len {n : Nat} (h : n < 100) : (Lib.decDigits n).length ≤ 2 := by
  by_cases h1 : n < 10
  · rw [Lib.decDigits_one h1]; simp
  · rw [Lib.decDigits_two h1 h]; simp
theorem join_len : ∀ (xs : List (List UInt8)), (∀ x, x ∈ xs -> x.length ≤ 2) -> (Lib.join xs [44]).length ≤ 3 * xs.length
  | [], _ => by simp [Lib.join_nil]
  | x :: r, h => by
    rw [Lib.join_length]
    have : ∀ (l : List (List UInt8)), (∀ x, x ∈ l -> x.length ≤ 2) -> Lib.lens l ≤ 2 * l.length := by
      intro l
      induction l with
      | nil => intro _; simp [Lib.lens]
      | cons a l ih =>
        intro hl
        have h1 := ih fun y hy => hl y (List.mem_cons_of_mem _ hy)
        have h2 := hl a (List.mem_cons_self ..)
        simp only [Lib.lens, List.map_cons, List.sum_cons, List.length_cons] at h1 ⊢
        omega
    have := this _ h
    simp only [List.length_cons, List.length_nil] at this ⊢
    omega
def listL (rs : List Int) : List UInt8 := if rs.length = 0 then [45] else Lib.join (rs.map fun x => Lib.decDigits x.toNat) [44]
theorem listL_len {rs : List Int} (h : ∀ x, x ∈ rs -> 0 ≤ x /\ x < 100) : (listL rs).length ≤ 3 * rs.length + 1 := by
  unfold listL
  split
  · simp
  · have := join_len (rs.map fun x => Lib.decDigits x.toNat) fun y hy => by
      obtain ⟨x, hx, rfl⟩ := List.mem_map.1 hy
      exact dec_len (by have := h x hx; omega)
    rw [List.length_map] at this
    omega
theorem k_Itoa {h : Heap} {n : Int} (h0 : 0 ≤ n) (h1 : n < 100) (K : Value -> Heap -> Prop) (HK : K (VS ⟨(Lib.decDigits n.toNat).toArray⟩) h) : callM Tryz.prog 125 #[VI n] h K := by
  obtain ⟨i, rfl⟩ : ∃ i : Nat, n = (i : Int) := ⟨n.toNat, by omega⟩
  refine ⟨fun w hw => .inr ⟨125, _, w, Go.Proofs.enters_of Tryz.func125 (by kernel_rfl) rfl _ _, rfl, ?_⟩⟩
  subst hw
  refine (Tryz.strconv_Itoa_small i (by omega) w).mono ?_
  rintro e w' ⟨rfl, rfl⟩
  rw [Int.toNat_natCast] at HK
  exact ⟨_, rfl, Same.refl _, HK⟩
theorem k_Join {S : Nat -> Prop} {h : Heap} {s : Sl} {ts : List ByteArray} {sep : ByteArray} (H : RdV S h 1 s (ts.map VS)) (hne : ts ≠ []) (hN : ts.length ≤ 1000000) (hl : (Lib.join (ts.map (·.data.toList)) sep.data.toList).length ≤ 1000000) (K : Value -> Heap -> Prop) (HK : ∀ h', Fr No h h' -> K (VS ⟨(Lib.join (ts.map (·.data.toList)) sep.data.toList).toArray⟩) h') : callM Tryz.prog 78 #[s.v, VS sep] h K := by
  refine ⟨fun w hw => .inr ⟨78, _, w, Go.Proofs.enters_of Tryz.func78 (by kernel_rfl) rfl _ _, rfl, ?_⟩⟩
  subst hw
  have hlen := H.len
  simp only [List.length_map, Nat.mul_one] at hlen
  have hcap := H.cap
  have hpos : 0 < ts.length := List.length_pos_iff.2 hne
  obtain ⟨a, ha, _, hc⟩ := RdV.cell H 0 (by simpa using hpos)
  have hsp : a.spot = none := by
    cases hs : a.spot with
    | none => rfl
    | some sp => exfalso; unfold hcell at hc; simp [Addr.add, hs] at hc; split at hc <;> simp at hc
  obtain ⟨g, o, q⟩ := a
  simp only at hsp
  subst hsp
  have hv : s.v = .slice (some ⟨g, o, none⟩) ts.length s.c := by unfold Sl.v; rw [ha, hlen]
  rw [hv]
  refine (Tryz.strings_Join g o s.c ts sep w (fun j x hj => ?_) ?_ (by omega) (by omega) (by omega)).mono ?_
  · have hj2 : j < ts.length := (List.getElem?_eq_some_iff.1 hj).1
    obtain ⟨a', ha', _, hc'⟩ := RdV.cell H j (by simp; omega)
    rw [ha] at ha'
    cases ha'
    rw [mk_add] at hc'
    rw [cell_hc, hc']
    rw [List.getElem?_eq_getElem hj2] at hj
    simp only [Option.some.injEq] at hj
    simp [hj]
  · have := hcell_lt hc; rw [add_block] at this; exact this
  · rintro e w' ⟨rfl, hb⟩
    exact ⟨_, rfl, ⟨hb.os, hb.tape, hb.output⟩, HK _ ⟨hb.size, fun k hk _ => hb.block k hk⟩⟩
theorem eop_putS {L : List (Nat × List Value)} {F : Nat -> Prop} {h : Heap} {o : Sl} {xs : List ByteArray} {x : ByteArray} (O : OwS h F o xs) (hF : ∀ k, h.size ≤ k -> F k) (hL : Vars h L) (hoff : ∀ p, p ∈ L -> ¬ F p.1) (hb : xs.length ≤ 1000000) (R : Sl -> Heap -> Prop) (HR : ∀ t h', OwS h' F t (xs ++ [x]) -> Fr F h h' -> Vars h' L -> R t h') : eop Tryz.prog (Instr.buildSlice tSs 1 #[(0, VS x)]) h fun rv h1 => ∃ t : Sl, rv = t.v /\ Vars h1 L /\ eop Tryz.prog (appS tSs tSs tSs o.v t.v) h1 fun rv2 h2 => ∃ t2 : Sl, rv2 = t2.v /\ Vars h2 L /\ R t2 h2 := by
  refine eop_lit rSs (fun k => h.size ≤ k) (fun _ h => h) 1 (by omega) [VS x] rfl rfl fun t h1 n1 c1 o1 f1 m1 _ => ⟨t, rfl, hL.of_no f1, ?_⟩
  have z1 := f1.size
  have O1 : OwS h1 F o xs := Ow.no O f1
  have on := O1.rd.len
  have tn := o1.rd.len
  simp only [List.length_map, Nat.mul_one, List.length_cons, List.length_nil] at on tn
  refine eop_append rSs O1 (fun k hk => hF k (by omega)) o1.rd (plainVS [x]) (by omega) fun s' h2 n2 o2 f2 d2 => ?_
  have g2 : Fr F h1 h2 := f2.mono fun k _ hk => (O1.foot hk).1
  have V2 : Vars h2 L := (hL.of_no f1).fr g2 hoff
  exact ⟨s', rfl, V2, HR s' h2 (by rw [OwS, List.map_append]; exact o2) (f1.of_no.trans g2) V2⟩
theorem k_listText {S : Nat -> Prop} {h : Heap} {s : Sl} {rs : List Int} (H : RdI S h s rs) (B : ∀ x, x ∈ rs -> 0 ≤ x /\ x < 100) (hn : rs.length ≤ 1000) (K : Value -> Heap -> Prop) (HK : ∀ h', Fr No h h' -> K (VS ⟨(listL rs).toArray⟩) h') : callM Tryz.prog 77 #[s.v] h K := by
  have sn := RdI.len H
  refine v77 s h K ⟨fun e => ?_, fun e => ?_⟩
  · simp only [decide_eq_true_eq] at e
    have := HK h (Fr.refl _ _)
    unfold listL at this
    rw [if_pos (by omega)] at this
    exact this
  simp only [decide_eq_false_iff_not] at e
  refine eop_lit rSs (fun k => h.size ≤ k) (fun _ h => h) 0 (by omega) [] rfl rfl fun o h1 n1 c1 o1 f1 m1 _ => ⟨o, rfl, .nil, ?_⟩
  have z1 := f1.size
  have o1' : OwS h1 (fun k => h.size ≤ k) o [] := o1
  have no_ : ∀ {x : Heap}, Fr (fun k => h.size ≤ k) h x -> Fr No h x := fun f => f.mono fun k hk hk2 => absurd hk2 (by omega)
  refine ⟨fun m x p h' => 0 ≤ p /\ p + m = (rs.length : Int) /\ OwS h' (fun k => h.size ≤ k) x ((rs.take p.toNat).map fun y => (⟨(Lib.decDigits y.toNat).toArray⟩ : ByteArray)) /\ Fr (fun k => h.size ≤ k) h h', ⟨rs.length, by omega, by omega, by simpa using o1', f1.of_no⟩, ?_⟩
  rintro m x p h2 ⟨p0, p1, o2, f2⟩ hL2
  have z2 := f2.size
  have H2 := H.no (no_ f2)
  refine ⟨fun e2 => ?_, fun e2 => ?_⟩
  · have hp := H2.lt e2
    have bx := B _ (List.getElem_mem (show p.toNat < rs.length by omega))
    refine ⟨H2.inb p0 hp, _, H2.get p0 hp, k_Itoa bx.1 bx.2 _ ⟨_, rfl, .nil, ?_⟩⟩
    refine eop_putS o2 (fun k hk => by omega) .nil (fun q hq => by cases hq) (by simp; omega) _ fun t h5 o5 f5 _ => ?_
    rw [H2.succ p0 hp]
    refine ⟨m - 1, by omega, by omega, by omega, ?_, f2.trans f5⟩
    rw [show (p + 1).toNat = p.toNat + 1 by omega, List.take_add_one, List.getElem?_eq_getElem (show p.toNat < rs.length by omega)]
    rw [List.map_append]
    exact o5
  · have hp := H2.ge e2
    rw [List.take_of_length_le (by omega)] at o2
    have hm : ((rs.map fun y => (⟨(Lib.decDigits y.toNat).toArray⟩ : ByteArray)).map (·.data.toList)) = rs.map fun y => Lib.decDigits y.toNat := by simp
    have hjl := join_len (rs.map fun x => Lib.decDigits x.toNat) fun y hy => by
      obtain ⟨x, hx, rfl⟩ := List.mem_map.1 hy
      exact dec_len (by have := B x hx; omega)
    rw [List.length_map] at hjl
    refine k_Join o2.rdF (fun hh => by have := congrArg List.length hh; simp at this; simp [this] at sn; omega) (by simp; omega) (by rw [hm]; show (Lib.join _ [44]).length ≤ _; omega) _ fun h3 f3 => ⟨_, rfl, .nil, ?_⟩
    have := HK h3 ((no_ f2).trans f3)
    unfold listL at this
    rw [if_neg (by omega)] at this
    rw [hm]
    exact this
theorem rBs8 : rowC Tryz.prog 22 = some (5, 1, 1, [.int .u8 0]) := by kernel_rfl
theorem rop_str1 {F : Nat -> Prop} {h : Heap} {s : Sl} {x : Int} {bs : List UInt8} (H : RdV F h 1 s [Value.int .u8 x]) (hb : (strOfNums [x]) = ⟨bs.toArray⟩) {K : Value -> Prop} (HK : K (VS ⟨bs.toArray⟩)) : rop Tryz.prog (convert 22 9 s.v) h K := by
  have hlen := H.len
  simp only [List.length_cons, List.length_nil, Nat.mul_one] at hlen
  obtain ⟨a, ha, _, hc⟩ := RdV.cell H 0 (by simp)
  have hsp : a.spot = none := by
    cases hs : a.spot with
    | none => rfl
    | some sp => exfalso; unfold hcell at hc; simp [Addr.add, hs] at hc; split at hc <;> simp at hc
  obtain ⟨g, o, q⟩ := a
  simp only at hsp
  subst hsp
  have hv : s.v = .slice (some ⟨g, o, none⟩) 1 s.c := by unfold Sl.v; rw [ha, ← hlen]
  refine ⟨_, fun w hw => ?_, HK⟩
  subst hw
  rw [hv, run_convert_bytes_arg w 22 5 (by kernel_rfl) (by kernel_rfl) g o 1 s.c [x] rfl (fun i hi => by
    have : i = 0 := by omega
    subst this
    rw [mk_add] at hc
    rw [cell_hc, hc]
    rfl) 9 (by kernel_rfl), hb]
theorem k_l1Num {h : Heap} {n : Int} (h0 : 0 ≤ n) (h1 : n < 10) (K : Value -> Heap -> Prop) (HK : ∀ h', Fr No h h' -> K (VS ⟨(Lib.decDigits n.toNat).toArray⟩) h') : callM Tryz.prog 80 #[VI n] h K := by
  refine v80 n h K ⟨fun e => ?_, fun e => ?_⟩
  · rw [w64_eq _ (by omega) (by omega)]
    refine rop_conv (show Tryz.prog.underlying _ = some (.int .i64) from by kernel_rfl) (show Tryz.prog.underlying _ = some (.int .u8) from by kernel_rfl) (48 + n) ⟨48 + n, ?_, ?_⟩
    · show Value.int .u8 (IntKind.u8.wrap (48 + n)) = _
      have : IntKind.u8.wrap (48 + n) = 48 + n := by
        show (48 + n) % 256 = 48 + n
        omega
      rw [this]
    refine eop_lit rBs8 (fun k => h.size ≤ k) (fun _ h => h) 1 (by omega) [.int .u8 (48 + n)] rfl rfl fun w h6 n6 c6 o6 f6 m6 _ => ⟨w, rfl, .nil, ?_⟩
    refine rop_str1 (bs := Lib.decDigits n.toNat) o6.rdF ?_ ⟨_, rfl, HK h6 f6⟩
    rw [Lib.decDigits_one (show n.toNat < 10 by omega)]
    apply ByteArray.ext
    apply Array.toList_inj.1
    rw [strOfNums_data]
    simp only [List.map_cons, List.map_nil, List.cons.injEq, and_true]
    have : (48 + n).toNat = 48 + n.toNat := by omega
    rw [this]
  · simp only [decide_eq_false_iff_not] at e
    omega
theorem join_len40 (c : UInt8) : ∀ (xs : List (List UInt8)), (∀ x, x ∈ xs -> x.length ≤ 40) -> (Lib.join xs [c]).length ≤ 41 * xs.length
  | [], _ => by simp [Lib.join_nil]
  | x :: r, h => by
    rw [Lib.join_length]
    have : ∀ (l : List (List UInt8)), (∀ x, x ∈ l -> x.length ≤ 40) -> Lib.lens l ≤ 40 * l.length := by
      intro l
      induction l with
      | nil => intro _; simp [Lib.lens]
      | cons a l ih =>
        intro hl
        have h1 := ih fun y hy => hl y (List.mem_cons_of_mem _ hy)
        have h2 := hl a (List.mem_cons_self ..)
        simp only [Lib.lens, List.map_cons, List.sum_cons, List.length_cons] at h1 ⊢
        omega
    have := this _ h
    simp only [List.length_cons, List.length_nil] at this ⊢
    omega
theorem join_snoc (xs : List (List UInt8)) (y sep : List UInt8) : Lib.join (xs ++ [y]) sep = Lib.join xs sep ++ (if xs.length = 0 then [] else sep) ++ y := by
  cases xs with
  | nil => simp [Lib.join_nil, Lib.join_one]
  | cons x r =>
    rw [List.cons_append, Lib.join_cons, Lib.join_cons]
    simp [Lib.joinTail]
theorem join_take {α : Type} (f : α -> List UInt8) (sep : List UInt8) {xs : List α} {i : Nat} (hi : i < xs.length) : Lib.join ((xs.take (i + 1)).map f) sep = Lib.join ((xs.take i).map f) sep ++ (if i = 0 then [] else sep) ++ f xs[i] := by
  rw [List.take_add_one, List.getElem?_eq_getElem hi, Option.toList_some, List.map_append, List.map_cons, List.map_nil, join_snoc]
  congr 2
  simp only [List.length_map, List.length_take]
  by_cases h : i = 0
  · simp [h]
  · rw [if_neg h, if_neg (by omega)]
def okL (l : List Int) : Bool := !decide (12 < (l.length : Int)) && l.all (inR 0 4)
def stxB (S : List (List Int)) : Bool := inR 1 8 (S.length : Int) && (S.all okL && S.any fun l => decide (l.length = 0))
def stxL (S : List (List Int)) : List UInt8 := Lib.join (S.map listL) [59]
def stxP (S : List (List Int)) : ByteArray × Bool := if stxB S then (⟨(stxL S).toArray⟩, true) else (⟨#[]⟩, false)
theorem okL_len {l : List Int} (h : okL l = true) : l.length ≤ 12 /\ ∀ x, x ∈ l -> 0 ≤ x /\ x < 10 := by
  unfold okL at h
  simp only [Bool.and_eq_true, Bool.not_eq_true', decide_eq_false_iff_not, List.all_eq_true, inR_iff] at h
  exact ⟨by omega, fun x hx => by have := h.2 x hx; omega⟩
theorem okL_bytes {l : List Int} (h : okL l = true) : (listL l).length ≤ 40 := by
  have := okL_len h
  have := listL_len (rs := l) fun x hx => by have := this.2 x hx; omega
  omega
theorem all_take_succ {α : Type} {f : α -> Bool} {xs : List α} {i : Nat} (hi : i < xs.length) (h : (xs.take i).all f = true) (h1 : f xs[i] = true) : (xs.take (i + 1)).all f = true := by
  rw [List.take_add_one, List.getElem?_eq_getElem hi, Option.toList_some, List.all_append, h]
  simp [h1]
theorem any_take_succ {α : Type} {f : α -> Bool} {xs : List α} {i : Nat} (hi : i < xs.length) : (xs.take (i + 1)).any f = ((xs.take i).any f || f xs[i]) := by
  rw [List.take_add_one, List.getElem?_eq_getElem hi, Option.toList_some, List.any_append]
  simp
theorem stx_no {S : List (List Int)} {i : Nat} (hi : i < S.length) (h : okL S[i] = false) : stxP S = (⟨#[]⟩, false) := by
  unfold stxP
  rw [if_neg]
  intro hc
  unfold stxB at hc
  simp only [Bool.and_eq_true, List.all_eq_true] at hc
  rw [hc.2.1 _ (List.getElem_mem hi)] at h
  cases h
theorem stx_end {S : List (List Int)} (h1 : inR 1 8 (S.length : Int) = true) (h2 : S.all okL = true) : stxP S = if (S.any fun l => decide (l.length = 0)) then (⟨(stxL S).toArray⟩, true) else (⟨#[]⟩, false) := by
  unfold stxP stxB
  rw [h1, h2, Bool.true_and, Bool.true_and]
theorem k_spec_StacksText {S : Nat -> Prop} {h : Heap} {s : Sl} {xss : List (List Int)} (H : RdR S h s xss) (K : Value -> Heap -> Prop) (HK : ∀ h', Fr No h h' -> K (.tuple #[VS (stxP xss).1, VB (stxP xss).2]) h') : callM Tryz.prog 28 #[.agg #[s.v]] h K := by
  have sn := H.len
  refine v28 s h K fun b1 h1 hb1 f1 hL1 => ?_
  have f1 := f1.in_nil
  refine k_spec_l1In _ _ _ _ _ ⟨_, rfl, hL1, fun e => ?_, fun e => ?_⟩
  · have := HK h1 f1
    have hb : stxP xss = (⟨#[]⟩, false) := by
      unfold stxP stxB
      rw [if_neg]
      intro hc
      simp only [Bool.and_eq_true, inR_iff] at hc
      simp only [Bool.not_eq_true', Bool.and_eq_false_iff, decide_eq_false_iff_not] at e
      omega
    rw [hb] at this
    exact this
  simp only [Bool.not_eq_false', Bool.and_eq_true, decide_eq_true_eq] at e
  have hin : inR 1 8 (xss.length : Int) = true := inR_iff.2 (by omega)
  refine ⟨fun m out emp i h' => 0 ≤ i /\ i + m = (xss.length : Int) /\ out = (⟨(Lib.join ((xss.take i.toNat).map listL) [59]).toArray⟩ : ByteArray) /\ emp = ((xss.take i.toNat).any fun l => decide (l.length = 0)) /\ (xss.take i.toNat).all okL = true /\ Fr No h h', ⟨xss.length, by omega, by omega, rfl, rfl, rfl, f1⟩, ?_⟩
  rintro m out emp i h3 ⟨i0, i1, rfl, rfl, hall, f3⟩ hL3
  have H3 := H.no f3
  refine ⟨fun e2 => ?_, fun e2 => ?_⟩
  · have hi := H3.lt e2
    have hi2 : i.toNat < xss.length := by omega
    obtain ⟨si, c1, r1⟩ := H3.get i0 hi
    have rn := r1.len
    have bad : okL xss[i.toNat] = false -> ∀ h', Fr No h3 h' -> K (.tuple #[VS ⟨#[]⟩, VB false]) h' := fun hb h' f => by
      have := HK h' (f3.trans f)
      rw [stx_no hi2 hb] at this
      exact this
    refine ⟨H3.inb i0 hi, si, c1, fun e3 => bad ?_ h3 (Fr.refl _ _), fun e3 => ?_⟩
    · simp only [decide_eq_true_eq] at e3
      unfold okL
      rw [decide_eq_true (by omega)]; rfl
    simp only [decide_eq_false_iff_not] at e3
    refine k_spec_l1All r1 0 4 _ ⟨_, rfl, hL3, fun e4 => bad ?_ h3 (Fr.refl _ _), fun e4 => ?_⟩
    · unfold okL
      simp only [Bool.not_eq_true'] at e4
      rw [e4, Bool.and_false]
    simp only [Bool.not_eq_false'] at e4
    have hok : okL xss[i.toNat] = true := by
      unfold okL
      rw [e4, decide_eq_false (by omega)]; rfl
    have hk := okL_len hok
    have hl1 := join_len40 59 ((xss.take i.toNat).map listL) fun y hy => by
      obtain ⟨l, hl, rfl⟩ := List.mem_map.1 hy
      exact okL_bytes (List.all_eq_true.1 hall l hl)
    have hl2 : ((xss.take i.toNat).map listL).length ≤ 8 := by simp; omega
    generalize hB : Lib.join ((xss.take i.toNat).map listL) [59] ++ (if i.toNat = 0 then [] else [59]) = B
    have Bl : B.length ≤ 400 := by rw [← hB, List.length_append]; split <;> simp only [List.length_nil, List.length_cons] <;> omega
    have next : Lib.join ((xss.take (i.toNat + 1)).map listL) [59] = B ++ listL xss[i.toNat] := by rw [join_take listL [59] hi2, hB]
    refine ⟨fun x h' => x = (⟨B.toArray⟩ : ByteArray) /\ h' = h3, ⟨fun e5 => ⟨?_, ?_, rfl⟩, fun e5 => ⟨?_, rfl⟩⟩, ?_⟩
    · rw [ba_size]; show _ + 1 ≤ _; omega
    · simp only [decide_eq_true_eq] at e5
      rw [show (⟨#[59]⟩ : ByteArray) = ⟨[59].toArray⟩ from rfl, ba_app, ← hB, if_neg (by omega)]
    · simp only [decide_eq_false_iff_not] at e5
      rw [← hB, if_pos (by omega), List.append_nil]
    rintro x h5 ⟨rfl, rfl⟩ hL5
    refine ⟨fun x e' h' => x = (⟨(B ++ if xss[i.toNat].length = 0 then [45] else []).toArray⟩ : ByteArray) /\ e' = ((xss.take (i.toNat + 1)).any fun l => decide (l.length = 0)) /\ h' = h5, ⟨fun e5 => ⟨?_, ?_, ?_, rfl⟩, fun e5 => ⟨?_, ?_, rfl⟩⟩, ?_⟩
    · rw [ba_size]; show _ + 1 ≤ _; omega
    · simp only [decide_eq_true_eq] at e5
      rw [show (⟨#[45]⟩ : ByteArray) = ⟨[45].toArray⟩ from rfl, ba_app, if_pos (by omega)]
    · simp only [decide_eq_true_eq] at e5
      rw [any_take_succ hi2, decide_eq_true (show xss[i.toNat].length = 0 by omega), Bool.or_true]
    · simp only [decide_eq_false_iff_not] at e5
      rw [if_neg (by omega), List.append_nil]
    · simp only [decide_eq_false_iff_not] at e5
      rw [any_take_succ hi2, decide_eq_false (show ¬ xss[i.toNat].length = 0 by omega), Bool.or_false]
    rintro x2 e' h6 ⟨rfl, rfl, rfl⟩ hL6
    generalize hC : (B ++ if xss[i.toNat].length = 0 then [45] else []) = C
    have Cl : C.length ≤ 401 := by rw [← hC, List.length_append]; split <;> simp only [List.length_nil, List.length_cons] <;> omega
    refine ⟨fun m2 o j h' => 0 ≤ j /\ j + m2 = (xss[i.toNat].length : Int) /\ o = (⟨(C ++ Lib.join ((xss[i.toNat].take j.toNat).map fun y => Lib.decDigits y.toNat) [44]).toArray⟩ : ByteArray) /\ Fr No h6 h', ⟨xss[i.toNat].length, by omega, by omega, by simp [Lib.join_nil], Fr.refl _ _⟩, ?_⟩
    rintro m2 o j h7 ⟨j0, j1, rfl, f7⟩ hL7
    have R7 := r1.no f7
    refine ⟨fun e5 => ?_, fun e5 => ?_⟩
    · have hj := R7.lt e5
      have hj2 : j.toNat < xss[i.toNat].length := by omega
      have dj := hk.2 _ (List.getElem_mem hj2)
      have hl3 := join_len ((xss[i.toNat].take j.toNat).map fun y => Lib.decDigits y.toNat) fun y hy => by
        obtain ⟨x, hx, rfl⟩ := List.mem_map.1 hy
        have := hk.2 x (List.mem_of_mem_take hx)
        exact dec_len (by omega)
      have hl4 : ((xss[i.toNat].take j.toNat).map fun y => Lib.decDigits y.toNat).length ≤ 12 := by simp; omega
      generalize hD : C ++ Lib.join ((xss[i.toNat].take j.toNat).map fun y => Lib.decDigits y.toNat) [44] ++ (if j.toNat = 0 then [] else [44]) = D
      have Dl : D.length ≤ 500 := by rw [← hD, List.length_append, List.length_append]; split <;> simp only [List.length_nil, List.length_cons] <;> omega
      refine ⟨R7.inb j0 hj, _, R7.get j0 hj, fun x h' => x = (⟨D.toArray⟩ : ByteArray) /\ h' = h7, ⟨fun e6 => ⟨?_, ?_, rfl⟩, fun e6 => ⟨?_, rfl⟩⟩, ?_⟩
      · rw [ba_size, List.length_append]; show _ + 1 ≤ _; omega
      · simp only [decide_eq_true_eq] at e6
        rw [show (⟨#[44]⟩ : ByteArray) = ⟨[44].toArray⟩ from rfl, ba_app, ← hD, if_neg (by omega)]
      · simp only [decide_eq_false_iff_not] at e6
        rw [← hD, if_pos (by omega), List.append_nil]
      rintro x h8 ⟨rfl, rfl⟩ hL8
      refine k_l1Num dj.1 dj.2 _ fun h9 f9 => ⟨_, rfl, hL8.of_no f9, ?_, ?_⟩
      · have := dec_len (show (xss[i.toNat][j.toNat]).toNat < 100 by omega)
        rw [ba_size, ba_size]; omega
      · rw [R7.succ j0 hj]
        refine ⟨m2 - 1, by omega, by omega, by omega, ?_, f7.trans f9⟩
        rw [ba_app, show (j + 1).toNat = j.toNat + 1 by omega, join_take _ _ hj2, ← hD]
        simp only [List.append_assoc]
    · have hj := R7.ge e5
      rw [List.take_of_length_le (by omega), H3.succ i0 hi]
      refine ⟨m - 1, by omega, by omega, by omega, ?_, by rw [show (i + 1).toNat = i.toNat + 1 by omega], by rw [show (i + 1).toNat = i.toNat + 1 by omega]; exact all_take_succ hi2 hall hok, f3.trans f7⟩
      rw [show (i + 1).toNat = i.toNat + 1 by omega, next, ← hC]
      unfold listL
      by_cases hz : xss[i.toNat].length = 0
      · rw [if_pos hz, if_pos hz, List.length_eq_zero_iff.1 hz, List.map_nil, Lib.join_nil, List.append_nil]
      · rw [if_neg hz, if_neg hz, List.append_nil]
  · have hi := H3.ge e2
    rw [List.take_of_length_le (by omega)] at hall ⊢
    have hE := stx_end hin hall
    refine ⟨fun e3 => ?_, fun e3 => ?_⟩
    · have := HK h3 f3
      rw [hE, if_neg (by rw [not_t e3]; simp)] at this
      exact this
    · have := HK h3 f3
      rw [hE, if_pos (not_f e3)] at this
      exact this
theorem k_StacksText1 (x : Int) (h : Heap) (K : Value -> Heap -> Prop) (HK : K (VB (!inR 0 4 x)) h) : callV Tryz.prog (.func (.func 76) #[] #[]) [VI x] h K :=
  v76 x h K (k_impl_in _ _ _ _ _ ⟨_, rfl, .nil, HK⟩)
theorem k_StacksText {S : Nat -> Prop} {h : Heap} {s : Sl} {xss : List (List Int)} (H : RdR S h s xss) (K : Value -> Heap -> Prop) (HK : ∀ h', Fr No h h' -> K (.tuple #[VS (stxP xss).1, VB (stxP xss).2]) h') : callM Tryz.prog 27 #[.agg #[s.v]] h K := by
  have sn := H.len
  refine v27 s h K fun b1 h1 hb1 f1 hL1 => ?_
  have f1 := f1.in_nil
  have z1 := f1.size
  have l1 : b1 < h1.size := hL1.head.lt
  refine k_impl_in _ _ _ _ _ ⟨_, rfl, hL1, fun e => ?_, fun e => ?_⟩
  · have := HK h1 f1
    have hb : stxP xss = (⟨#[]⟩, false) := by
      unfold stxP stxB
      rw [if_neg]
      intro hc
      simp only [Bool.and_eq_true, inR_iff] at hc
      simp only [Bool.not_eq_true', Bool.and_eq_false_iff, decide_eq_false_iff_not] at e
      omega
    rw [hb] at this
    exact this
  simp only [Bool.not_eq_false', Bool.and_eq_true, decide_eq_true_eq] at e
  have hin : inR 1 8 (xss.length : Int) = true := inR_iff.2 (by omega)
  refine eop_lit rSs (fun k => h1.size ≤ k) (fun _ h => h) 0 (by omega) [] rfl rfl fun o h2 n2 c2 o2 f2 m2 _ => ⟨o, rfl, hL1.of_no f2, ?_⟩
  have z2 := f2.size
  have o2' : OwS h2 (fun k => h1.size ≤ k) o [] := o2
  have no_ : ∀ {x : Heap}, Fr (fun k => h1.size ≤ k) h x -> Fr No h x := fun f => f.mono fun k hk hk2 => absurd hk2 (by omega)
  refine ⟨fun m emp x i h' => 0 ≤ i /\ i + m = (xss.length : Int) /\ OwS h' (fun k => h1.size ≤ k) x ((xss.take i.toNat).map fun l => (⟨(listL l).toArray⟩ : ByteArray)) /\ emp = ((xss.take i.toNat).any fun l => decide (l.length = 0)) /\ (xss.take i.toNat).all okL = true /\ Fr (fun k => h1.size ≤ k) h h' /\ h1.size ≤ h'.size, ⟨xss.length, by omega, by omega, by simpa using o2', rfl, rfl, f1.of_no.trans f2.of_no, z2⟩, ?_⟩
  rintro m emp x i h3 ⟨i0, i1, o3, rfl, hall, f3, z3⟩ hL3
  have H3 := H.no (no_ f3)
  refine ⟨fun e2 => ?_, fun e2 => ?_⟩
  · have hi := H3.lt e2
    have hi2 : i.toNat < xss.length := by omega
    obtain ⟨si, c1, r1⟩ := H3.get i0 hi
    have rn := r1.len
    have bad : okL xss[i.toNat] = false -> K (.tuple #[VS ⟨#[]⟩, VB false]) h3 := fun hb => by
      have := HK h3 (no_ f3)
      rw [stx_no hi2 hb] at this
      exact this
    refine ⟨H3.inb i0 hi, si, c1, fun e3 => bad ?_, fun e3 => ?_⟩
    · simp only [decide_eq_true_eq] at e3
      unfold okL
      rw [decide_eq_true (by omega)]; rfl
    simp only [decide_eq_false_iff_not] at e3
    refine k_ContainsFunc r1 _ _ (fun x K HK => k_StacksText1 x h3 K HK) _ ⟨_, rfl, hL3, fun e4 => bad ?_, fun e4 => ?_⟩
    · rw [any_not] at e4
      unfold okL
      simp only [Bool.not_eq_true'] at e4
      rw [e4, Bool.and_false]
    rw [any_not] at e4
    simp only [Bool.not_eq_false'] at e4
    have hok : okL xss[i.toNat] = true := by
      unfold okL
      rw [e4, decide_eq_false (by omega)]; rfl
    have hk := okL_len hok
    have off : ∀ A (q : Nat × List Value), q ∈ [(b1, A)] -> ¬ h1.size ≤ q.1 := fun A q hq => by
      simp only [List.mem_cons, List.not_mem_nil, or_false] at hq
      subst hq; simp only; omega
    have nxt : ∀ (u : Sl) (h' : Heap) (b : Bool), OwS h' (fun k => h1.size ≤ k) u ((xss.take i.toNat).map (fun l => (⟨(listL l).toArray⟩ : ByteArray)) ++ [⟨(listL xss[i.toNat]).toArray⟩]) -> b = ((xss.take i.toNat).any (fun l => decide (l.length = 0)) || decide (xss[i.toNat].length = 0)) -> Fr (fun k => h1.size ≤ k) h h' -> h1.size ≤ h'.size -> ∃ m' : Nat, m' < m /\ (0 ≤ w64 (i + 1) /\ w64 (i + 1) + m' = (xss.length : Int) /\ OwS h' (fun k => h1.size ≤ k) u ((xss.take (w64 (i + 1)).toNat).map fun l => (⟨(listL l).toArray⟩ : ByteArray)) /\ b = ((xss.take (w64 (i + 1)).toNat).any fun l => decide (l.length = 0)) /\ (xss.take (w64 (i + 1)).toNat).all okL = true /\ Fr (fun k => h1.size ≤ k) h h' /\ h1.size ≤ h'.size) := fun u h' b O hb f z => by
      rw [H3.succ i0 hi, show (i + 1).toNat = i.toNat + 1 by omega]
      refine ⟨m - 1, by omega, by omega, by omega, ?_, by rw [any_take_succ hi2]; exact hb, all_take_succ hi2 hall hok, f, z⟩
      rw [List.take_add_one, List.getElem?_eq_getElem hi2, Option.toList_some, List.map_append]
      exact O
    refine ⟨fun e5 => ?_, fun e5 => ?_⟩
    · refine k_listText r1 (fun y hy => by have := hk.2 y hy; omega) (by omega) _ fun h9 f9 => ⟨_, rfl, hL3.of_no f9, ?_⟩
      have z9 := f9.size
      refine eop_putS (Ow.no o3 f9) (fun k hk => by omega) (hL3.of_no f9) (off _) (by simp; omega) _ fun u h11 o11 f11 V11 => ?_
      have z11 := f11.size
      exact nxt u h11 true o11 (by rw [e5]; rfl) ((f3.trans f9.of_no).trans f11) (by omega)
    · refine k_listText r1 (fun y hy => by have := hk.2 y hy; omega) (by omega) _ fun h9 f9 => ⟨_, rfl, hL3.of_no f9, ?_⟩
      have z9 := f9.size
      refine eop_putS (Ow.no o3 f9) (fun k hk => by omega) (hL3.of_no f9) (off _) (by simp; omega) _ fun u h11 o11 f11 V11 => ?_
      have z11 := f11.size
      exact nxt u h11 _ o11 (by rw [e5, Bool.false_or]; congr 1; rw [rn]; simp) ((f3.trans f9.of_no).trans f11) (by omega)
  · have hi := H3.ge e2
    rw [List.take_of_length_le (by omega)] at hall o3 ⊢
    have hE := stx_end hin hall
    refine ⟨fun e3 => ?_, fun e3 => ?_⟩
    · have := HK h3 (no_ f3)
      rw [hE, if_neg (by rw [not_t e3]; simp)] at this
      exact this
    · have hm : ((xss.map fun l => (⟨(listL l).toArray⟩ : ByteArray)).map (·.data.toList)) = xss.map listL := by simp
      have hjl := join_len40 59 (xss.map listL) fun y hy => by
        obtain ⟨l, hl, rfl⟩ := List.mem_map.1 hy
        exact okL_bytes (List.all_eq_true.1 hall l hl)
      rw [List.length_map] at hjl
      refine k_Join o3.rdF (fun hh => by have := congrArg List.length hh; simp at this; simp [this] at sn; omega) (by simp; omega) (by rw [hm]; show (Lib.join _ [59]).length ≤ _; omega) _ fun h12 f12 => ⟨_, rfl, hL3.of_no f12, ?_⟩
      have := HK h12 ((no_ f3).trans f12)
      rw [hE, if_pos (not_f e3)] at this
      rw [hm]
      exact this
theorem k_drwalk {a n b : Nat} {h : Heap} {c : Sl} {i sd : Int} (V : IsVar h b [c.v, VI i, .int .u64 sd]) (hb : a ≤ b) (D : CurD a n h c i) (hn : n ≤ 100000) (K : Value -> Heap -> Prop) (HK : ∀ (t w : Sl) (gs : List (List Int)) (rs : List Int) (p i' sd' : Int) h', gs.length ≤ 9 -> RdR (fun k => h.size ≤ k) h' t gs -> RdI (fun k => h.size ≤ k) h' w rs -> IsVar h' b [c.v, VI i', .int .u64 sd'] -> CurD a (n + 300) h' c i' -> Fr (In [b]) h h' -> K (.tuple #[.agg #[t.v], .agg #[w.v, VI p]]) h') : callM Tryz.prog 67 #[VP b 0] h K := by
  have lb := V.lt
  refine v67 b c i sd h K (.cons V (by simp) .nil) fun b2 b3 h2 hb2 hb3 f2 hL2 => ?_
  have f2 := f2.in_nil
  have z2 := f2.size
  have l3 : b3 < h2.size := hL2.head.lt
  have l2 : b2 < h2.size := hL2.tail.head.lt
  have fin : ∀ (h' : Heap), Fr (fun k => k = b ∨ h.size ≤ k) h h' -> Fr (In [b]) h h' := fun h' f => f.mono fun k hk hk2 => by
    rcases hk2 with e | e
    · simp [In, e]
    · omega
  have inb : ∀ {x y : Heap}, Fr (In [b]) x y -> Fr (fun k => k = b ∨ h.size ≤ k) x y := fun f => f.mono fun k _ hk => .inl (by simpa [In] using hk)
  refine k_drgraph9 hL2.tail.tail.head hb (D.no f2) (by omega) _ fun t gs i3 sd3 h3 gl G3 V3 D3 f3 => ⟨c, i3, sd3, t, rfl, vcur hL2 2 rfl f3 V3, fun b4 h5 hb4 f5 hL5 => ?_⟩
  have f5 := f5.in_nil
  have z3 := f3.size
  have z5 := f5.size
  have l4 : b4 < h5.size := hL5.head.lt
  have G5 : RdR (fun k => h2.size ≤ k /\ k < h3.size) h5 t gs := G3.lowS.no f5
  have f05 : Fr (fun k => k = b ∨ h.size ≤ k) h h5 := (f2.of_no.trans (inb f3)).trans f5.of_no
  refine k_spec_grGood G5 _ fun h6 f6 => ⟨_, rfl, hL5.of_no f6, fun e h8 f8 hL8 => ?_, fun e => ?_⟩
  · have z6 := f6.size
    have off : ∀ k, (h2.size ≤ k /\ k < h3.size) -> ¬ In [b3, b2] k := fun k hk hk2 => by
      simp only [In, List.mem_cons, List.not_mem_nil, or_false] at hk2
      omega
    exact HK t nilSl gs [] 0 i3 sd3 h8 gl (((G5.no f6).fr f8 off).mono fun k hk => by omega) (RdV.nil _ _ _) hL8.tail.tail.tail.head (((((D3.no f5).no f6).fr f8 fun k hk hk2 => by simp only [In, List.mem_cons, List.not_mem_nil, or_false] at hk2; omega)).up (by omega)) (fin _ ((f05.trans f6.of_no).trans (f8.mono fun k _ hk => .inr (by simp only [In, List.mem_cons, List.not_mem_nil, or_false] at hk; omega))))
  have z6 := f6.size
  have hL6 := hL5.of_no f6
  refine k_sureWalk hL6.tail.tail.tail.head hb ((D3.no f5).no f6) (by omega) (G5.no f6) (fun hk => by omega) (by omega) _ fun w rs p i9 sd9 h9 o9 n9 V9 D9 f9 => ⟨c, i9, sd9, w, p, rfl, vcur hL6 3 rfl f9 V9, fun b5 h11 hb5 f11 hL11 => ?_⟩
  have f11 := f11.in_nil
  have z9 := f9.size
  have z11 := f11.size
  have l5 : b5 < h11.size := hL11.head.lt
  have f011 : Fr (fun k => k = b ∨ h.size ≤ k) h h11 := ((f05.trans f6.of_no).trans (inb f9)).trans f11.of_no
  generalize hF : (fun k => Iv h6.size h9.size k ∨ h11.size ≤ k) = F
  have F1 : ∀ k, F k -> h6.size ≤ k /\ k ≠ b5 := fun k hk => by rw [← hF] at hk; rcases hk with hk | hk; have a1 := hk.1; have a2 := hk.2; omega; omega
  have F2 : ∀ k, h11.size ≤ k -> F k := fun k hk => by rw [← hF]; exact .inr hk
  have o11 : OwI h11 F w rs := (Ow.no o9 f11).mono fun k _ hk => by rw [← hF]; exact .inl hk
  have wn := RdI.len o9.rdF
  have tn := G5.len
  have G11 : RdR (fun k => h2.size ≤ k /\ k < h3.size) h11 t gs := (((G5.no f6).fr f9 fun k hk hk2 => by simp [In] at hk2; omega)).no f11
  have ob : ∀ {X Y : Heap} {x : Sl} {zs : List Int}, OwI X F x zs -> Fr (In [b]) X Y -> OwI Y F x zs := fun O f => Ow.fr O f fun k hk hk2 => by have := F1 _ (O.foot hk).1; simp [In] at hk2; omega
  have oG : ∀ {X Y : Heap}, RdR (fun k => h2.size ≤ k /\ k < h3.size) X t gs -> Fr (In [b]) X Y -> RdR (fun k => h2.size ≤ k /\ k < h3.size) Y t gs := fun G f => G.fr f fun k hk hk2 => by simp [In] at hk2; omega
  have oF : ∀ {X Y : Heap}, RdR (fun k => h2.size ≤ k /\ k < h3.size) X t gs -> Fr F X Y -> RdR (fun k => h2.size ≤ k /\ k < h3.size) Y t gs := fun G f => G.fr f fun k hk hk2 => by have := F1 _ hk2; omega
  have uF : ∀ {X Y : Heap}, Fr F X Y -> Fr (fun k => k = b ∨ h.size ≤ k) X Y := fun f => f.mono fun k _ hk => .inr (by have := F1 _ hk; omega)
  have dF : ∀ {X Y : Heap} {m : Nat} {q : Int}, CurD a m X c q -> Fr F X Y -> CurD a m Y c q := fun D f => D.fr f fun k hk hk2 => by have := F1 _ hk2; omega
  have off : ∀ A B C E G (r : Nat × List Value), r ∈ [(b5, A), (b4, B), (b3, C), (b2, E), (b, G)] -> ¬ F r.1 := fun A B C E G r hr hk => by
    have := F1 _ hk
    simp only [List.mem_cons, List.not_mem_nil, or_false] at hr
    rcases hr with rfl | rfl | rfl | rfl | rfl <;> simp only at this <;> omega
  refine ⟨fun x q d i' sd' h' => d = c /\ CurD a (n + 250) h' c i' /\ RdR (fun k => h2.size ≤ k /\ k < h3.size) h' t gs /\ (∃ rs, RdI (fun k => h6.size ≤ k /\ k ≠ b5) h' x rs) /\ Fr (fun k => k = b ∨ h.size ≤ k) h h' /\ h11.size ≤ h'.size, ?_, ?_⟩
  · refine k_pick hL11.tail.tail.tail.tail.head hb (D9.no f11) (by omega) 16 _ fun y i12 sd12 h12 y0 y1 V12 D12 f12 => ⟨c, i12, sd12, y, rfl, vcur hL11 4 rfl f12 V12, fun _ => ?_, fun _ => ⟨fun _ => ⟨?_, ?_⟩, fun _ => ⟨fun _ => ?_, fun _ => ?_⟩⟩⟩
    · have hL12 := vcur hL11 4 rfl f12 V12
      have z12 := f12.size
      refine eop_lit rIs (fun k => h12.size ≤ k) (fun _ h => h) 3 (by omega) [VI (-1), VI (t.n : Int), VI 4611686018427387904] rfl rfl fun u h13 n13 c13 o13 f13 m13 _ => ⟨u, rfl, hL12.of_no f13, ?_⟩
      have r13 : RdI (fun k => h12.size ≤ k) h13 u [-1, (t.n : Int), 4611686018427387904] := o13.rdF
      refine k_among (hL12.of_no f13).tail.tail.tail.tail.head hb (D12.no f13) (by omega) r13 (by omega) (by simp) _ fun v i14 sd14 h14 hv V14 D14 f14 => ⟨c, i14, sd14, v, rfl, vcur (hL12.of_no f13) 4 rfl f14 V14, fun h15 f15 hL15 => ?_⟩
      have z13 := f13.size
      have z14 := f14.size
      have z15 := f15.size
      have oo : OwI h14 F w rs := ob (Ow.no (ob o11 f12) f13) f14
      exact ⟨rfl, (D14.fr f15 fun k hk hk2 => by simp [In] at hk2; omega).up (by omega), (oG ((oG G11 f12).no f13) f14).fr f15 fun k hk hk2 => by simp [In] at hk2; omega, ⟨rs, ((show RdI F h14 w rs from oo.rdF).mono fun k hk => F1 k hk).fr f15 fun k hk hk2 => by simp [In] at hk2; omega⟩, (((f011.trans (inb f12)).trans f13.of_no).trans (inb f14)).trans (f15.mono fun k _ hk => .inr (by simp [In] at hk; omega)), by omega⟩
    · have hL12 := vcur hL11 4 rfl f12 V12
      have z12 := f12.size
      refine k_pick hL12.tail.tail.tail.tail.head hb D12 (by omega) _ _ fun y2 i16 sd16 h16 u0 u1 V16 D16 f16 => ⟨c, i16, sd16, y2, rfl, vcur hL12 4 rfl f16 V16, ?_⟩
      have hL16 := vcur hL12 4 rfl f16 V16
      have z16 := f16.size
      refine eop_lit rIs (fun k => h16.size ≤ k) (fun _ h => h) 3 (by omega) [VI (-1), VI 4, VI 5] rfl rfl fun u h17 n17 c17 o17 f17 m17 _ => ⟨u, rfl, hL16.of_no f17, ?_⟩
      have r17 : RdI (fun k => h16.size ≤ k) h17 u [-1, 4, 5] := o17.rdF
      have z17 := f17.size
      refine k_among (hL16.of_no f17).tail.tail.tail.tail.head hb (D16.no f17) (by omega) r17 (by omega) (by simp) _ fun v i18 sd18 h18 hv V18 D18 f18 => ⟨c, i18, sd18, v, rfl, vcur (hL16.of_no f17) 4 rfl f18 V18, ?_⟩
      have z18 := f18.size
      have hg := graph_len (not_f e)
      have u1 := u1 (by omega)
      exact int_set (ob (Ow.no (ob (ob o11 f12) f16) f17) f18) u0 (by omega) (vcur (hL16.of_no f17) 4 rfl f18 V18) (off _ _ _ _ _) _ fun h19 o19 f19 V19 => ⟨rfl, (dF D18 f19).up (by omega), oF (oG ((oG (oG G11 f12) f16).no f17) f18) f19, ⟨_, (show RdI F h19 w _ from o19.rdF).mono fun k hk => F1 k hk⟩, ((((f011.trans (inb f12)).trans (inb f16)).trans f17.of_no).trans (inb f18)).trans (uF f19), by have := f19.size; omega⟩
    · have hL12 := vcur hL11 4 rfl f12 V12
      have z12 := f12.size
      refine eop_lit rIs (fun k => h12.size ≤ k) (fun _ h => h) 3 (by omega) [VI (-1), VI 4, VI 5] rfl rfl fun u h20 n20 c20 o20 f20 m20 _ => ⟨u, rfl, hL12.of_no f20, ?_⟩
      have r20 : RdI (fun k => h12.size ≤ k /\ k < h20.size) h20 u [-1, 4, 5] := RdV.lt (o20.rdF)
      have hL20 := hL12.of_no f20
      have z20 := f20.size
      refine k_pick hL20.tail.tail.tail.tail.head hb (D12.no f20) (by omega) _ _ fun y2 i16 sd16 h16 u0 u1 V16 D16 f16 => ⟨c, i16, sd16, y2, rfl, vcur hL20 4 rfl f16 V16, ?_⟩
      have hL16 := vcur hL20 4 rfl f16 V16
      have z16 := f16.size
      refine k_among hL16.tail.tail.tail.tail.head hb D16 (by omega) (r20.fr f16 fun k hk hk2 => by simp [In] at hk2; omega) (by omega) (by simp) _ fun v i18 sd18 h18 hv V18 D18 f18 => ⟨c, i18, sd18, v, rfl, vcur hL16 4 rfl f18 V18, ?_⟩
      have z18 := f18.size
      have hg := graph_len (not_f e)
      have u1 := u1 (by omega)
      exact int_set (ob (ob (Ow.no (ob o11 f12) f20) f16) f18) u0 (by omega) (vcur hL16 4 rfl f18 V18) (off _ _ _ _ _) _ fun h19 o19 f19 V19 => ⟨rfl, (dF D18 f19).up (by omega), oF (oG (oG ((oG G11 f12).no f20) f16) f18) f19, ⟨_, (show RdI F h19 w _ from o19.rdF).mono fun k hk => F1 k hk⟩, ((((f011.trans (inb f12)).trans f20.of_no).trans (inb f16)).trans (inb f18)).trans (uF f19), by have := f19.size; omega⟩
    · have hL12 := vcur hL11 4 rfl f12 V12
      have z12 := f12.size
      exact eop_putI (ob o11 f12) (fun k hk => F2 k (by omega)) hL12 (off _ _ _ _ _) (by omega) _ fun u h25 o25 f25 V25 h26 f26 hL26 => ⟨rfl, ((dF D12 f25).fr f26 fun k hk hk2 => by simp [In] at hk2; omega).up (by omega), (oF (oG G11 f12) f25).fr f26 fun k hk hk2 => by simp [In] at hk2; omega, ⟨_, ((show RdI F h25 u _ from o25.rdF).mono fun k hk => F1 k hk).fr f26 fun k hk hk2 => by simp [In] at hk2; omega⟩, ((f011.trans (inb f12)).trans (uF f25)).trans (f26.mono fun k _ hk => .inr (by simp [In] at hk; omega)), by have := f25.size; have := f26.size; omega⟩
    · exact ⟨rfl, D12.up (by omega), oG G11 f12, ⟨rs, (show RdI F h12 w rs from (ob o11 f12).rdF).mono fun k hk => F1 k hk⟩, f011.trans (inb f12), f12.size⟩
  rintro x q d i13 sd13 h27 ⟨rfl, D27, G27, ⟨rs27, R27⟩, f27, z27⟩ hL27 h28 f28 hL28 h29 f29 hL29
  exact HK t x gs rs27 q i13 sd13 h29 gl (((G27.fr f28 fun k hk hk2 => by simp [In] at hk2; omega).fr f29 fun k hk hk2 => by simp [In] at hk2; omega).mono fun k hk => by omega) (((R27.fr f28 fun k hk hk2 => by simp [In] at hk2; omega).fr f29 fun k hk hk2 => by simp [In] at hk2; omega).mono fun k hk => by omega) hL29.tail.tail.tail.tail.head (((D27.fr f28 fun k hk hk2 => by simp [In] at hk2; omega).fr f29 fun k hk hk2 => by simp [In] at hk2; omega).up (by omega)) (fin _ ((f27.trans (f28.mono fun k _ hk => .inr (by simp [In] at hk; omega))).trans (f29.mono fun k _ hk => .inr (by simp [In] at hk; omega))))
theorem k_spec_CyclesOf {S S' : Nat -> Prop} {h : Heap} {g s : Sl} {xss ls : List (List Int)} (G : RdR S h g xss) (H : RdR S' h s ls) (sink : Int) (K : Value -> Heap -> Prop) (HK : ∀ t h', OwX h' (Iv h.size h'.size) t (cycsOfP xss sink ls).1 -> Fr No h h' -> K (.tuple #[t.v, VB (cycsOfP xss sink ls).2]) h') : callM Tryz.prog 8 #[.agg #[g.v], VI sink, .agg #[s.v]] h K := by
  unfold cycsOfP at HK
  refine v8 g sink s h K fun b1 b2 h2 hb1 hb2 f2 hL2 => ?_
  have f2 := f2.in_nil
  refine k_skGood (G.no f2) (H.no f2) sink _ fun h3 f3 => ⟨_, rfl, hL2.of_no f3, fun e => ?_, fun e => ?_⟩
  · simp only [Bool.not_eq_true'] at e
    rw [e] at HK
    exact HK nilSl h3 (OwR.nil _ _ _ _) (f2.trans f3)
  · simp only [Bool.not_eq_false'] at e
    rw [if_pos e] at HK
    have f03 := f2.trans f3
    refine k_skCycles (G.no f03) (H.no f03) (stack_of e).1 _ fun t h4 o4 f4 => ⟨t, rfl, (hL2.of_no f3).of_no f4, ?_⟩
    exact HK t h4 (OwR.ivs o4 f03.size (Nat.le_refl _)) (f03.trans f4)
theorem k_spec_TopsOf {S S' : Nat -> Prop} {h : Heap} {g s : Sl} {xss ls : List (List Int)} (G : RdR S h g xss) (H : RdR S' h s ls) (sink : Int) (K : Value -> Heap -> Prop) (HK : ∀ t h', OwI h' (Iv h.size h'.size) t (topsOfP xss sink ls).1 -> Fr No h h' -> K (.tuple #[t.v, VB (topsOfP xss sink ls).2]) h') : callM Tryz.prog 14 #[.agg #[g.v], VI sink, .agg #[s.v]] h K := by
  unfold topsOfP at HK
  refine v14 g sink s h K fun b1 b2 h2 hb1 hb2 f2 hL2 => ?_
  have f2 := f2.in_nil
  refine k_skGood (G.no f2) (H.no f2) sink _ fun h3 f3 => ⟨_, rfl, hL2.of_no f3, fun e => ?_, fun e => ?_⟩
  · simp only [Bool.not_eq_true'] at e
    rw [e] at HK
    exact HK nilSl h3 (Ow.nil _ _ _ _) (f2.trans f3)
  · simp only [Bool.not_eq_false'] at e
    rw [if_pos e] at HK
    have f03 := f2.trans f3
    have W := (stack_of e).1
    have gl := graph_len W.graph
    refine k_skTops (G.no f03) (H.no f03) W.len (by omega) sink _ fun t h4 o4 f4 => ⟨t, _, rfl, (hL2.of_no f3).of_no f4, ?_⟩
    exact HK t h4 (o4.mono fun k _ hk => ⟨Nat.le_trans f03.size hk.1, hk.2⟩) (f03.trans f4)
def fcP (g : List (List Int)) (sink : Int) (ls : List (List Int)) : List Int × Bool :=
  match (cycsOfP g sink ls).1 with
  | [] => ([], false)
  | c :: _ => (c, true)
def arP (g : List (List Int)) (sink : Int) (ls : List (List Int)) : Bool × Bool :=
  if graphB g && inR 0 ((g.length : Int) - 1) sink then (stackB g sink ls, true) else (false, false)
theorem k_FirstCycle {S S' : Nat -> Prop} {h : Heap} {g s : Sl} {xss ls : List (List Int)} (G : RdR S h g xss) (H : RdR S' h s ls) (sink : Int) (K : Value -> Heap -> Prop) (HK : ∀ t h', RdI (Iv h.size h'.size) h' t (fcP xss sink ls).1 -> Fr No h h' -> K (.tuple #[t.v, VB (fcP xss sink ls).2]) h') : callM Tryz.prog 9 #[.agg #[g.v], VI sink, .agg #[s.v]] h K := by
  refine v9 g sink s h K fun b1 b2 h2 hb1 hb2 f2 hL2 => ?_
  have f2 := f2.in_nil
  have z2 := f2.size
  refine k_CyclesOf (G.no f2) (H.no f2) sink _ fun t h3 o3 f3 => ⟨t, _, rfl, hL2.of_no f3, fun e => ?_, fun e => ⟨fun e2 => ?_, fun e2 => ?_⟩⟩
  · have hn : fcP xss sink ls = ([], false) := by
      unfold fcP
      have : (cycsOfP xss sink ls).1 = [] := by
        unfold cycsOfP at e ⊢
        split at e
        · cases e
        · rename_i hh; rw [if_neg hh]
      rw [this]
    rw [hn] at HK
    exact HK nilSl h3 (show OwI h3 (Iv h.size h3.size) nilSl [] from Ow.nil _ _ _ _).rdF (f2.trans f3)
  · simp only [decide_eq_true_eq] at e2
    have tl := (OwR.rd o3).len
    have hn : (cycsOfP xss sink ls).1 = [] := List.length_eq_zero_iff.1 (by omega)
    have : fcP xss sink ls = ([], false) := by unfold fcP; rw [hn]
    rw [this] at HK
    exact HK nilSl h3 (show OwI h3 (Iv h.size h3.size) nilSl [] from Ow.nil _ _ _ _).rdF (f2.trans f3)
  · simp only [decide_eq_false_iff_not] at e2
    have R3 := OwR.rd o3
    have tl := R3.len
    obtain ⟨si, c1, r1⟩ := R3.get (i := 0) (Int.le_refl _) (by omega)
    refine ⟨R3.inb (Int.le_refl _) (by omega), si, c1, ?_⟩
    cases hc : (cycsOfP xss sink ls).1 with
    | nil => rw [hc] at tl; simp at tl; omega
    | cons c cs =>
      have : fcP xss sink ls = (c, true) := by unfold fcP; rw [hc]
      rw [this] at HK
      refine HK si h3 ?_ (f2.trans f3)
      have e0 : (cycsOfP xss sink ls).1[(0 : Int).toNat]'(by omega) = c := by simp [hc]
      rw [e0] at r1
      exact r1.mono fun k hk => ⟨Nat.le_trans z2 hk.1.1, hk.1.2⟩
theorem k_spec_FirstCycle {S S' : Nat -> Prop} {h : Heap} {g s : Sl} {xss ls : List (List Int)} (G : RdR S h g xss) (H : RdR S' h s ls) (sink : Int) (K : Value -> Heap -> Prop) (HK : ∀ t h', RdI (Iv h.size h'.size) h' t (fcP xss sink ls).1 -> Fr No h h' -> K (.tuple #[t.v, VB (fcP xss sink ls).2]) h') : callM Tryz.prog 10 #[.agg #[g.v], VI sink, .agg #[s.v]] h K := by
  refine v10 g sink s h K fun b1 b2 h2 hb1 hb2 f2 hL2 => ?_
  have f2 := f2.in_nil
  have z2 := f2.size
  refine k_skGood (G.no f2) (H.no f2) sink _ fun h3 f3 => ⟨_, rfl, hL2.of_no f3, fun e => ?_, fun e => ?_⟩
  · simp only [Bool.not_eq_true'] at e
    have hn : fcP xss sink ls = ([], false) := by unfold fcP cycsOfP; rw [e]; rfl
    rw [hn] at HK
    exact HK nilSl h3 (show OwI h3 (Iv h.size h3.size) nilSl [] from Ow.nil _ _ _ _).rdF (f2.trans f3)
  simp only [Bool.not_eq_false'] at e
  have ec : cycsOfP xss sink ls = (cycsP xss ls, true) := by unfold cycsOfP; rw [if_pos e]
  have f03 := f2.trans f3
  have z3 := f03.size
  refine k_skCycles (G.no f03) (H.no f03) (stack_of e).1 _ fun t h4 o4 f4 => ⟨t, rfl, (hL2.of_no f3).of_no f4, fun e2 => ?_, fun e2 => ?_⟩
  · simp only [decide_eq_true_eq] at e2
    have tl := (OwR.rd o4).len
    have hn : cycsP xss ls = [] := List.length_eq_zero_iff.1 (by omega)
    have : fcP xss sink ls = ([], false) := by unfold fcP; rw [ec, hn]
    rw [this] at HK
    exact HK nilSl h4 (show OwI h4 (Iv h.size h4.size) nilSl [] from Ow.nil _ _ _ _).rdF (f03.trans f4)
  · simp only [decide_eq_false_iff_not] at e2
    have R3 := OwR.rd o4
    have tl := R3.len
    obtain ⟨si, c1, r1⟩ := R3.get (i := 0) (Int.le_refl _) (by omega)
    refine ⟨R3.inb (Int.le_refl _) (by omega), si, c1, ?_⟩
    cases hc : cycsP xss ls with
    | nil => rw [hc] at tl; simp at tl; omega
    | cons c cs =>
      have : fcP xss sink ls = (c, true) := by unfold fcP; rw [ec, hc]
      rw [this] at HK
      refine HK si h4 ?_ (f03.trans f4)
      have e0 : (cycsP xss ls)[(0 : Int).toNat]'(by omega) = c := by simp [hc]
      rw [e0] at r1
      exact r1.mono fun k hk => ⟨Nat.le_trans z3 hk.1.1, hk.1.2⟩
theorem k_AreStacks {S S' : Nat -> Prop} {h : Heap} {g s : Sl} {xss ls : List (List Int)} (G : RdR S h g xss) (H : RdR S' h s ls) (sink : Int) (K : Value -> Heap -> Prop) (HK : ∀ h', Fr No h h' -> K (.tuple #[VB (arP xss sink ls).1, VB (arP xss sink ls).2]) h') : callM Tryz.prog 11 #[.agg #[g.v], VI sink, .agg #[s.v]] h K := by
  refine v11 g sink s h K fun b1 b2 h1 hb1 hb2 f1 hL1 => ?_
  have f1 := f1.in_nil
  refine eop_lit rIs (fun k => h1.size ≤ k) (fun _ h => h) 1 (by omega) [VI sink] rfl rfl fun v h2 n2 c2 o2 f2 m2 _ => ⟨v, rfl, hL1.of_no f2, ?_⟩
  have r2 : RdI (fun k => h1.size ≤ k) h2 v [sink] := o2.rdF
  have f02 := f1.trans f2
  refine k_has (G.no f02) r2 _ fun h3 f3 => ⟨_, rfl, (hL1.of_no f2).of_no f3, fun e => ?_, fun e => ?_⟩
  · simp only [List.all_cons, List.all_nil, Bool.and_true] at e
    have : arP xss sink ls = (false, false) := by unfold arP; rw [not_t e]; rfl
    rw [this] at HK
    exact HK h3 (f02.trans f3)
  simp only [List.all_cons, List.all_nil, Bool.and_true] at e
  have : arP xss sink ls = (stackB xss sink ls, true) := by unfold arP; rw [not_f e]; rfl
  rw [this] at HK
  have f03 := f02.trans f3
  refine k_areStacks (G.no f03) (H.no f03) sink _ fun h4 f4 => ⟨_, rfl, ((hL1.of_no f2).of_no f3).of_no f4, HK h4 (f03.trans f4)⟩
theorem k_spec_AreStacks {S S' : Nat -> Prop} {h : Heap} {g s : Sl} {xss ls : List (List Int)} (G : RdR S h g xss) (H : RdR S' h s ls) (sink : Int) (K : Value -> Heap -> Prop) (HK : ∀ h', Fr No h h' -> K (.tuple #[VB (arP xss sink ls).1, VB (arP xss sink ls).2]) h') : callM Tryz.prog 12 #[.agg #[g.v], VI sink, .agg #[s.v]] h K := by
  refine v12 g sink s h K fun b1 b2 h1 hb1 hb2 f1 hL1 => ?_
  have f1 := f1.in_nil
  refine k_spec_grPlace (G.no f1) sink _ fun h3 f3 => ⟨_, rfl, hL1.of_no f3, fun e => ?_, fun e => ?_⟩
  · have : arP xss sink ls = (false, false) := by unfold arP; rw [not_t e]; rfl
    rw [this] at HK
    exact HK h3 (f1.trans f3)
  have : arP xss sink ls = (stackB xss sink ls, true) := by unfold arP; rw [not_f e]; rfl
  rw [this] at HK
  have f03 := f1.trans f3
  refine k_skGood (G.no f03) (H.no f03) sink _ fun h4 f4 => ⟨_, rfl, (hL1.of_no f3).of_no f4, HK h4 (f03.trans f4)⟩
theorem k_DrawAreStacks {S : Nat -> Prop} {h : Heap} {code : Sl} {vs : List Value} (C : RdV S h 1 code vs) (B : ∀ v, v ∈ vs -> ∃ m : Int, v = Value.int .u8 m /\ 0 ≤ m /\ m ≤ 255) (K : Value -> Heap -> Prop) (HK : ∀ (t s : Sl) (gs ls : List (List Int)) (p : Int) h', RdR (fun k => h.size ≤ k) h' t gs -> RdR (fun k => h.size ≤ k) h' s ls -> Fr No h h' -> K (.tuple #[.agg #[t.v], VI p, .agg #[s.v]]) h') : callM Tryz.prog 49 #[code.v] h K := by
  refine v49 code h K fun b1 b2 b3 h3 hb1 hb2 hb3 f3 hL3 => ?_
  have f3 := f3.in_nil
  have z3 := f3.size
  have l3 : b3 < h3.size := hL3.head.lt
  have l2 : b2 < h3.size := hL3.tail.head.lt
  have l1 : b1 < h3.size := hL3.tail.tail.head.lt
  have D3 : CurD h.size 0 h3 code 0 := ⟨⟨vs, ((RdV.lt C).mono fun k hk => hk.2).no f3, B⟩, by omega, by omega⟩
  refine k_drstacked hL3.head hb3 D3 (by omega) _ fun t s gs ls p i4 sd4 h4 gl G4 R4 V4 D4 f4 => ⟨code, i4, sd4, t, p, s, rfl, vcur hL3 0 rfl f4 V4, fun h6 f6 hL6 => ?_⟩
  have off : ∀ k, h3.size ≤ k -> ¬ In [b2, b1] k := fun k hk hk2 => by simp only [In, List.mem_cons, List.not_mem_nil, or_false] at hk2; omega
  have u4 : Fr (fun k => h.size ≤ k) h3 h4 := f4.mono fun k _ hk => by simp [In] at hk; omega
  have u6 : Fr (fun k => h.size ≤ k) h4 h6 := f6.mono fun k _ hk => by simp only [In, List.mem_cons, List.not_mem_nil, or_false] at hk; omega
  exact HK t s gs ls p h6 ((G4.fr f6 off).mono fun k hk => by omega) ((R4.fr f6 off).mono fun k hk => by omega) (((f3.of_no.trans u4).trans u6).mono fun k hk hk2 => absurd hk2 (by omega))
theorem k_DrawCyclesOf {S : Nat -> Prop} {h : Heap} {code : Sl} {vs : List Value} (C : RdV S h 1 code vs) (B : ∀ v, v ∈ vs -> ∃ m : Int, v = Value.int .u8 m /\ 0 ≤ m /\ m ≤ 255) (K : Value -> Heap -> Prop) (HK : ∀ (t s : Sl) (gs ls : List (List Int)) (p : Int) h', RdR (fun k => h.size ≤ k) h' t gs -> RdR (fun k => h.size ≤ k) h' s ls -> Fr No h h' -> K (.tuple #[.agg #[t.v], VI p, .agg #[s.v]]) h') : callM Tryz.prog 6 #[code.v] h K := by
  refine v6 code h K fun b1 b2 h2 hb1 hb2 f2 hL2 => ?_
  have f2 := f2.in_nil
  have z2 := f2.size
  have l2 : b2 < h2.size := hL2.head.lt
  have l1 : b1 < h2.size := hL2.tail.head.lt
  refine k_DrawAreStacks (C.no f2) B _ fun t s gs ls p h3 G3 R3 f3 => ⟨t, p, s, rfl, hL2.of_no f3, fun h5 f5 hL5 => ?_⟩
  have off : ∀ k, h2.size ≤ k -> ¬ In [b2, b1] k := fun k hk hk2 => by simp only [In, List.mem_cons, List.not_mem_nil, or_false] at hk2; omega
  have u5 : Fr (fun k => h.size ≤ k) h3 h5 := f5.mono fun k _ hk => by simp only [In, List.mem_cons, List.not_mem_nil, or_false] at hk; omega
  exact HK t s gs ls p h5 ((G3.fr f5 off).mono fun k hk => by omega) ((R3.fr f5 off).mono fun k hk => by omega) (((f2.trans f3).of_no.trans u5).mono fun k hk hk2 => absurd hk2 (by omega))
theorem k_DrawPopCycle {S : Nat -> Prop} {h : Heap} {code : Sl} {vs : List Value} (C : RdV S h 1 code vs) (B : ∀ v, v ∈ vs -> ∃ m : Int, v = Value.int .u8 m /\ 0 ≤ m /\ m ≤ 255) (K : Value -> Heap -> Prop) (HK : ∀ (t s : Sl) (gs ls : List (List Int)) (p q : Int) h', RdR (fun k => h.size ≤ k) h' t gs -> RdR (fun k => h.size ≤ k) h' s ls -> Fr No h h' -> K (.tuple #[.agg #[t.v], VI p, .agg #[s.v], VI q]) h') : callM Tryz.prog 18 #[code.v] h K := by
  refine v18 code h K fun b1 b2 b3 h3 hb1 hb2 hb3 f3 hL3 => ?_
  have f3 := f3.in_nil
  have z3 := f3.size
  have l3 : b3 < h3.size := hL3.head.lt
  have l2 : b2 < h3.size := hL3.tail.head.lt
  have l1 : b1 < h3.size := hL3.tail.tail.head.lt
  have D3 : CurD h.size 0 h3 code 0 := ⟨⟨vs, ((RdV.lt C).mono fun k hk => hk.2).no f3, B⟩, by omega, by omega⟩
  refine k_drstacked hL3.head hb3 D3 (by omega) _ fun t s gs ls p i4 sd4 h4 gl G4 R4 V4 D4 f4 => ⟨code, i4, sd4, t, p, s, rfl, vcur hL3 0 rfl f4 V4, fun b4 b5 h8 hb4 hb5 f8 hL8 => ?_⟩
  have f8 := f8.in_nil
  refine k_drplace hL8.tail.tail.head hb3 (D4.no f8) (by omega) t _ fun q i9 sd9 h9 V9 D9 f9 => ⟨code, i9, sd9, q, rfl, vcur hL8 2 rfl f9 V9, fun h10 f10 hL10 h11 f11 hL11 => ?_⟩
  have o9 : ∀ k, h3.size ≤ k -> ¬ In [b3] k := fun k hk hk2 => by simp [In] at hk2; omega
  have o10 : ∀ k, h3.size ≤ k -> ¬ In [b1] k := fun k hk hk2 => by simp [In] at hk2; omega
  have o11 : ∀ k, h3.size ≤ k -> ¬ In [b2] k := fun k hk hk2 => by simp [In] at hk2; omega
  have u4 : Fr (fun k => h.size ≤ k) h3 h4 := f4.mono fun k _ hk => by simp [In] at hk; omega
  have u9 : Fr (fun k => h.size ≤ k) h8 h9 := f9.mono fun k _ hk => by simp [In] at hk; omega
  have u10 : Fr (fun k => h.size ≤ k) h9 h10 := f10.mono fun k _ hk => by simp [In] at hk; omega
  have u11 : Fr (fun k => h.size ≤ k) h10 h11 := f11.mono fun k _ hk => by simp [In] at hk; omega
  exact HK t s gs ls p q h11 (((((G4.no f8).fr f9 o9).fr f10 o10).fr f11 o11).mono fun k hk => by omega) (((((R4.no f8).fr f9 o9).fr f10 o10).fr f11 o11).mono fun k hk => by omega) ((((((f3.of_no.trans u4).trans f8.of_no).trans u9).trans u10).trans u11).mono fun k hk hk2 => absurd hk2 (by omega))
theorem k_DrawStacksText {S : Nat -> Prop} {h : Heap} {code : Sl} {vs : List Value} (C : RdV S h 1 code vs) (B : ∀ v, v ∈ vs -> ∃ m : Int, v = Value.int .u8 m /\ 0 ≤ m /\ m ≤ 255) (K : Value -> Heap -> Prop) (HK : ∀ (s : Sl) (ls : List (List Int)) h', RdR (fun k => h.size ≤ k) h' s ls -> Fr No h h' -> K (.agg #[s.v]) h') : callM Tryz.prog 26 #[code.v] h K := by
  refine v26 code h K fun b1 b2 h3 hb1 hb2 f3 hL3 => ?_
  have f3 := f3.in_nil
  have z3 := f3.size
  have l2 : b2 < h3.size := hL3.head.lt
  have l1 : b1 < h3.size := hL3.tail.head.lt
  have D3 : CurD h.size 0 h3 code 0 := ⟨⟨vs, ((RdV.lt C).mono fun k hk => hk.2).no f3, B⟩, by omega, by omega⟩
  refine k_drstacked hL3.head hb2 D3 (by omega) _ fun t s gs ls p i4 sd4 h4 gl G4 R4 V4 D4 f4 => ⟨code, i4, sd4, t, p, s, rfl, vcur hL3 0 rfl f4 V4, fun b4 b5 h6 _ _ f6 hL6 => ?_⟩
  have off : ∀ k, h3.size ≤ k -> ¬ In [b1] k := fun k hk hk2 => by simp only [In, List.mem_cons, List.not_mem_nil, or_false] at hk2; omega
  have u4 : Fr (fun k => h.size ≤ k) h3 h4 := f4.mono fun k _ hk => by simp [In] at hk; omega
  have u6 : Fr (fun k => h.size ≤ k) h4 h6 := f6.mono fun k _ hk => by simp only [In, List.mem_cons, List.not_mem_nil, or_false] at hk; omega
  exact HK s ls h6 ((R4.fr f6 off).mono fun k hk => by omega) (((f3.of_no.trans u4).trans u6).mono fun k hk hk2 => absurd hk2 (by omega))
theorem k_DrawRotorStacks {S : Nat -> Prop} {h : Heap} {code : Sl} {vs : List Value} (C : RdV S h 1 code vs) (B : ∀ v, v ∈ vs -> ∃ m : Int, v = Value.int .u8 m /\ 0 ≤ m /\ m ≤ 255) (K : Value -> Heap -> Prop) (HK : ∀ (t w : Sl) (gs : List (List Int)) (rs : List Int) (q n : Int) h', RdR (fun k => h.size ≤ k) h' t gs -> RdI (fun k => h.size ≤ k) h' w rs -> Fr No h h' -> K (.tuple #[.agg #[t.v], VI q, w.v, VI n]) h') : callM Tryz.prog 23 #[code.v] h K := by
  refine v23 code h K fun b1 b2 h2 hb1 hb2 f2 hL2 => ?_
  have f2 := f2.in_nil
  have z2 := f2.size
  have l2 : b2 < h2.size := hL2.head.lt
  have l1 : b1 < h2.size := hL2.tail.head.lt
  have D2 : CurD h.size 0 h2 code 0 := ⟨⟨vs, ((RdV.lt C).mono fun k hk => hk.2).no f2, B⟩, by omega, by omega⟩
  have u2 : ∀ {x y : Heap}, Fr (In [b2]) x y -> Fr (fun k => h.size ≤ k) x y := fun f => f.mono fun k _ hk => by simp [In] at hk; omega
  have u1 : ∀ {x y : Heap}, Fr (In [b1]) x y -> Fr (fun k => h.size ≤ k) x y := fun f => f.mono fun k _ hk => by simp [In] at hk; omega
  have o2 : ∀ k, h2.size ≤ k -> ¬ In [b2] k := fun k hk hk2 => by simp [In] at hk2; omega
  have o1 : ∀ k, h2.size ≤ k -> ¬ In [b1] k := fun k hk hk2 => by simp [In] at hk2; omega
  have fin : ∀ {y : Heap}, Fr (fun k => h.size ≤ k) h2 y -> Fr No h y := fun f => (f2.of_no.trans f).mono fun k hk hk2 => absurd hk2 (by omega)
  refine k_drwalk hL2.head hb2 D2 (by omega) _ fun t w gs rs p i3 sd3 h3 gl G3 R3 V3 D3 f3 => ⟨code, i3, sd3, t, w, p, rfl, vcur hL2 0 rfl f3 V3, fun b3 b4 h7 hb3 hb4 f7 hL7 => ?_⟩
  have f7 := f7.in_nil
  have z3 := f3.size
  have z7 := f7.size
  refine k_one hL7.tail.tail.head hb2 (D3.no f7) (by omega) 10 _ fun x i8 sd8 h8 V8 D8 f8 => ?_
  have hL8 := vcur hL7 2 rfl f8 V8
  have z8 := f8.size
  have G8 := (G3.no f7).fr f8 o2
  have R8 := (R3.no f7).fr f8 o2
  have f28 := ((u2 f3).trans f7.of_no).trans (u2 f8)
  refine ⟨code, i8, sd8, x, rfl, hL8, fun _ => ⟨?_, ?_⟩, fun _ => ?_⟩
  · refine k_drplace hL8.tail.tail.head hb2 D8 (by omega) t _ fun q i9 sd9 h9 V9 D9 f9 => ?_
    have hL9 := vcur hL8 2 rfl f9 V9
    have z9 := f9.size
    refine ⟨code, i9, sd9, q, rfl, hL9, ?_⟩
    refine eop_lit rIs (fun k => h9.size ≤ k) (fun _ h => h) 3 (by omega) [VI (-1), VI 12, VI 13] rfl rfl fun v h10 n10 c10 o10 f10 m10 _ => ⟨v, rfl, hL9.of_no f10, ?_⟩
    have r10 : RdI (fun k => h9.size ≤ k) h10 v [-1, 12, 13] := o10.rdF
    refine k_among (hL9.of_no f10).tail.tail.head hb2 (D9.no f10) (by omega) r10 (by omega) (by simp) _ fun n i11 sd11 h11 _ V11 D11 f11 => ⟨code, i11, sd11, n, rfl, vcur (hL9.of_no f10) 2 rfl f11 V11, fun h12 f12 hL12 => ?_⟩
    exact HK t w gs rs q n h12 (((((G8.fr f9 o2).no f10).fr f11 o2).fr f12 o1).mono fun k hk => by omega) (((((R8.fr f9 o2).no f10).fr f11 o2).fr f12 o1).mono fun k hk => by omega) (fin ((((f28.trans (u2 f9)).trans f10.of_no).trans (u2 f11)).trans (u1 f12)))
  · refine eop_lit rIs (fun k => h8.size ≤ k) (fun _ h => h) 3 (by omega) [VI (-1), VI 12, VI 13] rfl rfl fun v h10 n10 c10 o10 f10 m10 _ => ⟨v, rfl, hL8.of_no f10, ?_⟩
    have r10 : RdI (fun k => h8.size ≤ k) h10 v [-1, 12, 13] := o10.rdF
    refine k_drplace (hL8.of_no f10).tail.tail.head hb2 (D8.no f10) (by omega) t _ fun q i9 sd9 h9 V9 D9 f9 => ?_
    have hL9 := vcur (hL8.of_no f10) 2 rfl f9 V9
    refine ⟨code, i9, sd9, q, rfl, hL9, ?_⟩
    refine k_among hL9.tail.tail.head hb2 D9 (by omega) (r10.fr f9 fun k hk => o2 k (by omega)) (by omega) (by simp) _ fun n i11 sd11 h11 _ V11 D11 f11 => ⟨code, i11, sd11, n, rfl, vcur hL9 2 rfl f11 V11, fun h12 f12 hL12 => ?_⟩
    exact HK t w gs rs q n h12 (((((G8.no f10).fr f9 o2).fr f11 o2).fr f12 o1).mono fun k hk => by omega) (((((R8.no f10).fr f9 o2).fr f11 o2).fr f12 o1).mono fun k hk => by omega) (fin ((((f28.trans f10.of_no).trans (u2 f9)).trans (u2 f11)).trans (u1 f12)))
  · refine k_drplace hL8.tail.tail.head hb2 D8 (by omega) t _ fun q i9 sd9 h9 V9 D9 f9 => ?_
    have hL9 := vcur hL8 2 rfl f9 V9
    refine ⟨code, i9, sd9, q, rfl, hL9, ?_⟩
    refine k_pick hL9.tail.tail.head hb2 D9 (by omega) 8 _ fun n i11 sd11 h11 _ _ V11 D11 f11 => ⟨code, i11, sd11, n, rfl, vcur hL9 2 rfl f11 V11, fun h12 f12 hL12 => ?_⟩
    exact HK t w gs rs q n h12 ((((G8.fr f9 o2).fr f11 o2).fr f12 o1).mono fun k hk => by omega) ((((R8.fr f9 o2).fr f11 o2).fr f12 o1).mono fun k hk => by omega) (fin (((f28.trans (u2 f9)).trans (u2 f11)).trans (u1 f12)))
theorem walk_to {g : List (List Int)} {rs : List Int} {p : Int} (W : WOK g (rs, p)) : walkB g rs p = true := by
  unfold walkB
  have h1 := W.lo
  have h2 := W.hi
  have h3 := W.len
  simp only at h1 h2 h3
  rw [W.graph, inR_iff.2 ⟨h1, by omega⟩, decide_eq_true h3, Bool.true_and, Bool.true_and, Bool.true_and, List.all_eq_true]
  intro x hx
  obtain ⟨i, hi, rfl⟩ := List.mem_iff_getElem.1 hx
  rw [List.length_zip] at hi
  have := W.rot i (by simp only; omega) (by omega)
  rw [List.getElem_zip]
  unfold rotB
  rw [inR_iff]
  exact this
theorem stack_to {g S : List (List Int)} {sink : Int} (W : SOK g S) (h0 : 0 ≤ sink) (h1 : sink < (g.length : Int)) (hz : (S.getD sink.toNat []).length = 0) : stackB g sink S = true := by
  have hl := W.len
  have hg := W.graph
  unfold stackB
  simp only [Bool.and_eq_true, decide_eq_true_eq, inR_iff]
  refine ⟨⟨hg, h0, by omega⟩, hl, hz, List.all_eq_true.2 fun q hq => ?_⟩
  obtain ⟨i, hi, rfl⟩ := List.getElem_of_mem hq
  have hi2 : i < g.length /\ i < S.length := by simp only [List.length_zip] at hi; omega
  rw [List.getElem_zip]
  have s1 := W.short i hi2.2
  have s2 := W.ent i hi2.2 hi2.1
  simp only [Bool.and_eq_true, Bool.not_eq_true', decide_eq_false_iff_not]
  refine ⟨by omega, List.all_eq_true.2 fun x hx => ?_⟩
  rw [inR_iff]
  have := s2 x hx
  omega
theorem tops_wok {g E : List (List Int)} {sink : Int} (W : SOK g E) (ht : (topsP sink E).2 = true) : WOK g ((topsP sink E).1, 0) := by
  obtain ⟨hl, hg⟩ := tops_get ht
  have el := W.len
  have gl := graph_len W.graph
  refine ⟨W.graph, by simp only; omega, Int.le_refl 0, by simp only; omega, fun i a b => ?_⟩
  simp only at a ⊢
  obtain ⟨e1, e2⟩ := hg i (by omega)
  rw [getD_getI a] at e1
  rw [e1]
  by_cases hs : (i : Int) = sink
  · rw [if_pos hs]; omega
  · rw [if_neg hs]
    have e3 := e2 hs
    rw [getD_get (by omega)] at e3 ⊢
    rw [getD_getI (by omega)]
    have := W.ent i (by omega) b _ (List.getElem_mem (show 0 < (E[i]'(by omega)).length by omega))
    omega
theorem nx_tops {g E : List (List Int)} {sink : Int} (W : SOK g E) (ht : (topsP sink E).2 = true) {p : Int} (h0 : 0 ≤ p) (h1 : p < (g.length : Int)) (hs : p ≠ sink) : nx g (topsP sink E).1 p = sx g E p := by
  obtain ⟨hl, hg⟩ := tops_get ht
  have el := W.len
  obtain ⟨e1, e2⟩ := hg p.toNat (by omega)
  rw [show ((p.toNat : Nat) : Int) = p by omega] at e1 e2
  rw [if_neg hs] at e1
  have e3 := e2 hs
  have hE : (E.getD p.toNat []).length = (E[p.toNat]'(by omega)).length := by rw [getD_get (by omega)]
  have hne : (g.getD p.toNat []).length ≠ 0 := by
    have := W.ent p.toNat (by omega) (by omega) _ (List.getElem_mem (show 0 < (E[p.toNat]'(by omega)).length by omega))
    rw [getD_get (by omega)]
    omega
  unfold nx sx
  rw [if_neg (by omega), if_neg hne, if_neg (by omega), if_neg e3, e1]
theorem tops_tw {g E : List (List Int)} {sink : Int} (W : SOK g E) (ht : (topsP sink E).2 = true) : ∀ (k m r : Nat) (p : Int), itf (sx g E) p k = sink -> (∀ j, j ≤ k -> 0 ≤ itf (sx g E) p j /\ itf (sx g E) p j < (g.length : Int)) -> m + k ≤ g.length + 1 -> k < r -> (twN (nx g (topsP sink E).1) sink g.length r m p).isSome = true
  | k, m, 0, p, _, _, _, hr => by omega
  | k, m, r + 1, p, hk, hp, hm, hr => by
    rw [twN]
    by_cases e : p = sink
    · rw [if_pos e]; rfl
    · rw [if_neg e]
      match k, hk, hp, hm, hr with
      | 0, hk, _, _, _ => exact absurd hk e
      | k + 1, hk, hp, hm, hr =>
        have p0 : 0 ≤ p /\ p < (g.length : Int) := hp 0 (by omega)
        have p1 : 0 ≤ sx g E p /\ sx g E p < (g.length : Int) := hp 1 (by omega)
        have sh : ∀ j, itf (sx g E) (sx g E p) j = itf (sx g E) p (j + 1) := fun j => by
          rw [Nat.add_comm, itf_add]; rfl
        rw [nx_tops W ht p0.1 p0.2 e, if_neg (by omega)]
        exact tops_tw W ht k (m + 1) r _ (by rw [sh]; exact hk) (fun j hj => by rw [sh]; exact hp (j + 1) (by omega)) (by omega) (by omega)
theorem tops_tree {g E : List (List Int)} {sink : Int} (W : SOK g E) (hn : (cycsP g E).length = 0) (ht : (topsP sink E).2 = true) : treeB g (topsP sink E).1 sink = true := by
  refine tree_of fun p hp => ?_
  obtain ⟨k, k1, k2, k3⟩ := to_sink W (normal_of W hn) ht (p := (p : Int)) (by omega) (by omega)
  exact tops_tw W ht k 0 _ _ k2 (fun j hj => ⟨k3 j hj, (its_lt W (p := (p : Int)) (by omega) (by omega) j).2⟩) (by omega) (by omega)
theorem tops_sinkr {g E : List (List Int)} {sink : Int} (W : SOK g E) (h0 : 0 ≤ sink) (h1 : sink < (g.length : Int)) (ht : (topsP sink E).2 = true) : sinkrB g sink (topsP sink E).1 = true := by
  have w := walk_to (tops_wok W ht)
  obtain ⟨hl, hg⟩ := tops_get ht
  have el := W.len
  obtain ⟨e1, _⟩ := hg sink.toNat (by omega)
  rw [if_pos (by omega)] at e1
  unfold sinkrB
  rw [w, e1, W.graph, inR_iff.2 ⟨h0, by omega⟩]
  rfl
theorem cycL_in (g S : List (List Int)) : ∀ n c, c ∈ cycL g S n -> ∃ p : Nat, p < n /\ c = cyP (sx g S) g.length p /\ c ≠ [] /\ c.getD 0 0 = (p : Int)
  | 0, c, h => by simp [cycL] at h
  | n + 1, c, h => by
    rw [cycL, List.mem_append] at h
    rcases h with h | h
    · obtain ⟨p, h1, h2⟩ := cycL_in g S n c h
      exact ⟨p, by omega, h2⟩
    · split at h
      · rename_i hh
        simp only [List.mem_cons, List.not_mem_nil, or_false] at h
        subst h
        exact ⟨n, by omega, rfl, hh.1, hh.2⟩
      · simp at h
theorem cycL_heads (g S : List (List Int)) : ∀ n, (cycL g S n).Pairwise fun a b => a.getD 0 0 < b.getD 0 0
  | 0 => by rw [cycL]; exact List.Pairwise.nil
  | n + 1 => by
    rw [cycL, List.pairwise_append]
    refine ⟨cycL_heads g S n, ?_, fun a ha b hb => ?_⟩
    · split
      · exact List.pairwise_singleton _ _
      · exact List.Pairwise.nil
    · split at hb
      · rename_i hh
        simp only [List.mem_cons, List.not_mem_nil, or_false] at hb
        subst hb
        obtain ⟨p, h1, _, _, h4⟩ := cycL_in g S n a ha
        rw [h4, hh.2]
        omega
      · simp at hb
theorem cyc_orb {g S : List (List Int)} {c : List Int} (h : c ∈ cycsP g S) : ∃ (p k : Nat), p < g.length /\ 1 ≤ k /\ itf (sx g S) p k = (p : Int) /\ c = orb (sx g S) p k /\ c.length = k /\ c.getD 0 0 = (p : Int) /\ c = cyP (sx g S) g.length p /\ ∀ j, j < k -> (p : Int) ≤ itf (sx g S) p j := by
  obtain ⟨p, hp, hc, hne, hd⟩ := cycL_in g S _ _ h
  rcases cyP_cases (sx g S) g.length p with h1 | ⟨k, k1, k2, k3, k4, k5⟩
  · exact absurd (hc.trans h1) hne
  rw [k5] at hc
  have ol : (orb (sx g S) p k).length = k := orb_length _ _ _
  obtain ⟨a, b, d⟩ := lstI_spec (orb (sx g S) p k) (orb (sx g S) p k).length
  have hl : lstI (orb (sx g S) p k) (orb (sx g S) p k).length < k := by omega
  have hz : lstI (orb (sx g S) p k) (orb (sx g S) p k).length = 0 := by
    have e1 : c.getD 0 0 = (orb (sx g S) p k).getD (lstI (orb (sx g S) p k) (orb (sx g S) p k).length) 0 := by
      rw [hc]
      unfold turnL
      rw [List.getD_eq_getElem?_getD, List.getD_eq_getElem?_getD, List.getElem?_append_left (by rw [List.length_drop]; omega), List.getElem?_drop, Nat.add_zero]
    have hl2 : lstI (orb (sx g S) p k) (orb (sx g S) p k).length < (orb (sx g S) p k).length := by omega
    rw [hd, getD_getI hl2, orb_get] at e1
    exact Nat.eq_zero_of_not_pos fun hh => k4 (lstI (orb (sx g S) p k) (orb (sx g S) p k).length) hh hl e1.symm
  rw [turnL_zero hz] at hc
  refine ⟨p, k, hp, k1, k3, hc, by rw [hc, ol], hd, by rw [k5, turnL_zero hz]; exact hc, fun j hj => ?_⟩
  have := a j (by omega)
  rw [hz, getD_getI (by omega), getD_getI (by omega), orb_get, orb_get] at this
  exact this
theorem Cyc.listed2 {g S : List (List Int)} (W : SOK g S) {c : List Int} (h : Cyc g S c) : ∃ d, d ∈ cycsP g S /\ ∀ x, x ∈ d ↔ x ∈ c := by
  have hh := h
  obtain ⟨p, k, hk, h0, h1, e, hm⟩ := h
  have hne : orb (sx g S) p k ≠ [] := fun h => by have := congrArg List.length h; rw [orb_length] at this; simp at this; omega
  obtain ⟨l, hl, hle⟩ := least_mem _ hne
  have hmo : ∀ x, x ∈ orb (sx g S) p k ↔ x ∈ c := fun x => by rw [hm x, orb, List.mem_map]; simp [List.mem_range]
  have hlc : l ∈ c := (hmo l).1 hl
  have l0 := hh.pos hlc
  have l1 : l < (g.length : Int) := by
    obtain ⟨j, _, hj⟩ := (hm l).1 hlc
    rw [← hj]
    exact (its_lt W h1 (by omega) j).2
  obtain ⟨i, hi, hil⟩ := (hm l).1 hlc
  obtain ⟨k', q1, q2, q3, q4⟩ := first_ret (f := sx g S) (p := l) k hk (by
    rw [← hil, ← itf_add, show i + k = k + i by omega, itf_add, e])
  have hlow : ∀ j, l ≤ itf (sx g S) l j := fun j => hle _ ((hmo _).2 (hh.cl hlc j))
  have hkn : k' ≤ g.length := by
    refine Nat.not_lt.1 fun hlt => ?_
    obtain ⟨a, b, hab, hb, hEq⟩ := php g.length (fun j => (itf (sx g S) l j).toNat) fun j hj => by
      have a1 := hlow j
      have a2 := (its_lt W l1 (by omega) j).2
      (try simp only)
      omega
    have hEq : itf (sx g S) l a = itf (sx g S) l b := by
      have a1 := hlow a
      have a2 := hlow b
      (try simp only at hEq)
      omega
    have := itf_shift hEq (k' - b)
    rw [show b + (k' - b) = k' by omega, q3] at this
    exact q4 (a + (k' - b)) (by omega) (by omega) this
  have hc : cyP (sx g S) g.length l = orb (sx g S) l k' := by
    rcases cyP_cases (sx g S) g.length l with h1 | ⟨m, m1, m2, m3, m4, m5⟩
    · exfalso
      unfold cyP at h1
      cases hr : ret (sx g S) l (g.length + 1) 1 with
      | none => exact ret_none _ _ hr k' q1 (by omega) q3
      | some m =>
        obtain ⟨a, _, _, _⟩ := ret_some _ _ _ hr
        rw [hr] at h1
        have := congrArg List.length h1
        rw [turnL_length, orb_length] at this
        simp at this
        omega
    · have : m = k' := by
        rcases Nat.lt_trichotomy m k' with a | a | a
        · exact absurd m3 (q4 m m1 a)
        · exact a
        · exact absurd q3 (m4 k' q1 a)
      subst this
      rw [m5]
      refine turnL_zero (lstI_zero (fun j hj => ?_) (by rw [orb_length]; omega))
      rw [getD_getI hj, orb_get, getD_getI (by rw [orb_length]; omega), orb_get]
      exact hlow j
  have el : ((l.toNat : Nat) : Int) = l := by omega
  refine ⟨cyP (sx g S) g.length ((l.toNat : Nat) : Int), cycL_has (by omega) ?_ ?_, fun x => ?_⟩
  · rw [el, hc]
    intro h
    have := congrArg List.length h
    rw [orb_length] at this
    simp at this
    omega
  · rw [el, hc, getD_getI (by rw [orb_length]; omega), orb_get]
    rfl
  · rw [el, hc]
    constructor
    · intro hx
      rw [orb, List.mem_map] at hx
      obtain ⟨j, _, rfl⟩ := hx
      exact hh.cl hlc j
    · intro hx
      obtain ⟨j, hj, rfl⟩ := (hm x).1 hx
      -- from l by some steps to p, and on
      have hp : ∃ a, itf (sx g S) l a = p := ⟨k - i, by rw [← hil, ← itf_add, show i + (k - i) = k by omega, e]⟩
      obtain ⟨a, ha⟩ := hp
      have : ∀ m, itf (sx g S) l m ∈ orb (sx g S) l k' := by
        intro m
        induction m using Nat.strongRecOn with
        | ind m ih =>
          by_cases hm : m < k'
          · rw [orb, List.mem_map]; exact ⟨m, List.mem_range.2 hm, rfl⟩
          · have := ih (m - k') (by omega)
            have e2 : itf (sx g S) l m = itf (sx g S) l (m - k') := by
              have := itf_add (sx g S) l k' (m - k')
              rw [q3] at this
              rw [← this]
              congr 1
              omega
            rw [e2]; exact this
      have := this (a + j)
      rw [itf_add, ha] at this
      exact this
theorem cyc_same {g S : List (List Int)} {c d : List Int} (hc : c ∈ cycsP g S) (hd : d ∈ cycsP g S) {x : Int} (h1 : x ∈ c) (h2 : x ∈ d) : c = d := by
  obtain ⟨p, k, hp, k1, k2, k3, k4, k5, k6, k7⟩ := cyc_orb hc
  obtain ⟨q, m, hq, m1, m2, m3, m4, m5, m6, m7⟩ := cyc_orb hd
  have go : ∀ {p k q m : Nat} {c d : List Int}, 1 ≤ k -> itf (sx g S) p k = (p : Int) -> c = orb (sx g S) p k -> (∀ j, j < k -> (p : Int) ≤ itf (sx g S) p j) -> itf (sx g S) q m = (q : Int) -> d = orb (sx g S) q m -> x ∈ c -> x ∈ d -> (p : Int) ≤ q := by
    intro p k q m c d k1 k2 k3 k7 m2 m3 h1 h2
    rw [k3, orb, List.mem_map] at h1
    rw [m3, orb, List.mem_map] at h2
    obtain ⟨a, ha, ea⟩ := h1
    obtain ⟨b, hb, eb⟩ := h2
    rw [List.mem_range] at ha hb
    have e : itf (sx g S) p (a + (m - b)) = (q : Int) := by
      rw [itf_add, ea, ← eb, ← itf_add, show b + (m - b) = m by omega, m2]
    have low : ∀ n, (p : Int) ≤ itf (sx g S) p n := by
      intro n
      induction n using Nat.strongRecOn with
      | ind n ih =>
        by_cases hn : n < k
        · exact k7 n hn
        · have e2 : itf (sx g S) p n = itf (sx g S) p (n - k) := by
            have := itf_add (sx g S) p k (n - k)
            rw [k2] at this
            rw [← this]
            congr 1
            omega
          rw [e2]
          exact ih (n - k) (by omega)
    rw [← e]; exact low _
  have := go k1 k2 k3 k7 m2 m3 h1 h2
  have := go m1 m2 m3 m7 k2 k3 h2 h1
  have e : p = q := by omega
  rw [k6, m6, e]
theorem k_wHas {S : Nat -> Prop} {h : Heap} {s : Sl} {xs : List Int} (H : RdI S h s xs) (v : Int) (K : Value -> Heap -> Prop) (HK : K (VB (decide (v ∈ xs))) h) : callM Tryz.prog 22 #[s.v, VI v] h K := by
  refine v22 s v h K ⟨fun n i h' => h' = h /\ 0 ≤ i /\ i + n = (xs.length : Int) /\ ∀ j : Nat, (j : Int) < i -> xs.getD j 0 ≠ v, ⟨xs.length, rfl, by omega, by omega, fun j hj => by omega⟩, ?_⟩
  rintro n i h1 ⟨rfl, i0, i1, i2⟩ hL
  refine ⟨fun e => ?_, fun e => ?_⟩
  · have hi := H.lt e
    refine ⟨H.inb i0 hi, _, H.get i0 hi, fun e2 => ?_, fun e2 => ?_⟩
    · simp only [decide_eq_true_eq] at e2
      rw [decide_eq_true (by rw [← e2]; exact List.getElem_mem _)] at HK
      exact HK
    · simp only [decide_eq_false_iff_not] at e2
      rw [H.succ i0 hi]
      refine ⟨n - 1, by omega, rfl, by omega, by omega, fun j hj => ?_⟩
      by_cases h5 : (j : Int) < i
      · exact i2 j h5
      · have : j = i.toNat := by omega
        subst this
        rw [getD_getI (by omega)]
        exact e2
  · have hi := H.ge e
    rw [decide_eq_false fun hm => by
      obtain ⟨j, hj, e⟩ := List.getElem_of_mem hm
      exact i2 j (by omega) (by rw [getD_getI hj]; exact e)] at HK
    exact HK
theorem walkB_pl {g : List (List Int)} {p : Int} {rs : List Int} (h : (graphB g && inR 0 ((g.length : Int) - 1) p) = true) : walkB g rs p = walkB g rs 0 := by
  rw [Bool.and_eq_true] at h
  have gl := graph_len h.1
  have h0 : inR 0 ((g.length : Int) - 1) 0 = true := inR_iff.2 ⟨Int.le_refl _, by omega⟩
  unfold walkB
  rw [h.2, h0]
def rotK (g : List (List Int)) (sink : Int) (rs : List Int) (k : Int) (i : Nat) : List Int := if (i : Int) ≠ sink /\ 0 < (g.getD i []).length then (List.range (k - 1).toNat).map fun j : Nat => (rs.getD i 0 + ((j : Int) + 1)).tmod (g.getD i []).length else []
def rotP (g : List (List Int)) (sink : Int) (rs : List Int) (n : Int) : List (List Int) := (List.range g.length).map (rotK g sink rs (n + 1))
def rotsP (g : List (List Int)) (sink : Int) (rs : List Int) (n : Int) : List (List Int) × Bool := if graphB g && inR 0 ((g.length : Int) - 1) sink then (if walkB g rs 0 then (if inR 0 12 n then (rotP g sink rs n, true) else ([], false)) else ([], false)) else ([], false)
theorem rotK_step {g : List (List Int)} {sink : Int} {rs : List Int} {k : Int} {i : Nat} (h1 : (i : Int) ≠ sink) (h2 : 0 < (g.getD i []).length) (hk : 1 ≤ k) : rotK g sink rs (k + 1) i = rotK g sink rs k i ++ [(rs.getD i 0 + k).tmod (g.getD i []).length] := by
  unfold rotK
  rw [if_pos ⟨h1, h2⟩, if_pos ⟨h1, h2⟩, show (k + 1 - 1).toNat = (k - 1).toNat + 1 by omega, List.range_succ, List.map_append, List.map_cons, List.map_nil, show (((k - 1).toNat : Nat) : Int) + 1 = k by omega]
theorem rotK_len (g : List (List Int)) (sink : Int) (rs : List Int) (k : Int) (i : Nat) : (rotK g sink rs k i).length ≤ (k - 1).toNat := by
  unfold rotK
  split
  · simp
  · simp
theorem rotK_one (g : List (List Int)) (sink : Int) (rs : List Int) (i : Nat) : rotK g sink rs 1 i = [] := by
  unfold rotK
  split <;> simp
theorem rotK_no {g : List (List Int)} {sink : Int} {rs : List Int} {i : Nat} (h : ¬ ((i : Int) ≠ sink /\ 0 < (g.getD i []).length)) (k : Int) : rotK g sink rs k i = [] := by unfold rotK; rw [if_neg h]
theorem rotP_stack {g : List (List Int)} {sink : Int} {rs : List Int} {n : Int} (h : (rotsP g sink rs n).2 = true) : stackB g sink (rotsP g sink rs n).1 = true := by
  unfold rotsP at h ⊢
  split at h
  · rename_i h1
    split at h
    · rename_i h2
      split at h
      · rename_i h3
        rw [if_pos h1, if_pos h2, if_pos h3]
        rw [Bool.and_eq_true] at h1
        have s1 := inR_iff.1 h1.2
        have n1 := inR_iff.1 h3
        have W := wok_of h2
        have wl : rs.length = g.length := W.len
        have gl := graph_len h1.1
        refine stack_to ⟨h1.1, by simp [rotP], ?_, ?_⟩ s1.1 (by omega) ?_
        · intro i hi
          (try simp only [rotP, List.getElem_map, List.getElem_range])
          have := rotK_len g sink rs (n + 1) i
          omega
        · intro i hi hi' x hx
          (try simp only [rotP, List.getElem_map, List.getElem_range] at hx)
          unfold rotK at hx
          split at hx
          · rename_i hc
            obtain ⟨j, _, rfl⟩ := List.mem_map.1 hx
            have hrot : 0 ≤ rs[i]'(by omega) := (W.rot i (by (try simp only); omega) hi').1
            rw [getD_get hi'] at hc ⊢
            rw [getD_getI (by omega)]
            have a1 : (0 : Int) ≤ rs[i]'(by omega) + ((j : Int) + 1) := by omega
            exact ⟨Int.tmod_nonneg _ a1, Int.tmod_lt_of_pos _ (by omega)⟩
          · simp at hx
        · (try simp only [rotP])
          rw [getD_get (by simp; omega), List.getElem_map, List.getElem_range, rotK_no (by rintro ⟨a, _⟩; exact a (by omega))]
          rfl
      · cases h
    · cases h
  · cases h
theorem k_RotorStacks {S S' : Nat -> Prop} {h : Heap} {g r : Sl} {xss : List (List Int)} {rs : List Int} (G : RdR S h g xss) (H : RdI S' h r rs) (sink n : Int) (K : Value -> Heap -> Prop) (HK : ∀ t h', OwX h' (Iv h.size h'.size) t (rotsP xss sink rs n).1 -> Fr No h h' -> K (.tuple #[.agg #[t.v], VB (rotsP xss sink rs n).2]) h') : callM Tryz.prog 24 #[.agg #[g.v], VI sink, r.v, VI n] h K := by
  refine v24 g sink r n h K fun b1 b2 h2 hb1 hb2 f2 hL2 => ?_
  have f2 := f2.in_nil
  have z2 := f2.size
  have l2 : b2 < h2.size := hL2.head.lt
  have l1 : b1 < h2.size := hL2.tail.head.lt
  have no_ : ∀ {x : Heap}, Fr (fun k => h.size ≤ k) h x -> Fr No h x := fun f => f.mono fun k hk hk2 => absurd hk2 (by omega)
  have u2 : ∀ {x y : Heap}, Fr (In [b2]) x y -> Fr (fun k => h.size ≤ k) x y := fun f => f.mono fun k _ hk => by simp [In] at hk; omega
  refine eop_lit rIs (fun k => h2.size ≤ k) (fun _ h => h) 1 (by omega) [VI sink] rfl rfl fun o h3 n3 c3 o3 f3 m3 _ => ⟨o, rfl, hL2.of_no f3, ?_⟩
  have r3 : RdI (fun k => h2.size ≤ k) h3 o [sink] := o3.rdF
  have f03 := f2.trans f3
  refine k_has (G.no f03) r3 _ fun h4 f4 => ⟨_, rfl, (hL2.of_no f3).of_no f4, fun e1 => ?_, fun e1 => ?_⟩
  all_goals simp only [List.all_cons, List.all_nil, Bool.and_true] at e1
  · intro h26 f26 _
    have er : rotsP xss sink rs n = ([], false) := by unfold rotsP; rw [not_t e1]; rfl
    rw [er] at HK
    exact HK nilSl h26 (OwR.nil _ _ _ _) (no_ ((f03.trans f4).of_no.trans (u2 f26)))
  have e1 := not_f e1
  have f04 := f03.trans f4
  refine k_areRotors (G.no f04) (H.no f04) _ fun h5 f5 => ⟨_, rfl, ((hL2.of_no f3).of_no f4).of_no f5, fun e2 => ?_, fun e2 => ?_⟩
  · intro h26 f26 _
    have er : rotsP xss sink rs n = ([], false) := by unfold rotsP; rw [if_pos e1, not_t e2]; rfl
    rw [er] at HK
    exact HK nilSl h26 (OwR.nil _ _ _ _) (no_ ((f04.trans f5).of_no.trans (u2 f26)))
  have e2 := not_f e2
  have f05 := f04.trans f5
  refine k_impl_in n 0 12 h5 _ ⟨_, rfl, ((hL2.of_no f3).of_no f4).of_no f5, fun e3 => ?_, fun e3 => ?_⟩
  · intro h26 f26 _
    have er : rotsP xss sink rs n = ([], false) := by unfold rotsP; rw [if_pos e1, if_pos e2, show inR 0 12 n = false from not_t e3]; rfl
    rw [er] at HK
    exact HK nilSl h26 (OwR.nil _ _ _ _) (no_ ((f05).of_no.trans (u2 f26)))
  have e3 : inR 0 12 n = true := not_f e3
  have z25 : h2.size ≤ h5.size := by have := f3.size; have := f4.size; have := f5.size; omega
  intro b3 h9 hb3 f9 hL9
  have f9 := f9.in_nil
  have f09 := f05.trans f9
  have z9 := f09.size
  have l9 : b3 < h9.size := hL9.head.lt
  have z29 : h2.size ≤ h9.size := Nat.le_trans z25 f9.size
  have W := wok_of e2
  have wl : rs.length = xss.length := W.len
  have gl := graph_len W.graph
  have n1 := inR_iff.1 e3
  have gn := G.len
  have er : rotsP xss sink rs n = (rotP xss sink rs n, true) := by unfold rotsP; rw [if_pos e1, if_pos e2, if_pos e3]
  rw [er] at HK
  have u3 : ∀ {x y : Heap}, Fr (In [b3]) x y -> Fr (fun k => h.size ≤ k) x y := fun f => f.mono fun k _ hk => by simp [In] at hk; have := f9.size; have := f05.size; omega
  refine ⟨fun m i x h' => 0 ≤ i /\ i + m = (xss.length : Int) /\ OwX h' (fun k => h9.size ≤ k) x ((List.range i.toNat).map (rotK xss sink rs (n + 1))) /\ Fr (fun k => h.size ≤ k) h h' /\ h9.size ≤ h'.size, ⟨xss.length, Int.le_refl _, by omega, OwR.nil _ _ _ _, f09.of_no, Nat.le_refl _⟩, ?_⟩
  rintro m i x h10 ⟨i0, i1, o10, f10, z10⟩ hL10
  refine ⟨fun e => ?_, fun e => ?_⟩
  · simp only [decide_eq_true_eq] at e
    have g10 := no_ f10
    have G10 := G.no g10
    have H10 := H.no g10
    obtain ⟨si, c1, r1⟩ := G10.get i0 (by omega)
    refine ⟨G10.inb i0 (by omega), si, c1, ?_⟩
    have sn := r1.len
    have gi : xss.getD i.toNat [] = xss[i.toNat]'(by omega) := getD_get (by omega)
    have gm := graph_mem W.graph (List.getElem_mem (show i.toNat < xss.length by omega))
    have o10i := o10.toIv
    have z10h : h.size ≤ h10.size := f10.size
    refine eop_lit rIs (fun k => h10.size ≤ k) (fun _ h => h) 0 (by omega) [] rfl rfl fun t0 h11 n11 c11 o11 f11 m11 _ => ⟨t0, rfl, hL10.of_no f11, ?_⟩
    have o11' : OwI h11 (fun k => h10.size ≤ k) t0 [] := o11
    refine ⟨fun m2 t k h' => 1 ≤ k /\ k + m2 = n + 1 /\ OwI h' (fun q => h10.size ≤ q) t (rotK xss sink rs k i.toNat) /\ Fr (fun q => h10.size ≤ q) h10 h', ⟨n.toNat, by omega, by omega, by rw [rotK_one]; exact o11', f11.of_no⟩, ?_⟩
    rintro m2 t k h12 ⟨k0, k1, o12, f12⟩ hL12
    have z12 := f12.size
    have fin : ∀ (h12 : Heap) (t : Sl) (k : Int), OwI h12 (fun q => h10.size ≤ q) t (rotK xss sink rs k i.toNat) -> Fr (fun q => h10.size ≤ q) h10 h12 -> rotK xss sink rs k i.toNat = rotK xss sink rs (n + 1) i.toNat -> Vars h12 [(b3, [x.v]), (b2, [nilSl.v]), (b1, [g.v])] →
        eop Tryz.prog (Instr.buildSlice tIss 1 #[(0, t.v)]) h12 fun rv h' => ∃ y : Sl, rv = y.v /\ Vars h' [(b3, [x.v]), (b2, [nilSl.v]), (b1, [g.v])] /\ eop Tryz.prog (appS tIss tIss tIss x.v y.v) h' fun rv2 h'' => ∃ y2 : Sl, rv2 = y2.v /\ Vars h'' [(b3, [x.v]), (b2, [nilSl.v]), (b1, [g.v])] /\ ∀ h17, Fr (In [b3]) h'' h17 -> Vars h17 [(b3, [y2.v]), (b2, [nilSl.v]), (b1, [g.v])] -> ∃ m' : Nat, m' < m /\ 0 ≤ w64 (i + 1) /\ w64 (i + 1) + m' = (xss.length : Int) /\ OwX h17 (fun k => h9.size ≤ k) y2 ((List.range (w64 (i + 1)).toNat).map (rotK xss sink rs (n + 1))) /\ Fr (fun k => h.size ≤ k) h h17 /\ h9.size ≤ h17.size := by
      intro h12 t k o12 f12 er hL12
      have z12 := f12.size
      refine eop_putR (lo := h9.size) (m := h10.size) (OwR.fr o10i f12 fun k hk hk2 hk3 => by have := hk2.2; omega) o12 z10 z12 hL12 (fun p hp => by
        simp only [List.mem_cons, List.not_mem_nil, or_false] at hp
        rcases hp with rfl | rfl | rfl
        · exact l9
        · show b2 < _; omega
        · show b1 < _; omega) (by simp; omega) _ fun y2 h16 o16 f16 V16 => fun h17 f17 hL17 => ?_
      rw [w64_eq _ (by omega) (by omega)]
      refine ⟨m - 1, by omega, by omega, by omega, ?_, ?_, ?_⟩
      · rw [show (i + 1).toNat = i.toNat + 1 by omega, List.range_succ, List.map_append, List.map_cons, List.map_nil, ← er]
        exact OwR.fr o16 f17 fun k _ hk hk2 => by simp [In] at hk2; omega
      · exact ((f10.trans (f12.mono fun k _ hk => by omega)).trans (f16.mono fun k _ hk => by omega)).trans (u3 f17)
      · have := f16.size; have := f17.size; omega
    refine ⟨fun e4 => ?_, fun e4 => ?_⟩
    · simp only [decide_eq_true_eq] at e4
      refine ⟨fun e5 => ⟨fun e6 => ?_, fun e6 => ?_⟩, fun e5 => ?_⟩
      · simp only [Bool.not_eq_true', decide_eq_false_iff_not] at e5
        simp only [decide_eq_true_eq] at e6
        have H12 := H10.no (f12.mono fun q hq hq2 => absurd hq2 (by omega))
        have rw_ := W.rot i.toNat (by (try simp only); omega) (by omega)
        have ri0 : 0 ≤ rs[i.toNat]'(by omega) := rw_.1
        have ri1 : rs[i.toNat]'(by omega) ≤ max (((xss[i.toNat]'(by omega)).length : Int) - 1) 0 := rw_.2
        refine ⟨H12.inb i0 (by omega), _, H12.get i0 (by omega), by omega, ?_⟩
        refine eop_put (lo := h10.size) o12 z12 hL12 (fun p hp => by
          simp only [List.mem_cons, List.not_mem_nil, or_false] at hp
          rcases hp with rfl | rfl | rfl
          · show b3 < _; omega
          · show b2 < _; omega
          · show b1 < _; omega) (by have := rotK_len xss sink rs k i.toNat; omega) _ fun t2 h14 o14 f14 V14 => ?_
        have eg : (rs.getD i.toNat 0 + k).tmod ((xss.getD i.toNat []).length : Int) = (w64 (rs[i.toNat]'(by omega) + k)).tmod (si.n : Int) := by rw [w64_eq _ (by omega) (by omega), getD_getI (show i.toNat < rs.length by omega), gi, sn]
        rw [← eg, ← rotK_step (by omega) (by rw [gi]; omega) k0] at o14
        rw [w64_eq (k + 1) (by omega) (by omega)]
        exact ⟨m2 - 1, by omega, by omega, by omega, o14, f12.trans f14⟩
      · simp only [decide_eq_false_iff_not] at e6
        exact fin h12 t k o12 f12 (by rw [rotK_no (by rintro ⟨_, a⟩; rw [gi] at a; omega), rotK_no (by rintro ⟨_, a⟩; rw [gi] at a; omega)]) hL12
      · simp only [Bool.not_eq_false', decide_eq_true_eq] at e5
        exact fin h12 t k o12 f12 (by rw [rotK_no (by rintro ⟨a, _⟩; exact a (by omega)), rotK_no (by rintro ⟨a, _⟩; exact a (by omega))]) hL12
    · simp only [decide_eq_false_iff_not] at e4
      exact fin h12 t k o12 f12 (by rw [show k = n + 1 by omega]) hL12
  · simp only [decide_eq_false_iff_not] at e
    intro h24 f24 hL24
    have ei : i.toNat = xss.length := by omega
    rw [ei] at o10
    refine HK x h24 ?_ (no_ (f10.trans (u2 f24)))
    refine (OwR.fr o10 f24 fun k _ hk hk2 => by simp [In] at hk2; omega).mono fun k hk hk2 => ⟨by omega, hk⟩
theorem k_spec_RotorStacks {S S' : Nat -> Prop} {h : Heap} {g r : Sl} {xss : List (List Int)} {rs : List Int} (G : RdR S h g xss) (H : RdI S' h r rs) (sink n : Int) (K : Value -> Heap -> Prop) (HK : ∀ t h', OwX h' (Iv h.size h'.size) t (rotsP xss sink rs n).1 -> Fr No h h' -> K (.tuple #[.agg #[t.v], VB (rotsP xss sink rs n).2]) h') : callM Tryz.prog 25 #[.agg #[g.v], VI sink, r.v, VI n] h K := by
  refine v25 g sink r n h K fun b1 b2 h2 hb1 hb2 f2 hL2 => ?_
  have f2 := f2.in_nil
  have z2 := f2.size
  have l2 : b2 < h2.size := hL2.head.lt
  have l1 : b1 < h2.size := hL2.tail.head.lt
  have no_ : ∀ {x : Heap}, Fr (fun k => h.size ≤ k) h x -> Fr No h x := fun f => f.mono fun k hk hk2 => absurd hk2 (by omega)
  have u2 : ∀ {x y : Heap}, Fr (In [b2]) x y -> Fr (fun k => h.size ≤ k) x y := fun f => f.mono fun k _ hk => by simp [In] at hk; omega
  refine k_spec_grPlace (G.no f2) sink _ fun h4 f4 => ⟨_, rfl, hL2.of_no f4, fun e1 => ?_, fun e1 => ?_⟩
  · intro h26 f26 _
    have er : rotsP xss sink rs n = ([], false) := by unfold rotsP; rw [not_t e1]; rfl
    rw [er] at HK
    exact HK nilSl h26 (OwR.nil _ _ _ _) (no_ ((f2.trans f4).of_no.trans (u2 f26)))
  have e1 := not_f e1
  have f04 := f2.trans f4
  refine k_spec_waGood (G.no f04) (H.no f04) sink _ fun h5 f5 => ⟨_, rfl, (hL2.of_no f4).of_no f5, fun e2 => ?_, fun e2 => ?_⟩
  · intro h26 f26 _
    have er : rotsP xss sink rs n = ([], false) := by unfold rotsP; rw [if_pos e1, ← walkB_pl e1, not_t e2]; rfl
    rw [er] at HK
    exact HK nilSl h26 (OwR.nil _ _ _ _) (no_ ((f04.trans f5).of_no.trans (u2 f26)))
  have e2 := not_f e2
  rw [walkB_pl e1] at e2
  have f05 := f04.trans f5
  refine k_spec_l1In n 0 12 h5 _ ⟨_, rfl, (hL2.of_no f4).of_no f5, fun e3 => ?_, fun e3 => ?_⟩
  · intro h26 f26 _
    have er : rotsP xss sink rs n = ([], false) := by unfold rotsP; rw [if_pos e1, if_pos e2, show inR 0 12 n = false from not_t e3]; rfl
    rw [er] at HK
    exact HK nilSl h26 (OwR.nil _ _ _ _) (no_ ((f05).of_no.trans (u2 f26)))
  have e3 : inR 0 12 n = true := not_f e3
  have z25 : h2.size ≤ h5.size := by have := f4.size; have := f5.size; omega
  intro b3 h9 hb3 f9 hL9
  have f9 := f9.in_nil
  have f09 := f05.trans f9
  have z9 := f09.size
  have l9 : b3 < h9.size := hL9.head.lt
  have z29 : h2.size ≤ h9.size := Nat.le_trans z25 f9.size
  have W := wok_of e2
  have wl : rs.length = xss.length := W.len
  have gl := graph_len W.graph
  have n1 := inR_iff.1 e3
  have gn := G.len
  have er : rotsP xss sink rs n = (rotP xss sink rs n, true) := by unfold rotsP; rw [if_pos e1, if_pos e2, if_pos e3]
  rw [er] at HK
  have u3 : ∀ {x y : Heap}, Fr (In [b3]) x y -> Fr (fun k => h.size ≤ k) x y := fun f => f.mono fun k _ hk => by simp [In] at hk; have := f9.size; have := f05.size; omega
  refine ⟨fun m i x h' => 0 ≤ i /\ i + m = (xss.length : Int) /\ OwX h' (fun k => h9.size ≤ k) x ((List.range i.toNat).map (rotK xss sink rs (n + 1))) /\ Fr (fun k => h.size ≤ k) h h' /\ h9.size ≤ h'.size, ⟨xss.length, Int.le_refl _, by omega, OwR.nil _ _ _ _, f09.of_no, Nat.le_refl _⟩, ?_⟩
  rintro m i x h10 ⟨i0, i1, o10, f10, z10⟩ hL10
  refine ⟨fun e => ?_, fun e => ?_⟩
  · simp only [decide_eq_true_eq] at e
    have g10 := no_ f10
    have G10 := G.no g10
    have H10 := H.no g10
    obtain ⟨si, c1, r1⟩ := G10.get i0 (by omega)
    refine ⟨G10.inb i0 (by omega), si, c1, ?_⟩
    have sn := r1.len
    have gi : xss.getD i.toNat [] = xss[i.toNat]'(by omega) := getD_get (by omega)
    have gm := graph_mem W.graph (List.getElem_mem (show i.toNat < xss.length by omega))
    have o10i := o10.toIv
    have z10h : h.size ≤ h10.size := f10.size
    refine ⟨fun m2 t k h' => 1 ≤ k /\ k + m2 = n + 1 /\ OwI h' (fun q => h10.size ≤ q) t (rotK xss sink rs k i.toNat) /\ Fr (fun q => h10.size ≤ q) h10 h', ⟨n.toNat, by omega, by omega, by rw [rotK_one]; exact Ow.nil _ _ _ _, Fr.refl _ _⟩, ?_⟩
    rintro m2 t k h12 ⟨k0, k1, o12, f12⟩ hL12
    have z12 := f12.size
    have fin : ∀ (h12 : Heap) (t : Sl) (k : Int), OwI h12 (fun q => h10.size ≤ q) t (rotK xss sink rs k i.toNat) -> Fr (fun q => h10.size ≤ q) h10 h12 -> rotK xss sink rs k i.toNat = rotK xss sink rs (n + 1) i.toNat -> Vars h12 [(b3, [x.v]), (b2, [nilSl.v]), (b1, [g.v])] →
        eop Tryz.prog (Instr.buildSlice tIss 1 #[(0, t.v)]) h12 fun rv h' => ∃ y : Sl, rv = y.v /\ Vars h' [(b3, [x.v]), (b2, [nilSl.v]), (b1, [g.v])] /\ eop Tryz.prog (appS tIss tIss tIss x.v y.v) h' fun rv2 h'' => ∃ y2 : Sl, rv2 = y2.v /\ Vars h'' [(b3, [x.v]), (b2, [nilSl.v]), (b1, [g.v])] /\ ∀ h17, Fr (In [b3]) h'' h17 -> Vars h17 [(b3, [y2.v]), (b2, [nilSl.v]), (b1, [g.v])] -> ∃ m' : Nat, m' < m /\ 0 ≤ w64 (i + 1) /\ w64 (i + 1) + m' = (xss.length : Int) /\ OwX h17 (fun k => h9.size ≤ k) y2 ((List.range (w64 (i + 1)).toNat).map (rotK xss sink rs (n + 1))) /\ Fr (fun k => h.size ≤ k) h h17 /\ h9.size ≤ h17.size := by
      intro h12 t k o12 f12 er hL12
      have z12 := f12.size
      refine eop_putR (lo := h9.size) (m := h10.size) (OwR.fr o10i f12 fun k hk hk2 hk3 => by have := hk2.2; omega) o12 z10 z12 hL12 (fun p hp => by
        simp only [List.mem_cons, List.not_mem_nil, or_false] at hp
        rcases hp with rfl | rfl | rfl
        · exact l9
        · show b2 < _; omega
        · show b1 < _; omega) (by simp; omega) _ fun y2 h16 o16 f16 V16 => fun h17 f17 hL17 => ?_
      rw [w64_eq _ (by omega) (by omega)]
      refine ⟨m - 1, by omega, by omega, by omega, ?_, ?_, ?_⟩
      · rw [show (i + 1).toNat = i.toNat + 1 by omega, List.range_succ, List.map_append, List.map_cons, List.map_nil, ← er]
        exact OwR.fr o16 f17 fun k _ hk hk2 => by simp [In] at hk2; omega
      · exact ((f10.trans (f12.mono fun k _ hk => by omega)).trans (f16.mono fun k _ hk => by omega)).trans (u3 f17)
      · have := f16.size; have := f17.size; omega
    refine ⟨fun e4 => ?_, fun e4 => ?_⟩
    · simp only [decide_eq_true_eq] at e4
      refine ⟨fun e5 => ⟨fun e6 => ?_, fun e6 => ?_⟩, fun e5 => ?_⟩
      · simp only [Bool.not_eq_true', decide_eq_false_iff_not] at e5
        simp only [decide_eq_true_eq] at e6
        have H12 := H10.no (f12.mono fun q hq hq2 => absurd hq2 (by omega))
        have rw_ := W.rot i.toNat (by (try simp only); omega) (by omega)
        have ri0 : 0 ≤ rs[i.toNat]'(by omega) := rw_.1
        have ri1 : rs[i.toNat]'(by omega) ≤ max (((xss[i.toNat]'(by omega)).length : Int) - 1) 0 := rw_.2
        refine ⟨H12.inb i0 (by omega), _, H12.get i0 (by omega), by omega, ?_⟩
        refine eop_put (lo := h10.size) o12 z12 hL12 (fun p hp => by
          simp only [List.mem_cons, List.not_mem_nil, or_false] at hp
          rcases hp with rfl | rfl | rfl
          · show b3 < _; omega
          · show b2 < _; omega
          · show b1 < _; omega) (by have := rotK_len xss sink rs k i.toNat; omega) _ fun t2 h14 o14 f14 V14 => ?_
        have eg : (rs.getD i.toNat 0 + k).tmod ((xss.getD i.toNat []).length : Int) = (w64 (rs[i.toNat]'(by omega) + k)).tmod (si.n : Int) := by rw [w64_eq _ (by omega) (by omega), getD_getI (show i.toNat < rs.length by omega), gi, sn]
        rw [← eg, ← rotK_step (by omega) (by rw [gi]; omega) k0] at o14
        rw [w64_eq (k + 1) (by omega) (by omega)]
        exact ⟨m2 - 1, by omega, by omega, by omega, o14, f12.trans f14⟩
      · simp only [decide_eq_false_iff_not] at e6
        exact fin h12 t k o12 f12 (by rw [rotK_no (by rintro ⟨_, a⟩; rw [gi] at a; omega), rotK_no (by rintro ⟨_, a⟩; rw [gi] at a; omega)]) hL12
      · simp only [Bool.not_eq_false', decide_eq_true_eq] at e5
        exact fin h12 t k o12 f12 (by rw [rotK_no (by rintro ⟨a, _⟩; exact a (by omega)), rotK_no (by rintro ⟨a, _⟩; exact a (by omega))]) hL12
    · simp only [decide_eq_false_iff_not] at e4
      exact fin h12 t k o12 f12 (by rw [show k = n + 1 by omega]) hL12
  · simp only [decide_eq_false_iff_not] at e
    intro h24 f24 hL24
    have ei : i.toNat = xss.length := by omega
    rw [ei] at o10
    refine HK x h24 ?_ (no_ (f10.trans (u2 f24)))
    refine (OwR.fr o10 f24 fun k _ hk hk2 => by simp [In] at hk2; omega).mono fun k hk hk2 => ⟨by omega, hk⟩
def w3_3 (P : Program) (seen24_1 : Int) (h_18 : Heap) (b_2 : Nat) (t66_3 : Sl) (b_1 : Nat) (t66_1 : Sl) (t199_1 : Sl) (t66_2 : Int) (n_1 : Nat) (J_2 : Nat -> Int -> Int -> Heap -> Prop) (t195_1 : Int) (K : Value -> Heap -> Prop) : Prop :=
  ∃ J_3 : Nat -> Int -> Int -> Heap -> Prop, (∃ n0 : Nat, J_3 n0 seen24_1 0 h_18) ∧
  ∀ (n_2 : Nat) (seen24_2 : Int) (t217_1 : Int) (h_19 : Heap), J_3 n_2 seen24_2 t217_1 h_19 -> Vars h_19 [(b_2, [(Sl.v t66_3)]), (b_1, [(Sl.v t66_1)])] →
  ((decide (t217_1 < (t199_1.n : Int))) = true →
  InB t199_1 t217_1 ∧
  ∃ t221_1 : Int, hcell h_19 (Sl.at t199_1 t217_1 1) = some (VI t221_1) ∧
  InB t199_1 0 ∧
  ∃ t225_1 : Int, hcell h_19 (Sl.at t199_1 0 1) = some (VI t225_1) ∧
  ((decide (t221_1 < t225_1)) = true →
  K (VB false) h_19) ∧
  ((decide (t221_1 < t225_1)) = false →
  ((decide (t221_1 = t66_2)) = true →
  K (VB false) h_19) ∧
  ((decide (t221_1 = t66_2)) = false →
  pop P (binA .shr 3 (VI seen24_2) (VI t221_1)) fun rv_14 => ∃ t235_1 : Int, rv_14 = (VI t235_1) ∧
  ((decide ((Int.tmod t235_1 2) = 1)) = true →
  K (VB false) h_19) ∧
  ((decide ((Int.tmod t235_1 2) = 1)) = false →
  InB t66_3 t221_1 ∧
  ∃ t244_1 : Sl, hcell h_19 (Sl.at t66_3 t221_1 1) = some (Sl.v t244_1) ∧
  ((decide ((t244_1.n : Int) = 0)) = true →
  K (VB false) h_19) ∧
  ((decide ((t244_1.n : Int) = 0)) = false →
  InB t66_1 t221_1 ∧
  ∃ t253_1 : Sl, hcell h_19 (Sl.at t66_1 t221_1 1) = some (Sl.v t253_1) ∧
  InB t66_3 t221_1 ∧
  ∃ t258_1 : Sl, hcell h_19 (Sl.at t66_3 t221_1 1) = some (Sl.v t258_1) ∧
  InB t258_1 0 ∧
  ∃ t260_1 : Int, hcell h_19 (Sl.at t258_1 0 1) = some (VI t260_1) ∧
  InB t253_1 t260_1 ∧
  ∃ t262_1 : Int, hcell h_19 (Sl.at t253_1 t260_1 1) = some (VI t262_1) ∧
  (t199_1.n : Int) ≠ 0 ∧
  InB t199_1 (Int.tmod (w64 (t217_1 + 1)) (t199_1.n : Int)) ∧
  ∃ t270_1 : Int, hcell h_19 (Sl.at t199_1 (Int.tmod (w64 (t217_1 + 1)) (t199_1.n : Int)) 1) = some (VI t270_1) ∧
  ((!decide (t262_1 = t270_1)) = true →
  K (VB false) h_19) ∧
  ((!decide (t262_1 = t270_1)) = false →
  pop P (binA .shl 3 (Value.int IntKind.i64 1) (VI t221_1)) fun rv_15 => ∃ t275_1 : Int, rv_15 = (VI t275_1) ∧
  pop P (binA .or 3 (VI seen24_2) (VI t275_1)) fun rv_16 => ∃ t276_1 : Int, rv_16 = (VI t276_1) ∧
  ∃ m : Nat, m < n_2 /\ J_3 m t276_1 (w64 (t217_1 + 1)) h_19)))))) ∧
  ((decide (t217_1 < (t199_1.n : Int))) = false →
  ∃ m : Nat, m < n_1 /\ J_2 m seen24_2 (w64 (t195_1 + 1)) h_19)
def w3_2 (P : Program) (t74_1 : Sl) (t195_1 : Int) (h_18 : Heap) (seen24_1 : Int) (b_2 : Nat) (t66_3 : Sl) (b_1 : Nat) (t66_1 : Sl) (t66_2 : Int) (n_1 : Nat) (J_2 : Nat -> Int -> Int -> Heap -> Prop) (K : Value -> Heap -> Prop) : Prop :=
  InB t74_1 t195_1 ∧
  ∃ t199_1 : Sl, hcell h_18 (Sl.at t74_1 t195_1 1) = some (Sl.v t199_1) ∧
  ((decide (0 < t195_1)) = true →
  InB t74_1 (w64 (t195_1 - 1)) ∧
  ∃ t207_1 : Sl, hcell h_18 (Sl.at t74_1 (w64 (t195_1 - 1)) 1) = some (Sl.v t207_1) ∧
  InB t207_1 0 ∧
  ∃ t209_1 : Int, hcell h_18 (Sl.at t207_1 0 1) = some (VI t209_1) ∧
  InB t199_1 0 ∧
  ∃ t212_1 : Int, hcell h_18 (Sl.at t199_1 0 1) = some (VI t212_1) ∧
  ((decide (t212_1 ≤ t209_1)) = true →
  K (VB false) h_18) ∧
  ((decide (t212_1 ≤ t209_1)) = false →
  w3_3 P seen24_1 h_18 b_2 t66_3 b_1 t66_1 t199_1 t66_2 n_1 J_2 t195_1 K)) ∧
  ((decide (0 < t195_1)) = false →
  w3_3 P seen24_1 h_18 b_2 t66_3 b_1 t66_1 t199_1 t66_2 n_1 J_2 t195_1 K)
def w3_4 (P : Program) (t74_1 : Sl) (t66_1 : Sl) (t66_2 : Int) (t116_1 : Sl) (h_21 : Heap) (b_2 : Nat) (t66_3 : Sl) (b_1 : Nat) (J_1 : Heap -> Prop) (K : Value -> Heap -> Prop) : Prop :=
  ((decide ((t74_1.n : Int) = 0)) = true →
  callM P 17 #[(Value.agg #[(Sl.v t66_1)]), (VI t66_2), (Sl.v t116_1)] h_21 fun rv_21 h_22 => ∃ t298_1 : Bool, ∃ t298_2 : Bool, rv_21 = (Value.tuple #[(VB t298_1), (VB t298_2)]) /\ Vars h_22 [(b_2, [(Sl.v t66_3)]), (b_1, [(Sl.v t66_1)])] ∧
  ((!t298_2) = true →
  K (VB false) h_22) ∧
  ((!t298_2) = false →
  ((!t298_1) = true →
  K (VB false) h_22) ∧
  ((!t298_1) = false →
  J_1  h_22))) ∧
  ((decide ((t74_1.n : Int) = 0)) = false →
  J_1  h_21)
def w3_5 (P : Program) (J_1 : Heap -> Prop) (b_2 : Nat) (t66_3 : Sl) (b_1 : Nat) (t66_1 : Sl) (more1_1 : Sl) (K : Value -> Heap -> Prop) : Prop :=
  ∀ (h_24 : Heap), J_1  h_24 -> Vars h_24 [(b_2, [(Sl.v t66_3)]), (b_1, [(Sl.v t66_1)])] →
  callM P 18 #[(Sl.v more1_1)] h_24 fun rv_23 h_25 => ∃ t309_1 : Sl, ∃ t309_2 : Int, ∃ t309_3 : Sl, ∃ t309_4 : Int, rv_23 = (Value.tuple #[(Value.agg #[(Sl.v t309_1)]), (VI t309_2), (Value.agg #[(Sl.v t309_3)]), (VI t309_4)]) /\ Vars h_25 [(b_2, [(Sl.v t66_3)]), (b_1, [(Sl.v t66_1)])] ∧
  ∀ (b_3 : Nat) (b_4 : Nat) (h_29 : Heap), h_25.size ≤ b_3 -> h_25.size ≤ b_4 -> Fr (In []) h_25 h_29 -> Vars h_29 [(b_4, [(Sl.v t309_3)]), (b_3, [(Sl.v t309_1)]), (b_2, [(Sl.v t66_3)]), (b_1, [(Sl.v t66_1)])] →
  callM P 19 #[(Value.agg #[(Sl.v t309_1)]), (VI t309_2), (Value.agg #[(Sl.v t309_3)]), (VI t309_4)] h_29 fun rv_24 h_30 => ∃ t319_1 : Sl, ∃ t319_2 : Bool, rv_24 = (Value.tuple #[(Value.agg #[(Sl.v t319_1)]), (VB t319_2)]) /\ Vars h_30 [(b_4, [(Sl.v t309_3)]), (b_3, [(Sl.v t309_1)]), (b_2, [(Sl.v t66_3)]), (b_1, [(Sl.v t66_1)])] ∧
  ∀ (b_5 : Nat) (h_32 : Heap), h_30.size ≤ b_5 -> Fr (In []) h_30 h_32 -> Vars h_32 [(b_5, [(Sl.v t319_1)]), (b_4, [(Sl.v t309_3)]), (b_3, [(Sl.v t309_1)]), (b_2, [(Sl.v t66_3)]), (b_1, [(Sl.v t66_1)])] →
  callM P 20 #[(Value.agg #[(Sl.v t309_1)]), (VI t309_2), (Value.agg #[(Sl.v t309_3)]), (VI t309_4)] h_32 fun rv_25 h_33 => ∃ t327_1 : Sl, ∃ t327_2 : Bool, rv_25 = (Value.tuple #[(Value.agg #[(Sl.v t327_1)]), (VB t327_2)]) /\ Vars h_33 [(b_5, [(Sl.v t319_1)]), (b_4, [(Sl.v t309_3)]), (b_3, [(Sl.v t309_1)]), (b_2, [(Sl.v t66_3)]), (b_1, [(Sl.v t66_1)])] ∧
  ((!(t319_2 == t327_2)) = true →
  ∀ (b_6 : Nat) (h_35 : Heap), h_33.size ≤ b_6 -> Fr (In []) h_33 h_35 -> Vars h_35 [(b_6, [(Sl.v t327_1)]), (b_5, [(Sl.v t319_1)]), (b_4, [(Sl.v t309_3)]), (b_3, [(Sl.v t309_1)]), (b_2, [(Sl.v t66_3)]), (b_1, [(Sl.v t66_1)])] →
  K (VB false) h_35) ∧
  ((!(t319_2 == t327_2)) = false →
  ∀ (b_6 : Nat) (h_35 : Heap), h_33.size ≤ b_6 -> Fr (In []) h_33 h_35 -> Vars h_35 [(b_6, [(Sl.v t327_1)]), (b_5, [(Sl.v t319_1)]), (b_4, [(Sl.v t309_3)]), (b_3, [(Sl.v t309_1)]), (b_2, [(Sl.v t66_3)]), (b_1, [(Sl.v t66_1)])] →
  callM P 21 #[(Value.agg #[(Sl.v t319_1)]), (Value.agg #[(Sl.v t327_1)])] h_35 fun rv_26 h_36 => ∃ t336_1 : Bool, rv_26 = (VB t336_1) /\ Vars h_36 [(b_6, [(Sl.v t327_1)]), (b_5, [(Sl.v t319_1)]), (b_4, [(Sl.v t309_3)]), (b_3, [(Sl.v t309_1)]), (b_2, [(Sl.v t66_3)]), (b_1, [(Sl.v t66_1)])] ∧
  ((!t336_1) = true →
  K (VB false) h_36) ∧
  ((!t336_1) = false →
  ∃ J_5 : Heap -> Prop, ((t319_2 = true →
  callM P 7 #[(Value.agg #[(Sl.v t309_1)]), (VI t309_2), (Value.agg #[(Sl.v t309_3)])] h_36 fun rv_27 h_37 => ∃ t344_1 : Sl, ∃ t344_2 : Bool, rv_27 = (Value.tuple #[(Sl.v t344_1), (VB t344_2)]) /\ Vars h_37 [(b_6, [(Sl.v t327_1)]), (b_5, [(Sl.v t319_1)]), (b_4, [(Sl.v t309_3)]), (b_3, [(Sl.v t309_1)]), (b_2, [(Sl.v t66_3)]), (b_1, [(Sl.v t66_1)])] ∧
  ∃ J_6 : Nat -> Sl -> Int -> Heap -> Prop, (∃ n0 : Nat, J_6 n0 nilSl 0 h_37) ∧
  ∀ (n_7 : Nat) (own41_1 : Sl) (t349_1 : Int) (h_38 : Heap), J_6 n_7 own41_1 t349_1 h_38 -> Vars h_38 [(b_6, [(Sl.v t327_1)]), (b_5, [(Sl.v t319_1)]), (b_4, [(Sl.v t309_3)]), (b_3, [(Sl.v t309_1)]), (b_2, [(Sl.v t66_3)]), (b_1, [(Sl.v t66_1)])] →
  ((decide (t349_1 < (t344_1.n : Int))) = true →
  InB t344_1 t349_1 ∧
  ∃ t352_1 : Sl, hcell h_38 (Sl.at t344_1 t349_1 1) = some (Sl.v t352_1) ∧
  callM P 22 #[(Sl.v t352_1), (VI t309_4)] h_38 fun rv_28 h_39 => ∃ t355_1 : Bool, rv_28 = (VB t355_1) /\ Vars h_39 [(b_6, [(Sl.v t327_1)]), (b_5, [(Sl.v t319_1)]), (b_4, [(Sl.v t309_3)]), (b_3, [(Sl.v t309_1)]), (b_2, [(Sl.v t66_3)]), (b_1, [(Sl.v t66_1)])] ∧
  (t355_1 = true →
  ∃ m : Nat, m < n_7 /\ J_6 m t352_1 (w64 (t349_1 + 1)) h_39) ∧
  (t355_1 = false →
  ∃ m : Nat, m < n_7 /\ J_6 m own41_1 (w64 (t349_1 + 1)) h_39)) ∧
  ((decide (t349_1 < (t344_1.n : Int))) = false →
  ((!t344_2) = true →
  K (VB false) h_38) ∧
  ((!t344_2) = false →
  ((decide ((own41_1.n : Int) = 0)) = true →
  K (VB false) h_38) ∧
  ((decide ((own41_1.n : Int) = 0)) = false →
  ∃ J_7 : Nat -> Int -> Heap -> Prop, (∃ n0 : Nat, J_7 n0 0 h_38) ∧
  ∀ (n_8 : Nat) (t368_1 : Int) (h_40 : Heap), J_7 n_8 t368_1 h_40 -> Vars h_40 [(b_6, [(Sl.v t327_1)]), (b_5, [(Sl.v t319_1)]), (b_4, [(Sl.v t309_3)]), (b_3, [(Sl.v t309_1)]), (b_2, [(Sl.v t66_3)]), (b_1, [(Sl.v t66_1)])] →
  ((decide (t368_1 < (t309_1.n : Int))) = true →
  ∃ J_8 : Int -> Heap -> Prop, (callM P 22 #[(Sl.v own41_1), (VI t368_1)] h_40 fun rv_29 h_41 => ∃ t373_1 : Bool, rv_29 = (VB t373_1) /\ Vars h_41 [(b_6, [(Sl.v t327_1)]), (b_5, [(Sl.v t319_1)]), (b_4, [(Sl.v t309_3)]), (b_3, [(Sl.v t309_1)]), (b_2, [(Sl.v t66_3)]), (b_1, [(Sl.v t66_1)])] ∧
  (t373_1 = true →
  J_8 1 h_41) ∧
  (t373_1 = false →
  J_8 0 h_41)) ∧
  ∀ (x_1 : Int) (h_42 : Heap), J_8 x_1 h_42 -> Vars h_42 [(b_6, [(Sl.v t327_1)]), (b_5, [(Sl.v t319_1)]), (b_4, [(Sl.v t309_3)]), (b_3, [(Sl.v t309_1)]), (b_2, [(Sl.v t66_3)]), (b_1, [(Sl.v t66_1)])] →
  InB t319_1 t368_1 ∧
  ∃ t378_1 : Sl, hcell h_42 (Sl.at t319_1 t368_1 1) = some (Sl.v t378_1) ∧
  InB t309_3 t368_1 ∧
  ∃ t383_1 : Sl, hcell h_42 (Sl.at t309_3 t368_1 1) = some (Sl.v t383_1) ∧
  pop P (Instr.sliceAt 33 (Sl.v t383_1) (some (VI x_1)) none none) fun rv_30 => ∃ t385_1 : Sl, rv_30 = (Sl.v t385_1) ∧
  callM P 16 #[(Sl.v t378_1), (Sl.v t385_1)] h_42 fun rv_31 h_43 => ∃ t386_1 : Bool, rv_31 = (VB t386_1) /\ Vars h_43 [(b_6, [(Sl.v t327_1)]), (b_5, [(Sl.v t319_1)]), (b_4, [(Sl.v t309_3)]), (b_3, [(Sl.v t309_1)]), (b_2, [(Sl.v t66_3)]), (b_1, [(Sl.v t66_1)])] ∧
  hcell h_43 (Sl.at t309_3 t368_1 1) = some (Sl.v t383_1) ∧
  ((!t386_1) = true →
  K (VB false) h_43) ∧
  ((!t386_1) = false →
  ∃ m : Nat, m < n_8 /\ J_7 m (w64 (t368_1 + 1)) h_43)) ∧
  ((decide (t368_1 < (t309_1.n : Int))) = false →
  J_5  h_40))))) ∧
  (t319_2 = false →
  J_5  h_36)) ∧
  ∀ (h_44 : Heap), J_5  h_44 -> Vars h_44 [(b_6, [(Sl.v t327_1)]), (b_5, [(Sl.v t319_1)]), (b_4, [(Sl.v t309_3)]), (b_3, [(Sl.v t309_1)]), (b_2, [(Sl.v t66_3)]), (b_1, [(Sl.v t66_1)])] →
  callM P 23 #[(Sl.v more1_1)] h_44 fun rv_32 h_45 => ∃ t391_1 : Sl, ∃ t391_2 : Int, ∃ t391_3 : Sl, ∃ t391_4 : Int, rv_32 = (Value.tuple #[(Value.agg #[(Sl.v t391_1)]), (VI t391_2), (Sl.v t391_3), (VI t391_4)]) /\ Vars h_45 [(b_6, [(Sl.v t327_1)]), (b_5, [(Sl.v t319_1)]), (b_4, [(Sl.v t309_3)]), (b_3, [(Sl.v t309_1)]), (b_2, [(Sl.v t66_3)]), (b_1, [(Sl.v t66_1)])] ∧
  ∀ (b_7 : Nat) (h_47 : Heap), h_45.size ≤ b_7 -> Fr (In []) h_45 h_47 -> Vars h_47 [(b_7, [(Sl.v t391_1)]), (b_6, [(Sl.v t327_1)]), (b_5, [(Sl.v t319_1)]), (b_4, [(Sl.v t309_3)]), (b_3, [(Sl.v t309_1)]), (b_2, [(Sl.v t66_3)]), (b_1, [(Sl.v t66_1)])] →
  callM P 24 #[(Value.agg #[(Sl.v t391_1)]), (VI t391_2), (Sl.v t391_3), (VI t391_4)] h_47 fun rv_33 h_48 => ∃ t401_1 : Sl, ∃ t401_2 : Bool, rv_33 = (Value.tuple #[(Value.agg #[(Sl.v t401_1)]), (VB t401_2)]) /\ Vars h_48 [(b_7, [(Sl.v t391_1)]), (b_6, [(Sl.v t327_1)]), (b_5, [(Sl.v t319_1)]), (b_4, [(Sl.v t309_3)]), (b_3, [(Sl.v t309_1)]), (b_2, [(Sl.v t66_3)]), (b_1, [(Sl.v t66_1)])] ∧
  ∀ (b_8 : Nat) (h_50 : Heap), h_48.size ≤ b_8 -> Fr (In []) h_48 h_50 -> Vars h_50 [(b_8, [(Sl.v t401_1)]), (b_7, [(Sl.v t391_1)]), (b_6, [(Sl.v t327_1)]), (b_5, [(Sl.v t319_1)]), (b_4, [(Sl.v t309_3)]), (b_3, [(Sl.v t309_1)]), (b_2, [(Sl.v t66_3)]), (b_1, [(Sl.v t66_1)])] →
  callM P 25 #[(Value.agg #[(Sl.v t391_1)]), (VI t391_2), (Sl.v t391_3), (VI t391_4)] h_50 fun rv_34 h_51 => ∃ t409_1 : Sl, ∃ t409_2 : Bool, rv_34 = (Value.tuple #[(Value.agg #[(Sl.v t409_1)]), (VB t409_2)]) /\ Vars h_51 [(b_8, [(Sl.v t401_1)]), (b_7, [(Sl.v t391_1)]), (b_6, [(Sl.v t327_1)]), (b_5, [(Sl.v t319_1)]), (b_4, [(Sl.v t309_3)]), (b_3, [(Sl.v t309_1)]), (b_2, [(Sl.v t66_3)]), (b_1, [(Sl.v t66_1)])] ∧
  ∀ (b_9 : Nat) (h_53 : Heap), h_51.size ≤ b_9 -> Fr (In []) h_51 h_53 -> Vars h_53 [(b_9, [(Sl.v t409_1)]), (b_8, [(Sl.v t401_1)]), (b_7, [(Sl.v t391_1)]), (b_6, [(Sl.v t327_1)]), (b_5, [(Sl.v t319_1)]), (b_4, [(Sl.v t309_3)]), (b_3, [(Sl.v t309_1)]), (b_2, [(Sl.v t66_3)]), (b_1, [(Sl.v t66_1)])] →
  callM P 26 #[(Sl.v more1_1)] h_53 fun rv_35 h_54 => ∃ t413_1 : Sl, rv_35 = (Value.agg #[(Sl.v t413_1)]) /\ Vars h_54 [(b_9, [(Sl.v t409_1)]), (b_8, [(Sl.v t401_1)]), (b_7, [(Sl.v t391_1)]), (b_6, [(Sl.v t327_1)]), (b_5, [(Sl.v t319_1)]), (b_4, [(Sl.v t309_3)]), (b_3, [(Sl.v t309_1)]), (b_2, [(Sl.v t66_3)]), (b_1, [(Sl.v t66_1)])] ∧
  ∀ (b_10 : Nat) (h_56 : Heap), h_54.size ≤ b_10 -> Fr (In []) h_54 h_56 -> Vars h_56 [(b_10, [(Sl.v t413_1)]), (b_9, [(Sl.v t409_1)]), (b_8, [(Sl.v t401_1)]), (b_7, [(Sl.v t391_1)]), (b_6, [(Sl.v t327_1)]), (b_5, [(Sl.v t319_1)]), (b_4, [(Sl.v t309_3)]), (b_3, [(Sl.v t309_1)]), (b_2, [(Sl.v t66_3)]), (b_1, [(Sl.v t66_1)])] →
  callM P 27 #[(Value.agg #[(Sl.v t413_1)])] h_56 fun rv_36 h_57 => ∃ t416_1 : ByteArray, ∃ t416_2 : Bool, rv_36 = (Value.tuple #[(VS t416_1), (VB t416_2)]) /\ Vars h_57 [(b_10, [(Sl.v t413_1)]), (b_9, [(Sl.v t409_1)]), (b_8, [(Sl.v t401_1)]), (b_7, [(Sl.v t391_1)]), (b_6, [(Sl.v t327_1)]), (b_5, [(Sl.v t319_1)]), (b_4, [(Sl.v t309_3)]), (b_3, [(Sl.v t309_1)]), (b_2, [(Sl.v t66_3)]), (b_1, [(Sl.v t66_1)])] ∧
  callM P 28 #[(Value.agg #[(Sl.v t413_1)])] h_57 fun rv_37 h_58 => ∃ t421_1 : ByteArray, ∃ t421_2 : Bool, rv_37 = (Value.tuple #[(VS t421_1), (VB t421_2)]) /\ Vars h_58 [(b_10, [(Sl.v t413_1)]), (b_9, [(Sl.v t409_1)]), (b_8, [(Sl.v t401_1)]), (b_7, [(Sl.v t391_1)]), (b_6, [(Sl.v t327_1)]), (b_5, [(Sl.v t319_1)]), (b_4, [(Sl.v t309_3)]), (b_3, [(Sl.v t309_1)]), (b_2, [(Sl.v t66_3)]), (b_1, [(Sl.v t66_1)])] ∧
  ((!(t401_2 == t409_2)) = true →
  K (VB false) h_58) ∧
  ((!(t401_2 == t409_2)) = false →
  callM P 21 #[(Value.agg #[(Sl.v t401_1)]), (Value.agg #[(Sl.v t409_1)])] h_58 fun rv_38 h_59 => ∃ t430_1 : Bool, rv_38 = (VB t430_1) /\ Vars h_59 [(b_10, [(Sl.v t413_1)]), (b_9, [(Sl.v t409_1)]), (b_8, [(Sl.v t401_1)]), (b_7, [(Sl.v t391_1)]), (b_6, [(Sl.v t327_1)]), (b_5, [(Sl.v t319_1)]), (b_4, [(Sl.v t309_3)]), (b_3, [(Sl.v t309_1)]), (b_2, [(Sl.v t66_3)]), (b_1, [(Sl.v t66_1)])] ∧
  ((!t430_1) = true →
  K (VB false) h_59) ∧
  ((!t430_1) = false →
  ((!(t416_2 == t421_2)) = true →
  K (VB false) h_59) ∧
  ((!(t416_2 == t421_2)) = false →
  ((!(ByteArray.toList t416_1 == ByteArray.toList t421_1)) = true →
  K (VB false) h_59) ∧
  ((!(ByteArray.toList t416_1 == ByteArray.toList t421_1)) = false →
  (t401_2 = true →
  callM P 11 #[(Value.agg #[(Sl.v t391_1)]), (VI t391_2), (Value.agg #[(Sl.v t401_1)])] h_59 fun rv_39 h_60 => ∃ t448_1 : Bool, ∃ t448_2 : Bool, rv_39 = (Value.tuple #[(VB t448_1), (VB t448_2)]) /\ Vars h_60 [(b_10, [(Sl.v t413_1)]), (b_9, [(Sl.v t409_1)]), (b_8, [(Sl.v t401_1)]), (b_7, [(Sl.v t391_1)]), (b_6, [(Sl.v t327_1)]), (b_5, [(Sl.v t319_1)]), (b_4, [(Sl.v t309_3)]), (b_3, [(Sl.v t309_1)]), (b_2, [(Sl.v t66_3)]), (b_1, [(Sl.v t66_1)])] ∧
  (t448_2 = true →
  K (VB t448_1) h_60) ∧
  (t448_2 = false →
  K (VB false) h_60)) ∧
  (t401_2 = false →
  K (VB true) h_59)))))))
def w3_6 (P : Program) (h_17 : Heap) (b_2 : Nat) (t66_3 : Sl) (b_1 : Nat) (t66_1 : Sl) (more1_1 : Sl) (K : Value -> Heap -> Prop) : Prop :=
  ∃ J_17 : Heap -> Prop, (J_17  h_17) ∧
  w3_5 P J_17 b_2 t66_3 b_1 t66_1 more1_1 K
def w3_1 (P : Program) (t74_2 : Bool) (t88_2 : Bool) (t74_1 : Sl) (h_17 : Heap) (t116_2 : Bool) (b_2 : Nat) (t66_3 : Sl) (b_1 : Nat) (t66_1 : Sl) (t66_2 : Int) (t88_1 : Sl) (t116_1 : Sl) (more1_1 : Sl) (K : Value -> Heap -> Prop) : Prop :=
  (t74_2 = true →
  ((!(t88_2 == (decide (0 < (t74_1.n : Int))))) = true →
  K (VB false) h_17) ∧
  ((!(t88_2 == (decide (0 < (t74_1.n : Int))))) = false →
  (t116_2 = true →
  ((!t74_2) = true →
  K (VB false) h_17) ∧
  ((!t74_2) = false →
  ∃ J_1 : Heap -> Prop, (∃ J_2 : Nat -> Int -> Int -> Heap -> Prop, (∃ n0 : Nat, J_2 n0 0 0 h_17) ∧
  ∀ (n_1 : Nat) (seen24_1 : Int) (t195_1 : Int) (h_18 : Heap), J_2 n_1 seen24_1 t195_1 h_18 -> Vars h_18 [(b_2, [(Sl.v t66_3)]), (b_1, [(Sl.v t66_1)])] →
  ((decide (t195_1 < (t74_1.n : Int))) = true →
  w3_2 P t74_1 t195_1 h_18 seen24_1 b_2 t66_3 b_1 t66_1 t66_2 n_1 J_2 K) ∧
  ((decide (t195_1 < (t74_1.n : Int))) = false →
  (t88_2 = true →
  InB t74_1 0 ∧
  ∃ t284_1 : Sl, hcell h_18 (Sl.at t74_1 0 1) = some (Sl.v t284_1) ∧
  callM P 16 #[(Sl.v t88_1), (Sl.v t284_1)] h_18 fun rv_20 h_21 => ∃ t285_1 : Bool, rv_20 = (VB t285_1) /\ Vars h_21 [(b_2, [(Sl.v t66_3)]), (b_1, [(Sl.v t66_1)])] ∧
  ((!t285_1) = true →
  K (VB false) h_21) ∧
  ((!t285_1) = false →
  w3_4 P t74_1 t66_1 t66_2 t116_1 h_21 b_2 t66_3 b_1 J_1 K)) ∧
  (t88_2 = false →
  w3_4 P t74_1 t66_1 t66_2 t116_1 h_18 b_2 t66_3 b_1 J_1 K))) ∧
  w3_5 P J_1 b_2 t66_3 b_1 t66_1 more1_1 K)) ∧
  (t116_2 = false →
  ∃ J_9 : Heap -> Prop, (∃ J_10 : Nat -> Int -> Int -> Heap -> Prop, (∃ n0 : Nat, J_10 n0 0 0 h_17) ∧
  ∀ (n_11 : Nat) (seen24_4 : Int) (t195_2 : Int) (h_61 : Heap), J_10 n_11 seen24_4 t195_2 h_61 -> Vars h_61 [(b_2, [(Sl.v t66_3)]), (b_1, [(Sl.v t66_1)])] →
  ((decide (t195_2 < (t74_1.n : Int))) = true →
  w3_2 P t74_1 t195_2 h_61 seen24_4 b_2 t66_3 b_1 t66_1 t66_2 n_11 J_10 K) ∧
  ((decide (t195_2 < (t74_1.n : Int))) = false →
  (t88_2 = true →
  InB t74_1 0 ∧
  ∃ t284_2 : Sl, hcell h_61 (Sl.at t74_1 0 1) = some (Sl.v t284_2) ∧
  callM P 16 #[(Sl.v t88_1), (Sl.v t284_2)] h_61 fun rv_46 h_64 => ∃ t285_2 : Bool, rv_46 = (VB t285_2) /\ Vars h_64 [(b_2, [(Sl.v t66_3)]), (b_1, [(Sl.v t66_1)])] ∧
  ((!t285_2) = true →
  K (VB false) h_64) ∧
  ((!t285_2) = false →
  J_9  h_64)) ∧
  (t88_2 = false →
  J_9  h_61))) ∧
  w3_5 P J_9 b_2 t66_3 b_1 t66_1 more1_1 K))) ∧
  (t74_2 = false →
  ((!(t88_2 == false)) = true →
  K (VB false) h_17) ∧
  ((!(t88_2 == false)) = false →
  (t116_2 = true →
  ((!t74_2) = true →
  K (VB false) h_17) ∧
  ((!t74_2) = false →
  w3_6 P h_17 b_2 t66_3 b_1 t66_1 more1_1 K)) ∧
  (t116_2 = false →
  w3_6 P h_17 b_2 t66_3 b_1 t66_1 more1_1 K)))
def w3 (P : Program) (code0_1 : Sl) (more1_1 : Sl) (h : Heap) (K : Value -> Heap -> Prop) : Prop :=
  callM P 5 #[(Sl.v code0_1), (Sl.v more1_1)] h fun rv_1 h_1 => ∃ t63_1 : Bool, rv_1 = (VB t63_1) /\ Vars h_1 [] ∧
  (t63_1 = true →
  K (VB true) h_1) ∧
  (t63_1 = false →
  callM P 6 #[(Sl.v code0_1)] h_1 fun rv_2 h_2 => ∃ t66_1 : Sl, ∃ t66_2 : Int, ∃ t66_3 : Sl, rv_2 = (Value.tuple #[(Value.agg #[(Sl.v t66_1)]), (VI t66_2), (Value.agg #[(Sl.v t66_3)])]) /\ Vars h_2 [] ∧
  ∀ (b_1 : Nat) (b_2 : Nat) (h_6 : Heap), h_2.size ≤ b_1 -> h_2.size ≤ b_2 -> Fr (In []) h_2 h_6 -> Vars h_6 [(b_2, [(Sl.v t66_3)]), (b_1, [(Sl.v t66_1)])] →
  callM P 7 #[(Value.agg #[(Sl.v t66_1)]), (VI t66_2), (Value.agg #[(Sl.v t66_3)])] h_6 fun rv_3 h_7 => ∃ t74_1 : Sl, ∃ t74_2 : Bool, rv_3 = (Value.tuple #[(Sl.v t74_1), (VB t74_2)]) /\ Vars h_7 [(b_2, [(Sl.v t66_3)]), (b_1, [(Sl.v t66_1)])] ∧
  callM P 8 #[(Value.agg #[(Sl.v t66_1)]), (VI t66_2), (Value.agg #[(Sl.v t66_3)])] h_7 fun rv_4 h_8 => ∃ t81_1 : Sl, ∃ t81_2 : Bool, rv_4 = (Value.tuple #[(Sl.v t81_1), (VB t81_2)]) /\ Vars h_8 [(b_2, [(Sl.v t66_3)]), (b_1, [(Sl.v t66_1)])] ∧
  callM P 9 #[(Value.agg #[(Sl.v t66_1)]), (VI t66_2), (Value.agg #[(Sl.v t66_3)])] h_8 fun rv_5 h_9 => ∃ t88_1 : Sl, ∃ t88_2 : Bool, rv_5 = (Value.tuple #[(Sl.v t88_1), (VB t88_2)]) /\ Vars h_9 [(b_2, [(Sl.v t66_3)]), (b_1, [(Sl.v t66_1)])] ∧
  callM P 10 #[(Value.agg #[(Sl.v t66_1)]), (VI t66_2), (Value.agg #[(Sl.v t66_3)])] h_9 fun rv_6 h_10 => ∃ t95_1 : Sl, ∃ t95_2 : Bool, rv_6 = (Value.tuple #[(Sl.v t95_1), (VB t95_2)]) /\ Vars h_10 [(b_2, [(Sl.v t66_3)]), (b_1, [(Sl.v t66_1)])] ∧
  callM P 11 #[(Value.agg #[(Sl.v t66_1)]), (VI t66_2), (Value.agg #[(Sl.v t66_3)])] h_10 fun rv_7 h_11 => ∃ t102_1 : Bool, ∃ t102_2 : Bool, rv_7 = (Value.tuple #[(VB t102_1), (VB t102_2)]) /\ Vars h_11 [(b_2, [(Sl.v t66_3)]), (b_1, [(Sl.v t66_1)])] ∧
  callM P 12 #[(Value.agg #[(Sl.v t66_1)]), (VI t66_2), (Value.agg #[(Sl.v t66_3)])] h_11 fun rv_8 h_12 => ∃ t109_1 : Bool, ∃ t109_2 : Bool, rv_8 = (Value.tuple #[(VB t109_1), (VB t109_2)]) /\ Vars h_12 [(b_2, [(Sl.v t66_3)]), (b_1, [(Sl.v t66_1)])] ∧
  callM P 13 #[(Value.agg #[(Sl.v t66_1)]), (VI t66_2), (Value.agg #[(Sl.v t66_3)])] h_12 fun rv_9 h_13 => ∃ t116_1 : Sl, ∃ t116_2 : Bool, rv_9 = (Value.tuple #[(Sl.v t116_1), (VB t116_2)]) /\ Vars h_13 [(b_2, [(Sl.v t66_3)]), (b_1, [(Sl.v t66_1)])] ∧
  callM P 14 #[(Value.agg #[(Sl.v t66_1)]), (VI t66_2), (Value.agg #[(Sl.v t66_3)])] h_13 fun rv_10 h_14 => ∃ t123_1 : Sl, ∃ t123_2 : Bool, rv_10 = (Value.tuple #[(Sl.v t123_1), (VB t123_2)]) /\ Vars h_14 [(b_2, [(Sl.v t66_3)]), (b_1, [(Sl.v t66_1)])] ∧
  ((!(t74_2 == t81_2)) = true →
  K (VB false) h_14) ∧
  ((!(t74_2 == t81_2)) = false →
  callM P 15 #[(Sl.v t74_1), (Sl.v t81_1)] h_14 fun rv_11 h_15 => ∃ t132_1 : Bool, rv_11 = (VB t132_1) /\ Vars h_15 [(b_2, [(Sl.v t66_3)]), (b_1, [(Sl.v t66_1)])] ∧
  ((!t132_1) = true →
  K (VB false) h_15) ∧
  ((!t132_1) = false →
  ((!(t88_2 == t95_2)) = true →
  K (VB false) h_15) ∧
  ((!(t88_2 == t95_2)) = false →
  callM P 16 #[(Sl.v t88_1), (Sl.v t95_1)] h_15 fun rv_12 h_16 => ∃ t143_1 : Bool, rv_12 = (VB t143_1) /\ Vars h_16 [(b_2, [(Sl.v t66_3)]), (b_1, [(Sl.v t66_1)])] ∧
  ((!t143_1) = true →
  K (VB false) h_16) ∧
  ((!t143_1) = false →
  ((!(t102_2 == t109_2)) = true →
  K (VB false) h_16) ∧
  ((!(t102_2 == t109_2)) = false →
  ((!(t102_1 == t109_1)) = true →
  K (VB false) h_16) ∧
  ((!(t102_1 == t109_1)) = false →
  ((!(t116_2 == t123_2)) = true →
  K (VB false) h_16) ∧
  ((!(t116_2 == t123_2)) = false →
  callM P 16 #[(Sl.v t116_1), (Sl.v t123_1)] h_16 fun rv_13 h_17 => ∃ t164_1 : Bool, rv_13 = (VB t164_1) /\ Vars h_17 [(b_2, [(Sl.v t66_3)]), (b_1, [(Sl.v t66_1)])] ∧
  ((!t164_1) = true →
  K (VB false) h_17) ∧
  ((!t164_1) = false →
  (t102_2 = true →
  ((!(t74_2 == t102_1)) = true →
  K (VB false) h_17) ∧
  ((!(t74_2 == t102_1)) = false →
  w3_1 P t74_2 t88_2 t74_1 h_17 t116_2 b_2 t66_3 b_1 t66_1 t66_2 t88_1 t116_1 more1_1 K)) ∧
  (t102_2 = false →
  ((!(t74_2 == false)) = true →
  K (VB false) h_17) ∧
  ((!(t74_2 == false)) = false →
  w3_1 P t74_2 t88_2 t74_1 h_17 t116_2 b_2 t66_3 b_1 t66_1 t66_2 t88_1 t116_1 more1_1 K)))))))))))
theorem x3 (code0_1 : Sl) (more1_1 : Sl) (h : Heap) (K : Value -> Heap -> Prop) (H : w3 Tryz.prog code0_1 more1_1 h K) : callM Tryz.prog 3 #[(Sl.v code0_1), (Sl.v more1_1)] h K := v3 code0_1 more1_1 h K H
theorem pop_shl' {P : Program} {t : TypeId} {K : Value -> Prop} (k : IntKind) (a b : Int) (hb : 0 ≤ b) (H : K (.int k (k.wrap (a * 2 ^ (min b.toNat k.bits))))) : pop P (binA .shl t (.int k a) (.int k b)) K :=
  .mk' (fun w => by simp [binA, eqGuard, binOp, Op.shift, show ¬ b < 0 by omega, bind, Sem.bind, pure, Sem.run]) H
theorem pop_or' {P : Program} {t : TypeId} {K : Value -> Prop} (k : IntKind) (a b : Int) (H : K (.int k (bits .or k a b))) : pop P (binA .or t (.int k a) (.int k b)) K :=
  .mk' (fun w => by simp [binA, eqGuard, binOp, intBits_or, bind, Sem.bind, pure, Sem.run]) H
def hasB (s q : Int) : Bool := decide ((s.fdiv (2 ^ (min q.toNat 64))).tmod 2 = 1)
def putB (s q : Int) : Int := bits .or .i64 s (IntKind.i64.wrap (1 * 2 ^ (min q.toNat 64)))
def allB : Bool := (List.range 256).all fun s => (List.range 8).all fun q => decide (0 ≤ putB s q) && decide (putB s q < 256) && (List.range 8).all fun r => hasB (putB s q) r == (hasB s r || decide (r = q))
theorem allB_t : allB = true := by kernel_rfl
theorem putB_spec {s q : Int} (s0 : 0 ≤ s) (s1 : s < 256) (q0 : 0 ≤ q) (q1 : q < 8) : 0 ≤ putB s q /\ putB s q < 256 /\ ∀ r : Nat, r < 8 -> hasB (putB s q) r = (hasB s r || decide ((r : Int) = q)) := by
  have h := allB_t
  unfold allB at h
  rw [List.all_eq_true] at h
  have h := h s.toNat (List.mem_range.2 (by omega))
  rw [List.all_eq_true] at h
  have h := h q.toNat (List.mem_range.2 (by omega))
  rw [show ((s.toNat : Nat) : Int) = s by omega, show ((q.toNat : Nat) : Int) = q by omega] at h
  simp only [Bool.and_eq_true, decide_eq_true_eq] at h
  refine ⟨h.1.1, h.1.2, fun r hr => ?_⟩
  have h2 := h.2
  rw [List.all_eq_true] at h2
  have h2 := h2 r (List.mem_range.2 hr)
  rw [beq_iff_eq] at h2
  rw [h2]
  congr 1
  by_cases e : r = q.toNat
  · rw [decide_eq_true e, decide_eq_true (by omega)]
  · rw [decide_eq_false e, decide_eq_false (by omega)]
structure SeenQ (cs : List (List Int)) (i j : Nat) (s : Int) : Prop where
  lo : 0 ≤ s
  hi : s < 256
  bit : ∀ r : Nat, r < 8 -> (hasB s r = true ↔ (∃ a, a < i /\ (r : Int) ∈ cs.getD a []) ∨ (r : Int) ∈ (cs.getD i []).take j)
theorem SeenQ.zero (cs : List (List Int)) : SeenQ cs 0 0 0 := ⟨by omega, by omega, fun r hr => by
  have : hasB 0 r = false := by unfold hasB; simp
  rw [this]
  constructor
  · intro h; cases h
  · rintro (⟨a, ha, _⟩ | h)
    · omega
    · simp at h⟩
theorem SeenQ.next {cs : List (List Int)} {i j : Nat} {s : Int} (H : SeenQ cs i j s) (hj : (cs.getD i []).length ≤ j) : SeenQ cs (i + 1) 0 s := ⟨H.lo, H.hi, fun r hr => by
  rw [H.bit r hr, List.take_of_length_le hj]
  constructor
  · rintro (⟨a, ha, hm⟩ | h)
    · exact .inl ⟨a, by omega, hm⟩
    · exact .inl ⟨i, by omega, h⟩
  · rintro (⟨a, ha, hm⟩ | h)
    · by_cases e : a = i
      · subst e; exact .inr hm
      · exact .inl ⟨a, by omega, hm⟩
    · simp at h⟩
theorem SeenQ.put {cs : List (List Int)} {i j : Nat} {s q : Int} (H : SeenQ cs i j s) (hj : j < (cs.getD i []).length) (hq : (cs.getD i [])[j] = q) (q0 : 0 ≤ q) (q1 : q < 8) : SeenQ cs i (j + 1) (putB s q) := by
  obtain ⟨a, b, c⟩ := putB_spec H.lo H.hi q0 q1
  refine ⟨a, b, fun r hr => ?_⟩
  rw [c r hr, Bool.or_eq_true, H.bit r hr, decide_eq_true_eq, List.take_succ_eq_append_getElem hj, List.mem_append, List.mem_singleton, hq, or_assoc]
theorem cyc_row {g S : List (List Int)} {sink : Int} (h : stackB g sink S = true) {i : Nat} (hi : i < (cycsP g S).length) : 0 < ((cycsP g S)[i]).length /\ (0 < i -> ((cycsP g S).getD (i - 1) []).getD 0 0 < ((cycsP g S)[i]).getD 0 0) ∧
    ∀ j (hj : j < ((cycsP g S)[i]).length), 0 ≤ ((cycsP g S)[i])[j] /\ ((cycsP g S)[i])[j] < (g.length : Int) /\ ((cycsP g S)[i]).getD 0 0 ≤ ((cycsP g S)[i])[j] /\ ((cycsP g S)[i])[j] ≠ sink /\ (S.getD (((cycsP g S)[i])[j]).toNat []).length ≠ 0 /\ sx g S ((cycsP g S)[i])[j] = ((cycsP g S)[i]).getD ((j + 1) % ((cycsP g S)[i]).length) 0 ∧
      ((cycsP g S)[i])[j] ∉ ((cycsP g S)[i]).take j /\ ∀ a, a < i -> ((cycsP g S)[i])[j] ∉ (cycsP g S).getD a [] := by
  have hm := List.getElem_mem hi
  obtain ⟨W, s0, s1, sz⟩ := stack_of h
  obtain ⟨p, k, hp, k1, k2, k3, k4, k5, k6, k7⟩ := cyc_orb hm
  have hd := cycL_heads g S g.length
  rw [List.pairwise_iff_getElem] at hd
  refine ⟨by omega, fun h0 => ?_, fun j hj => ?_⟩
  · rw [getD_get (show i - 1 < (cycsP g S).length by omega)]
    exact hd (i - 1) i (show i - 1 < (cycsP g S).length by omega) hi (by omega)
  · have top := cyP_top W (n := g.length) (p := (p : Int)) (by omega) (by omega) (((cycsP g S)[i])[j]) ((congrArg (fun l : List Int => ((cycsP g S)[i])[j] ∈ l) k6).mp (List.getElem_mem hj))
    have nd : ((cycsP g S)[i]).Nodup := by rw [k6]; exact cyP_nodup _ _ _
    have ej : ∀ m (hm : m < ((cycsP g S)[i]).length), ((cycsP g S)[i])[m] = itf (sx g S) p m := fun m hm => by
      have : ((cycsP g S)[i])[m]? = (orb (sx g S) p k)[m]? := congrArg (fun l : List Int => l[m]?) k3
      rw [List.getElem?_eq_getElem hm, List.getElem?_eq_getElem (by rw [orb_length]; omega)] at this
      rw [Option.some.inj this, orb_get]
    refine ⟨top.1, top.2.1, ?_, fun e => ?_, top.2.2, ?_, fun hx => ?_, fun a ha hx => ?_⟩
    · rw [k5, ej j hj]; exact k7 j (by omega)
    · rw [e] at top; exact top.2.2 sz
    · rw [ej j hj, k4]
      by_cases e : j + 1 = k
      · rw [e, Nat.mod_self, k5]
        show itf (sx g S) p (j + 1) = _
        rw [e, k2]
      · rw [Nat.mod_eq_of_lt (by omega), getD_getI (by omega), ej _ (by omega)]
        rfl
    · obtain ⟨m, hm', e⟩ := List.getElem_of_mem hx
      rw [List.length_take] at hm'
      rw [List.getElem_take] at e
      exact List.pairwise_iff_getElem.1 nd m j (by omega) hj (by omega) e
    · rw [getD_get (show a < (cycsP g S).length by omega)] at hx
      have e := cyc_same (List.getElem_mem (show a < (cycsP g S).length by omega)) hm hx (List.getElem_mem hj)
      have := hd a i (show a < (cycsP g S).length by omega) hi ha
      (try simp only at this)
      have e2 : (cycL g S g.length)[a]'(show a < (cycsP g S).length by omega) = (cycL g S g.length)[i]'hi := e
      rw [e2] at this
      omega
theorem cy_row {S1 S2 S3 : Nat -> Prop} {h : Heap} {g s t : Sl} {xss ls : List (List Int)} {p : Int} (G : RdR S1 h g xss) (R : RdR S2 h s ls) (hs : stackB xss p ls = true) {i : Int} (i0 : 0 ≤ i) (hi : i.toNat < (cycsP xss ls).length) (C : RdI S3 h t ((cycsP xss ls)[i.toNat])) {seen : Int} (hq : SeenQ (cycsP xss ls) i.toNat 0 seen) (b1 b2 n : Nat) (J : Nat -> Int -> Int -> Heap -> Prop) (K : Value -> Heap -> Prop)
    (HJ : ∀ sn, SeenQ (cycsP xss ls) (i.toNat + 1) 0 sn -> ∃ m : Nat, m < n /\ J m sn (w64 (i + 1)) h) : w3_3 Tryz.prog seen h b2 s b1 g t p n J i K := by
  unfold w3_3
  obtain ⟨W, s0, s1, sz⟩ := stack_of hs
  have gl := graph_len W.graph
  obtain ⟨c0, c1, c2⟩ := cyc_row hs hi
  have cn := C.len
  have ec : (cycsP xss ls).getD i.toNat [] = (cycsP xss ls)[i.toNat] := getD_get hi
  refine ⟨fun m2 sn j h' => h' = h /\ 0 ≤ j /\ j + m2 = (((cycsP xss ls)[i.toNat]).length : Int) /\ SeenQ (cycsP xss ls) i.toNat j.toNat sn, ⟨((cycsP xss ls)[i.toNat]).length, rfl, Int.le_refl _, by omega, hq⟩, ?_⟩
  rintro m2 sn j _ ⟨rfl, j0, j1, hq⟩ hL
  refine ⟨fun e => ?_, fun e => ?_⟩
  · have hj := C.lt e
    obtain ⟨q0, q1, q2, q3, q4, q5, q6, q7⟩ := c2 j.toNat (by omega)
    have nb : hasB sn (((cycsP xss ls)[i.toNat])[j.toNat]'(by omega)) = false := by
      rw [Bool.eq_false_iff]
      intro hh
      have := (hq.bit (((cycsP xss ls)[i.toNat])[j.toNat]'(by omega)).toNat (by omega)).1 (by rw [show (((((cycsP xss ls)[i.toNat])[j.toNat]'(by omega)).toNat : Nat) : Int) = ((cycsP xss ls)[i.toNat])[j.toNat]'(by omega) by omega]; exact hh)
      rw [show (((((cycsP xss ls)[i.toNat])[j.toNat]'(by omega)).toNat : Nat) : Int) = ((cycsP xss ls)[i.toNat])[j.toNat]'(by omega) by omega, ec] at this
      rcases this with ⟨a, ha, hm⟩ | hm
      · exact q7 a ha hm
      · exact q6 hm
    obtain ⟨hs1, hz, hm, m0, em⟩ := sx_some W q0 q1 q4
    obtain ⟨sq, cq, rq⟩ := R.get q0 (by omega)
    obtain ⟨gq, cg, rg⟩ := G.get q0 (by omega)
    have rql := rq.len
    have rgl := rg.len
    refine ⟨C.inb j0 hj, _, C.get j0 hj, C.inb (Int.le_refl _) (by omega), _, C.get (Int.le_refl _) (by omega), fun e1 => ?_, fun _ => ⟨fun e1 => ?_, fun _ => ?_⟩⟩
    · simp only [decide_eq_true_eq] at e1
      rw [getD_getI (by omega)] at q2
      have : ((0 : Int)).toNat = 0 := rfl
      simp only [this] at e1
      omega
    · simp only [decide_eq_true_eq] at e1
      exact absurd e1 q3
    refine pop_shr .i64 sn _ q0 ⟨_, rfl, fun e1 => ?_, fun _ => ?_⟩
    · have : hasB sn (((cycsP xss ls)[i.toNat])[j.toNat]'(by omega)) = true := e1
      rw [nb] at this; cases this
    refine ⟨R.inb q0 (by omega), sq, cq, fun e1 => ?_, fun _ => ?_⟩
    · simp only [decide_eq_true_eq] at e1; omega
    have hjm : ((j.toNat + 1) % ((cycsP xss ls)[i.toNat]).length : Nat) < ((cycsP xss ls)[i.toNat]).length := Nat.mod_lt _ c0
    have ejm : (w64 (j + 1)).tmod (t.n : Int) = (((j.toNat + 1) % ((cycsP xss ls)[i.toNat]).length : Nat) : Int) := by
      rw [w64_eq _ (by omega) (by have := maxLen_lt (RdV.big C); omega), cn, Int.tmod_eq_emod_of_nonneg (by omega), show j + 1 = ((j.toNat + 1 : Nat) : Int) by omega]
      exact (Int.natCast_emod _ _).symm
    refine ⟨G.inb q0 (by omega), gq, cg, R.inb q0 (by omega), sq, cq, rq.inb (Int.le_refl _) (by omega), _, rq.get (Int.le_refl _) (by omega), rg.inb m0 ?_, _, rg.get m0 ?_, by omega, C.inb (by rw [ejm]; omega) (by rw [ejm]; omega), _, C.get (by rw [ejm]; omega) (by rw [ejm]; omega), fun e1 => ?_, fun _ => ?_⟩
    · show (ls[(((cycsP xss ls)[i.toNat])[j.toNat]'(by omega)).toNat])[0] < _
      omega
    · show (ls[(((cycsP xss ls)[i.toNat])[j.toNat]'(by omega)).toNat])[0] < _
      omega
    · exfalso
      simp only [Bool.not_eq_true', decide_eq_false_iff_not] at e1
      refine e1 ?_
      rw [getD_getI hjm, em] at q5
      exact q5.trans (getElem_congr_idx (by rw [ejm]; omega))
    refine pop_shl' .i64 1 _ q0 ⟨_, rfl, pop_or' .i64 sn _ ⟨_, rfl, m2 - 1, by omega, rfl, ?_, ?_, ?_⟩⟩
    · rw [w64_eq _ (by omega) (by have := maxLen_lt (RdV.big C); omega)]; omega
    · rw [w64_eq _ (by omega) (by have := maxLen_lt (RdV.big C); omega)]; omega
    · rw [w64_eq _ (by omega) (by have := maxLen_lt (RdV.big C); omega), show (j + 1).toNat = j.toNat + 1 by omega]
      exact hq.put (by rw [ec]; omega) (by simp only [ec]) q0 (by omega)
  · have hj := C.ge e
    exact HJ sn (hq.next (by rw [ec]; omega))
theorem cy_rows {S1 S2 S3 : Nat -> Prop} {h : Heap} {g s t : Sl} {xss ls : List (List Int)} {p : Int} (G : RdR S1 h g xss) (R : RdR S2 h s ls) (hs : stackB xss p ls = true) (T : RdR S3 h t (cycsP xss ls)) {i : Int} (i0 : 0 ≤ i) (hi : i < ((cycsP xss ls).length : Int)) {seen : Int} (hq : SeenQ (cycsP xss ls) i.toNat 0 seen) (b1 b2 n : Nat) (J : Nat -> Int -> Int -> Heap -> Prop) (K : Value -> Heap -> Prop)
    (HJ : ∀ sn, SeenQ (cycsP xss ls) (i.toNat + 1) 0 sn -> ∃ m : Nat, m < n /\ J m sn (w64 (i + 1)) h) : w3_2 Tryz.prog t i h seen b2 s b1 g p n J K := by
  unfold w3_2
  obtain ⟨ti, ct, rt⟩ := T.get i0 hi
  have go := cy_row G R hs i0 (by omega) rt hq b1 b2 n J K HJ
  refine ⟨T.inb i0 hi, ti, ct, fun e => ?_, fun e => go⟩
  simp only [decide_eq_true_eq] at e
  have ew : w64 (i - 1) = i - 1 := w64_eq _ (by omega) (by have := maxLen_lt T.big; have := T.len; omega)
  obtain ⟨tp, cp, rp⟩ := T.get (i := i - 1) (by omega) (by omega)
  obtain ⟨c0, c1, _⟩ := cyc_row hs (show i.toNat < (cycsP xss ls).length by omega)
  obtain ⟨d0, _, _⟩ := cyc_row hs (show (i - 1).toNat < (cycsP xss ls).length by omega)
  have c1 := c1 (by omega)
  rw [ew]
  refine ⟨T.inb (by omega) (by omega), tp, cp, rp.inb (Int.le_refl _) (by omega), _, rp.get (Int.le_refl _) (by omega), rt.inb (Int.le_refl _) (by omega), _, rt.get (Int.le_refl _) (by omega), fun e1 => ?_, fun _ => go⟩
  exfalso
  simp only [decide_eq_true_eq] at e1
  rw [show i.toNat - 1 = (i - 1).toNat by omega, getD_get (show (i - 1).toNat < (cycsP xss ls).length by omega), getD_getI d0, getD_getI c0] at c1
  have : (0 : Int).toNat = 0 := rfl
  simp only [this] at e1
  omega
theorem pop_own {g S : List (List Int)} {sink q : Int} (h : (popCP g sink S q).2 = true) : stackB g sink S = true /\ 0 ≤ q /\ q < (g.length : Int) /\ (popCP g sink S q).1 = popP S (cyP (sx g S) g.length q) /\ q ∈ cyP (sx g S) g.length q /\ Cyc g S (cyP (sx g S) g.length q) := by
  unfold popCP at h ⊢
  split at h
  · rename_i h1
    rw [if_pos h1]
    rw [Bool.and_eq_true, Bool.and_eq_true] at h1
    have q1 := inR_iff.1 h1.2.2
    split at h
    · cases h
    · rename_i h2
      rw [if_neg h2]
      have hq : q ∈ cyP (sx g S) g.length q /\ Cyc g S (cyP (sx g S) g.length q) := by
        rcases cyP_cases (sx g S) g.length q with h3 | ⟨k, k1, k2, k3, k4, k5⟩
        · exact absurd h3 h2
        · rw [k5]
          refine ⟨mem_turnL.2 ?_, q, k, k1, q1.1, by omega, k3, fun x => ?_⟩
          · rw [orb, List.mem_map]; exact ⟨0, List.mem_range.2 (by omega), rfl⟩
          · rw [mem_turnL, orb, List.mem_map]
            simp [List.mem_range]
      exact ⟨h1.1, q1.1, by omega, rfl, hq.1, hq.2⟩
  · cases h
set_option maxHeartbeats 2000000 in
theorem cy_tail {h0 : Heap} {S1 : Nat -> Prop} {s1 : Sl} {x1 : List Value} (G1 : RdV S1 h0 1 s1 x1) (B1 : ∀ v, v ∈ x1 -> ∃ m : Int, v = Value.int .u8 m /\ 0 ≤ m /\ m ≤ 255) (J : Heap -> Prop) (HJ : ∀ h', J h' -> Fr No h0 h') (b2 : Nat) (u2 : Sl) (b1 : Nat) (u1 : Sl) {K : Value -> Heap -> Prop} (HK : ∀ h', Fr No h0 h' -> K (VB true) h') : w3_5 Tryz.prog J b2 u2 b1 u1 s1 K := by
  unfold w3_5
  intro h24 hJ hL24
  have f24 := HJ _ hJ
  refine k_DrawPopCycle (G1.no f24) B1 _ fun t u gs ls p q h25 G25 U25 f25 => ⟨t, p, u, q, rfl, hL24.of_no f25, fun b3 b4 h29 _ _ f29 hL29 => ?_⟩
  have f29 := f29.in_nil
  have G29 := G25.no f29
  have U29 := U25.no f29
  refine k_PopCycle G29 U29 p q _ fun a h30 o30 f30 => ⟨a, _, rfl, hL29.of_no f30, fun b5 h32 _ f32 hL32 => ?_⟩
  have f32 := f32.in_nil
  have f2932 := f30.no_trans f32
  refine k_spec_PopCycle (G29.no f2932) (U29.no f2932) p q _ fun a' h33 o33 f33 => ⟨a', _, rfl, hL32.of_no f33, fun e => by simp at e, fun _ => fun b6 h35 _ f35 hL35 => ?_⟩
  have f35 := f35.in_nil
  have f3335 := f33.no_trans f35
  have A35 := (OwR.rd o30).no (f32.no_trans f3335)
  have A35' := (OwR.rd o33).no f35
  refine k_wStacks A35 A35' rfl _ fun h36 f36 => ⟨_, rfl, hL35.of_no f36, fun e => by simp at e, fun _ => ⟨fun h' => Fr No h36 h', ⟨fun e => ?_, fun _ => Fr.refl _ _⟩, ?_⟩⟩
  · obtain ⟨hs, q0, q1, ep, hq, hC⟩ := pop_own e
    obtain ⟨W, s0, s1, sz⟩ := stack_of hs
    have gl := graph_len W.graph
    have G36 := G29.no (f2932.no_trans (f3335.no_trans f36))
    have U36 := U29.no (f2932.no_trans (f3335.no_trans f36))
    have A36 := A35.no f36
    rw [ep] at A36
    have gn := G36.len
    have ll := W.len
    have ec : cycsOfP gs p ls = (cycsP gs ls, true) := by unfold cycsOfP; rw [if_pos hs]
    refine k_CyclesOf G36 U36 p _ fun y h37 o37 f37 => ?_
    rw [ec] at o37 ⊢
    have o37 : OwX h37 (Iv h36.size h37.size) y (cycsP gs ls) := o37
    have Y := OwR.rd o37
    have yn := Y.len
    have G37 := G36.no f37
    have U37 := U36.no f37
    have A37 := A36.no f37
    refine ⟨y, _, rfl, (hL35.of_no f36).of_no f37, fun m own i h' => h' = h37 /\ 0 ≤ i /\ i + m = ((cycsP gs ls).length : Int) /\ ∃ oc : List Int, RdI (fun k => Iv h36.size h37.size k /\ k < h37.size) h37 own oc /\ ((oc = [] /\ ∀ c, c ∈ (cycsP gs ls).take i.toNat -> q ∉ c) ∨ (oc ∈ cycsP gs ls /\ q ∈ oc)), ⟨(cycsP gs ls).length, rfl, Int.le_refl _, by omega, [], RdV.nil _ _ _, .inl ⟨rfl, fun c hc => by simp at hc⟩⟩, ?_⟩
    rintro m own i hA ⟨rfl, i0, i1, oc, ro, ho⟩ hL38
    refine ⟨fun e1 => ?_, fun e1 => ?_⟩
    · have hi := Y.lt e1
      obtain ⟨ci, cc, rc⟩ := Y.get i0 hi
      refine ⟨Y.inb i0 hi, ci, cc, k_wHas rc q _ ⟨_, rfl, hL38, fun e2 => ?_, fun e2 => ?_⟩⟩
      · simp only [decide_eq_true_eq] at e2
        rw [Y.succ i0 hi]
        exact ⟨m - 1, by omega, rfl, by omega, by omega, _, rc, .inr ⟨List.getElem_mem _, e2⟩⟩
      · simp only [decide_eq_false_iff_not] at e2
        rw [Y.succ i0 hi]
        refine ⟨m - 1, by omega, rfl, by omega, by omega, oc, ro, ?_⟩
        rcases ho with ⟨h1, h2⟩ | h1
        · refine .inl ⟨h1, fun c hc => ?_⟩
          rw [take_snoc _ i0 hi, List.mem_append, List.mem_singleton] at hc
          rcases hc with hc | rfl
          · exact h2 c hc
          · exact e2
        · exact .inr h1
    · have hi := Y.ge e1
      refine ⟨fun e2 => by simp at e2, fun _ => ?_⟩
      obtain ⟨d, d1, d2⟩ := hC.listed2 W
      have ho : oc ∈ cycsP gs ls /\ q ∈ oc := by
        rcases ho with ⟨h1, h2⟩ | h1
        · rw [List.take_of_length_le (by omega)] at h2
          exact absurd ((d2 q).2 hq) (h2 d d1)
        · exact h1
      have eo : oc = d := cyc_same ho.1 d1 ho.2 ((d2 q).2 hq)
      have on := RdI.len ro
      have mo : ∀ x, x ∈ oc ↔ x ∈ cyP (sx gs ls) gs.length q := fun x => by rw [eo]; exact d2 x
      refine ⟨fun e2 => ?_, fun _ => ?_⟩
      · simp only [decide_eq_true_eq] at e2
        have : oc = [] := List.length_eq_zero_iff.1 (by omega)
        rw [this] at ho
        simp at ho
      have pl : (popP ls (cyP (sx gs ls) gs.length q)).length = ls.length := popP_length _ _
      refine ⟨fun m2 j h' => h' = hA /\ 0 ≤ j /\ j + m2 = (gs.length : Int), ⟨gs.length, rfl, Int.le_refl _, by omega⟩, ?_⟩
      rintro m2 j hB ⟨rfl, j0, j1⟩ hL40
      refine ⟨fun e2 => ?_, fun e2 => f37⟩
      have hj := G37.lt e2
      refine ⟨fun x h' => h' = hB /\ x = if j ∈ oc then 1 else 0, k_wHas ro j _ ⟨_, rfl, hL40, fun e3 => ?_, fun e3 => ?_⟩, ?_⟩
      · simp only [decide_eq_true_eq] at e3
        exact ⟨rfl, by rw [if_pos e3]⟩
      · simp only [decide_eq_false_iff_not] at e3
        exact ⟨rfl, by rw [if_neg e3]⟩
      rintro x _ ⟨rfl, hx⟩ hL42
      obtain ⟨x1, c1, r1⟩ := A37.get (i := j) j0 (by omega)
      obtain ⟨x2, c2, r2⟩ := U37.get (i := j) j0 (by omega)
      have n2 := RdI.len r2
      have x0 : 0 ≤ x := by rw [hx]; split <;> omega
      have x1' : x ≤ (x2.n : Int) := by
        rw [hx]
        split
        · rename_i hjo
          have := hC.top ((mo j).1 hjo)
          rw [getD_get (by omega)] at this
          omega
        · omega
      refine ⟨A37.inb j0 (by omega), x1, c1, U37.inb j0 (by omega), x2, c2, pop_cut_l rIs .i64 x0 x1' ⟨_, rfl, ?_⟩⟩
      have r3 := RdI.cut r2 (l := x.toNat) (m := x2.n) (by omega) (by omega)
      rw [List.take_of_length_le (by rw [List.length_drop]; omega)] at r3
      have eq1 : (popP ls (cyP (sx gs ls) gs.length q))[j.toNat]'(by omega) = (ls[j.toNat]'(by omega)).drop x.toNat := by
        rw [popP_get _ _ _ (by omega) (by omega), hx]
        by_cases hjo : j ∈ oc
        · rw [if_pos hjo, if_pos (by rw [show ((j.toNat : Nat) : Int) = j by omega]; exact (mo j).1 hjo)]
          rfl
        · rw [if_neg hjo, if_neg (by rw [show ((j.toNat : Nat) : Int) = j by omega]; exact fun hh => hjo ((mo j).2 hh))]
          rfl
      refine k_wSame r1 r3 _ ⟨_, rfl, hL42, c2, fun e5 => ?_, fun _ => ?_⟩
      · rw [decide_eq_true eq1] at e5; cases e5
      · rw [G37.succ j0 hj]
        exact ⟨m2 - 1, by omega, rfl, by omega, by omega⟩
  · intro h44 f44 hL44
    have F44 : Fr No h0 h44 := f24.no_trans (f25.no_trans (f29.no_trans (f2932.no_trans (f3335.no_trans (f36.no_trans f44)))))
    refine k_DrawRotorStacks (G1.no F44) B1 _ fun t w gs rs p n h45 G45 R45 f45 => ⟨t, p, w, n, rfl, hL44.of_no f45, fun b7 h47 _ f47 hL47 => ?_⟩
    have f47 := f47.in_nil
    have G47 := G45.no f47
    have R47 := R45.no f47
    refine k_RotorStacks G47 R47 p n _ fun a h48 o48 f48 => ⟨a, _, rfl, hL47.of_no f48, fun b8 h50 _ f50 hL50 => ?_⟩
    have f50 := f50.in_nil
    have f4850 := f48.no_trans f50
    refine k_spec_RotorStacks (G47.no f4850) (R47.no f4850) p n _ fun a' h51 o51 f51 => ⟨a', _, rfl, hL50.of_no f51, fun b9 h53 _ f53 hL53 => ?_⟩
    have f53 := f53.in_nil
    have f5153 := f51.no_trans f53
    have F53 : Fr No h0 h53 := F44.no_trans (f45.no_trans (f47.no_trans (f4850.no_trans f5153)))
    refine k_DrawStacksText (G1.no F53) B1 _ fun y ly h54 Y54 f54 => ⟨y, rfl, hL53.of_no f54, fun b10 h56 _ f56 hL56 => ?_⟩
    have f56 := f56.in_nil
    have Y56 := Y54.no f56
    refine k_StacksText Y56 _ fun h57 f57 => ⟨_, _, rfl, hL56.of_no f57, ?_⟩
    refine k_spec_StacksText (Y56.no f57) _ fun h58 f58 => ⟨_, _, rfl, (hL56.of_no f57).of_no f58, fun e => by simp at e, fun _ => ?_⟩
    have f5358 : Fr No h53 h58 := f54.no_trans (f56.no_trans (f57.no_trans f58))
    have f5158 := f5153.no_trans f5358
    have A58 := (OwR.rd o48).no (f50.no_trans f5158)
    have A58' := (OwR.rd o51).no (f53.no_trans f5358)
    refine k_wStacks A58 A58' rfl _ fun h59 f59 => ⟨_, rfl, ((hL56.of_no f57).of_no f58).of_no f59, fun e => by simp at e, fun _ => ⟨fun e => by simp at e, fun _ => ⟨fun e => by simp at e, fun _ => ⟨fun e => ?_, fun _ => ?_⟩⟩⟩⟩
    · have F58 : Fr No h0 h58 := F53.no_trans f5358
      have G59 := G47.no (f4850.no_trans (f5158.no_trans f59))
      refine k_AreStacks G59 (A58.no f59) p _ fun h60 f60 => ?_
      have es := rotP_stack e
      have er : arP gs p (rotsP gs p rs n).1 = (true, true) := by
        obtain ⟨W, s0, s1, sz⟩ := stack_of es
        unfold arP
        rw [W.graph, inR_iff.2 ⟨s0, by omega⟩, es]
        rfl
      rw [er]
      exact ⟨_, _, rfl, (((hL56.of_no f57).of_no f58).of_no f59).of_no f60, fun _ => HK h60 (F58.no_trans (f59.no_trans f60)), fun e2 => by cases e2⟩
    · exact HK h59 (F53.no_trans (f5358.no_trans f59))
theorem cy_mid {h0 h17 : Heap} {S1 A1 A2 A3 A4 A5 : Nat -> Prop} {s1 : Sl} {x1 : List Value} (G1 : RdV S1 h0 1 s1 x1) (B1 : ∀ v, v ∈ x1 -> ∃ m : Int, v = Value.int .u8 m /\ 0 ≤ m /\ m ≤ 255) (F17 : Fr No h0 h17) {g s y f t : Sl} {gs ls : List (List Int)} {p : Int} (G : RdR A1 h17 g gs) (R : RdR A2 h17 s ls) (Y : RdR A3 h17 y (cycsOfP gs p ls).1) (Q : RdI A4 h17 f (fcP gs p ls).1) (T : RdI A5 h17 t (topsOfP gs p ls).1) (b1 b2 : Nat) (hL : Vars h17 [(b2, [s.v]), (b1, [g.v])]) {K : Value -> Heap -> Prop} (HK : ∀ h', Fr No h0 h' -> K (VB true) h') : w3_1 Tryz.prog (cycsOfP gs p ls).2 (fcP gs p ls).2 y h17 (topsOfP gs p ls).2 b2 s b1 g p f t s1 K := by
  unfold w3_1
  have tail := fun J HJ => cy_tail (h0 := h17) (G1.no F17) B1 J HJ b2 s b1 g (K := K) fun h' f => HK h' (F17.no_trans f)
  by_cases hs : stackB gs p ls = true
  · have ec : cycsOfP gs p ls = (cycsP gs ls, true) := by unfold cycsOfP; rw [if_pos hs]
    have ef : (fcP gs p ls).2 = decide (0 < (cycsP gs ls).length) /\ ∀ c cs, cycsP gs ls = c :: cs -> (fcP gs p ls).1 = c := by
      unfold fcP
      rw [ec]
      cases cycsP gs ls with
      | nil => exact ⟨rfl, fun c cs e => by cases e⟩
      | cons c cs => exact ⟨by simp, fun c cs e => by cases e; rfl⟩
    rw [ec] at Y ⊢
    have Y : RdR A3 h17 y (cycsP gs ls) := Y
    have yn := Y.len
    obtain ⟨W, s0, s1', sz⟩ := stack_of hs
    have gl := graph_len W.graph
    have cl := cycL_len gs ls gs.length
    have lp : ∀ (L : Prop), (∀ (n : Nat) (sn i : Int) (h' : Heap), h' = h17 -> i = ((cycsP gs ls).length : Int) -> Vars h' [(b2, [s.v]), (b1, [g.v])] -> L) -> ∃ J : Nat -> Int -> Int -> Heap -> Prop, (∃ n0 : Nat, J n0 0 0 h17) /\ ∀ (n : Nat) (sn i : Int) (h' : Heap), J n sn i h' -> Vars h' [(b2, [s.v]), (b1, [g.v])] -> (decide (i < (y.n : Int)) = true -> w3_2 Tryz.prog y i h' sn b2 s b1 g p n J K) /\ (decide (i < (y.n : Int)) = false -> h' = h17 /\ i = ((cycsP gs ls).length : Int)) := fun L hL => by
      refine ⟨fun m sn i h' => h' = h17 /\ 0 ≤ i /\ i + m = ((cycsP gs ls).length : Int) /\ SeenQ (cycsP gs ls) i.toNat 0 sn, ⟨(cycsP gs ls).length, rfl, Int.le_refl _, by omega, SeenQ.zero _⟩, ?_⟩
      rintro n sn i hA ⟨rfl, i0, i1, hq⟩ hLA
      refine ⟨fun e => ?_, fun e => ⟨rfl, by have := Y.ge e; omega⟩⟩
      have hi := Y.lt e
      refine cy_rows G R hs Y i0 hi hq b1 b2 n _ K fun sn' hq' => ⟨n - 1, by omega, rfl, ?_, ?_, ?_⟩
      · rw [Y.succ i0 hi]; omega
      · rw [Y.succ i0 hi]; omega
      · rw [Y.succ i0 hi, show (i + 1).toNat = i.toNat + 1 by omega]; exact hq'
    obtain ⟨J, hJ0, hJ⟩ := lp True fun _ _ _ _ _ _ _ => trivial
    have one : ∀ h', h' = h17 -> (fcP gs p ls).2 = true -> InB y 0 /\ ∃ z : Sl, hcell h' (y.at 0 1) = some z.v /\ RdI A3 h' z (fcP gs p ls).1 := by
      rintro h' rfl e
      rw [ef.1] at e
      simp only [decide_eq_true_eq] at e
      obtain ⟨z, cz, rz⟩ := Y.get (i := 0) (Int.le_refl _) (by omega)
      refine ⟨Y.inb (Int.le_refl _) (by omega), z, cz, ?_⟩
      cases hc : cycsP gs ls with
      | nil => rw [hc] at e; simp at e
      | cons c cs =>
        rw [ef.2 c cs hc]
        have e2 : (cycsP gs ls)[(0 : Int).toNat]'(by omega) = c := by simp [hc]
        rw [e2] at rz
        exact rz
    refine ⟨fun _ => ⟨fun e => ?_, fun _ => ⟨fun ht => ⟨fun e => (by cases e), fun _ => ?_⟩, fun _ => ?_⟩⟩, fun e => by cases e⟩
    · rw [ef.1, yn] at e
      simp at e
    · refine ⟨fun h' => Fr No h17 h', ⟨J, hJ0, fun n sn i hA hJA hLA => ⟨fun e => (hJ n sn i hA hJA hLA).1 e, fun e => ?_⟩⟩, tail _ fun h' f => f⟩
      obtain ⟨rfl, ei⟩ := (hJ n sn i hA hJA hLA).2 e
      have four : w3_4 Tryz.prog y g p t hA b2 s b1 (fun h' => Fr No hA h') K := by
        unfold w3_4
        refine ⟨fun e2 => ?_, fun _ => Fr.refl _ _⟩
        simp only [decide_eq_true_eq] at e2
        have hn : (cycsP gs ls).length = 0 := by omega
        have et : topsOfP gs p ls = topsP p ls := by unfold topsOfP; rw [if_pos hs]
        rw [et] at T ht
        refine k_IsTree G T p _ fun h22 f22 => ?_
        have : isTreeP gs p (topsP p ls).1 = (true, true) := by
          unfold isTreeP
          rw [if_pos (tops_sinkr W s0 s1' ht), tops_tree W hn ht]
        rw [this]
        exact ⟨_, _, rfl, hLA.of_no f22, fun e => (by cases e), fun _ => ⟨fun e => (by cases e), fun _ => f22⟩⟩
      refine ⟨fun e2 => ?_, fun _ => four⟩
      obtain ⟨h1, z, cz, rz⟩ := one hA rfl e2
      exact ⟨h1, z, cz, k_wSame Q rz _ ⟨_, rfl, hLA, fun e => by simp at e, fun _ => four⟩⟩
    · refine ⟨fun h' => Fr No h17 h', ⟨J, hJ0, fun n sn i hA hJA hLA => ⟨fun e => (hJ n sn i hA hJA hLA).1 e, fun e => ?_⟩⟩, tail _ fun h' f => f⟩
      obtain ⟨rfl, ei⟩ := (hJ n sn i hA hJA hLA).2 e
      refine ⟨fun e2 => ?_, fun _ => Fr.refl _ _⟩
      obtain ⟨h1, z, cz, rz⟩ := one hA rfl e2
      exact ⟨h1, z, cz, k_wSame Q rz _ ⟨_, rfl, hLA, fun e => by simp at e, fun _ => Fr.refl _ _⟩⟩
  · have ec : cycsOfP gs p ls = ([], false) := by unfold cycsOfP; rw [if_neg hs]
    have ef : fcP gs p ls = ([], false) := by unfold fcP; rw [ec]
    have et : topsOfP gs p ls = ([], false) := by unfold topsOfP; rw [if_neg hs]
    rw [ec, ef, et]
    refine ⟨fun e => (by cases e), fun _ => ⟨fun e => (by cases e), fun _ => ⟨fun e => (by cases e), fun _ => ?_⟩⟩⟩
    unfold w3_6
    exact ⟨fun h' => Fr No h17 h', Fr.refl _ _, tail _ fun h' f => f⟩
theorem k_lawCyclesOnTop {h : Heap} {S0 S1 : Nat -> Prop} {s0 s1 : Sl} {x0 x1 : List Value} (G0 : RdV S0 h 1 s0 x0) (B0 : ∀ v, v ∈ x0 -> ∃ m : Int, v = Value.int .u8 m /\ 0 ≤ m /\ m ≤ 255) (G1 : RdV S1 h 1 s1 x1) (B1 : ∀ v, v ∈ x1 -> ∃ m : Int, v = Value.int .u8 m /\ 0 ≤ m /\ m ≤ 255) : Ret Tryz.prog 3 #[s0.v, s1.v] h (VB true) := by
  intro K HK
  refine x3 s0 s1 h K ?_
  unfold w3
  refine k_big s0 s1 h _ fun b0 => ⟨b0, rfl, .nil, fun _ => HK h (Fr.refl _ _), fun _ => ?_⟩
  refine k_DrawCyclesOf G0 B0 _ fun g s gs ls p h2 G2 R2 f2 => ⟨g, p, s, rfl, .nil, fun b1 b2 h6 _ _ f6 hL6 => ?_⟩
  have f6 := f6.in_nil
  have F6 := f2.no_trans f6
  have G6 := G2.no f6
  have R6 := R2.no f6
  refine k_CyclesOf G6 R6 p _ fun y h7 o7 f7 => ⟨y, _, rfl, hL6.of_no f7, ?_⟩
  refine k_spec_CyclesOf (G6.no f7) (R6.no f7) p _ fun y' h8 o8 f8 => ⟨y', _, rfl, (hL6.of_no f7).of_no f8, ?_⟩
  have f68 := f7.no_trans f8
  refine k_FirstCycle (G6.no f68) (R6.no f68) p _ fun q h9 o9 f9 => ⟨q, _, rfl, ((hL6.of_no f7).of_no f8).of_no f9, ?_⟩
  have f69 := f68.no_trans f9
  refine k_spec_FirstCycle (G6.no f69) (R6.no f69) p _ fun q' h10 o10 f10 => ⟨q', _, rfl, (((hL6.of_no f7).of_no f8).of_no f9).of_no f10, ?_⟩
  have f610 := f69.no_trans f10
  have hL10 := (((hL6.of_no f7).of_no f8).of_no f9).of_no f10
  refine k_AreStacks (G6.no f610) (R6.no f610) p _ fun h11 f11 => ⟨_, _, rfl, hL10.of_no f11, ?_⟩
  have f611 := f610.no_trans f11
  refine k_spec_AreStacks (G6.no f611) (R6.no f611) p _ fun h12 f12 => ⟨_, _, rfl, (hL10.of_no f11).of_no f12, ?_⟩
  have f612 := f611.no_trans f12
  have hL12 := (hL10.of_no f11).of_no f12
  refine k_TopsOf (G6.no f612) (R6.no f612) p _ fun t h13 o13 f13 => ⟨t, _, rfl, hL12.of_no f13, ?_⟩
  have f613 := f612.no_trans f13
  refine k_spec_TopsOf (G6.no f613) (R6.no f613) p _ fun t' h14 o14 f14 => ⟨t', _, rfl, (hL12.of_no f13).of_no f14, fun e => by simp at e, fun _ => ?_⟩
  have hL14 := (hL12.of_no f13).of_no f14
  have f1014 : Fr No h10 h14 := f11.no_trans (f12.no_trans (f13.no_trans f14))
  have f914 := f10.no_trans f1014
  have f814 := f9.no_trans f914
  have f714 := f8.no_trans f814
  have f614 := f7.no_trans f714
  have Y14 := (OwR.rd o7).no f714
  have Y14' := (OwR.rd o8).no f814
  refine k_wRows Y14 Y14' rfl _ ⟨_, rfl, hL14, fun e => by simp at e, fun _ => ⟨fun e => by simp at e, fun _ => ?_⟩⟩
  refine k_wSame (RdI.no o9 f914) (RdI.no o10 f1014) _ ⟨_, rfl, hL14, fun e => by simp at e, fun _ => ⟨fun e => by simp at e, fun _ => ⟨fun e => by simp at e, fun _ => ⟨fun e => by simp at e, fun _ => ?_⟩⟩⟩⟩
  have T14 : RdI _ h14 t _ := RdI.no o13.rdF f14
  have T14' : RdI _ h14 t' _ := o14.rdF
  have mid := cy_mid G1 B1 (F6.no_trans f614) (G6.no f614) (R6.no f614) Y14 (RdI.no o9 f914) T14 b1 b2 hL14 HK
  refine k_wSame T14 T14' _ ⟨_, rfl, hL14, fun e => by simp at e, fun _ => ⟨fun e => ⟨fun e2 => ?_, fun _ => mid⟩, fun e => ⟨fun e2 => ?_, fun _ => mid⟩⟩⟩
  · unfold arP at e e2
    unfold cycsOfP at e2
    split at e
    · rename_i h1
      rw [if_pos h1] at e2
      by_cases hs : stackB gs p ls = true
      · rw [if_pos hs, hs] at e2; cases e2
      · have hs' : stackB gs p ls = false := by simpa using hs
        rw [if_neg hs, hs'] at e2; cases e2
    · cases e
  · unfold arP at e
    split at e
    · cases e
    · rename_i h1
      unfold cycsOfP at e2
      rw [if_neg fun hs => h1 (by obtain ⟨W, s0, s1, _⟩ := stack_of hs; rw [W.graph, inR_iff.2 ⟨s0, by omega⟩]; rfl)] at e2
      cases e2
end Go.Proofs.YtkjkfjkapbpgiaaGreatDoor
