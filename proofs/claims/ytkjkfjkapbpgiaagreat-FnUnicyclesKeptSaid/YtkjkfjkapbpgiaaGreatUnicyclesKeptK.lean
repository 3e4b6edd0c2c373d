import Derived.Test.YtkjkfjkapbpgiaaGreatUnicyclesKeptK1
set_option linter.unusedVariables false
set_option linter.unusedSimpArgs false
namespace Go.Proofs.YtkjkfjkapbpgiaaGreat
open Go Go.Mx
theorem row_put2 {L : List (Nat × List Value)} {F : Nat -> Prop} {h : Heap} {s si : Sl} {xss : List (List Int)} {i : Int} (A : Heap -> Prop) (hA : ∀ h', Fr F h h' -> A h') (O : OwX h F s xss) (hF : ∀ k, h.size ≤ k -> F k) (h0 : 0 ≤ i) (h1 : i < (xss.length : Int)) (c0 : hcell h (s.at i 1) = some si.v) (hL : Vars h L) (hoff : ∀ p, p ∈ L -> ¬ F p.1) (hb : (xss[i.toNat]'(by omega)).length ≤ 1000000) (x : Int) (R : Heap -> Prop) (HR : ∀ h', OwX h' F s (xss.set i.toNat (xss[i.toNat]'(by omega) ++ [x])) -> Fr F h h' -> Vars h' L -> R h') : eop Tryz.prog (Instr.buildSlice tIs 1 #[(0, VI x)]) h fun rv h1 => ∃ t : Sl, rv = t.v /\ Vars h1 L /\ hcell h1 (s.at i 1) = some si.v /\ A h1 /\ A h1 /\ eop Tryz.prog (appS tIs tIs tIs si.v t.v) h1 fun rv2 h2 => ∃ t2 : Sl, rv2 = t2.v /\ Vars h2 L /\ A h2 /\ A h2 /\ InB s i /\ Writable h2 (s.at i 1) /\ Vars (hset h2 (s.at i 1) t2.v) L /\ ∀ h3, h3 = hset h2 (s.at i 1) t2.v -> Vars h3 L -> R h3 := by
 have Oi : OwX h (fun k => F k /\ k < h.size) s xss := O.mono fun k hk hk2 => ⟨hk2, hk⟩
 obtain ⟨sj, c1, c2, _⟩ := Oi.inner h0 h1
 have : sj = si := slv_inj (c1.symm.trans c0)
 subst this
 refine eop_lit rIs (fun k => h.size ≤ k) (fun _ h => h) 1 (by omega) [VI x] rfl rfl fun t h9 n9 c9 o9 f9 m9 _ => ⟨t, rfl, hL.of_no f9, hcell_fr c1 f9 (fun h => h), hA _ f9.of_no, hA _ f9.of_no, ?_⟩
 have s9 := f9.size
 have O9 := OwR.no Oi f9
 have c2' : OwI h9 F sj (xss[i.toNat]'(by omega)) := (Ow.no c2 f9).mono fun k _ hk => hk.1
 have on := c2'.rd.len
 have tn := o9.rd.len
 simp only [List.length_map, Nat.mul_one, List.length_cons, List.length_nil] at on tn
 refine eop_append rIs c2' (fun k hk => hF k (by omega)) o9.rd (plainVI [x]) (by omega) fun w h10 n10 o10 f10 d10 => ?_
 have g10 : Fr F h9 h10 := f10.mono fun k _ hk => (c2'.foot hk).1
 have V10 : Vars h10 L := (hL.of_no f9).fr g10 hoff
 have o10' : OwI h10 F w (xss[i.toNat]'(by omega) ++ [x]) := by rw [OwI, List.map_append]; exact o10
 obtain ⟨i11, w11, o11, f11⟩ := O9.outer2 h0 h1 (hcell_fr c1 f9 fun h => h) f10 (F' := F) o10' (fun k _ hk => hk.1) fun k hk => (d10 k hk).imp id fun hk2 hk3 => by have := hk3.2; omega
 have g11 : Fr F h10 _ := (O9.ownF f11).mono fun k _ hk => hk.1
 have V11 := V10.fr g11 hoff
 have a10 := hA _ (f9.of_no.trans g10)
 exact ⟨w, rfl, V10, a10, a10, i11, w11, V11, fun h3 e3 V3 => HR h3 (by rw [e3]; exact o11) (by rw [e3]; exact (f9.of_no.trans g10).trans g11) V3⟩
theorem RdR.tl {S : Nat -> Prop} {h : Heap} {s : Sl} {xss : List (List Int)} (H : RdR S h s xss) (h1 : 1 ≤ xss.length) : RdR S h (s.cut 1 1 s.n s.c) xss.tail := by
 obtain ⟨ss, e, V, R⟩ := H.out
 have sn := V.len
 simp only [List.length_map, Nat.mul_one] at sn
 have hc := RdV.cut V (l := 1) (m := s.n) (by omega) (Nat.le_refl _)
 have e2 : ((ss.map Sl.v).drop (1 * 1)).take ((s.n - 1) * 1) = ss.tail.map Sl.v := by
   cases ss with
   | nil => simp
   | cons x ss =>
     simp only [List.length_cons] at sn
     rw [show s.n - 1 = ss.length by omega]; simp [List.take_of_length_le]
 rw [e2] at hc
 refine ⟨ss.tail, by simp [e], hc, fun i a b => ?_⟩
 have := R (i + 1) (by simp at a; omega) (by simp at b; omega)
 simpa using this
theorem cycL_rows (n : Int) (both : Bool) : ∀ p r, r ∈ cycL' n both p -> r.length ≤ 2
 | 0, r, h => by cases h
 | p + 1, r, h => by
   rw [cycL', List.mem_append] at h
   rcases h with h | h
   · exact cycL_rows n both p r h
   · simp only [List.mem_cons, List.not_mem_nil, or_false] at h
     subst h
     unfold cycR
     cases both <;> simp
theorem rows_set {xss : List (List Int)} {B : Nat} (H : ∀ r, r ∈ xss -> r.length ≤ B) (i : Nat) (hi : i < xss.length) (x : Int) : ∀ r, r ∈ xss.set i (xss[i] ++ [x]) -> r.length ≤ B + 1 := fun r hr => by
 rcases List.mem_or_eq_of_mem_set hr with h | h
 · exact Nat.le_succ_of_le (H r h)
 · subst h
   have := H _ (List.getElem_mem hi)
   simp
   omega
theorem k_drbalanced {a n b : Nat} {h : Heap} {c : Sl} {i sd : Int} (V : IsVar h b [c.v, VI i, .int .u64 sd]) (hb : a ≤ b) (D : CurD a n h c i) (hn : n ≤ 1000000) (K : KQ) (HK : ∀ (t : Sl) (gs : List (List Int)) (i' sd' : Int) h', gs.length ≤ 9 -> RdR (fun k => h.size ≤ k) h' t gs -> IsVar h' b [c.v, VI i', .int .u64 sd'] -> CurD a (n + 500) h' c i' -> Fr (In [b]) h h' -> K (.agg #[t.v]) h') : callM Tryz.prog 139 #[VP b 0] h K := by
 have lb := V.lt
 refine v139 b c i sd h K (.cons V (by simp) .nil) fun b2 h1 hb2 f1 hL1 => ?_
 have f1 := f1.in_nil
 have z1 := f1.size
 have l2 : b2 < h1.size := hL1.head.lt
 have fin : ∀ (h' : Heap), Fr (fun k => k = b ∨ h.size ≤ k) h h' -> Fr (In [b]) h h' := fun h' f => f.mono fun k hk hk2 => by
   rcases hk2 with e | e
   · simp [In, e]
   · omega
 have inb : ∀ {x y : Heap}, Fr (In [b]) x y -> Fr (fun k => k = b ∨ h.size ≤ k) x y := fun f => f.mono fun k _ hk => .inl (by simpa [In] using hk)
 refine k_one hL1.tail.head hb (D.no f1) (by omega) 6 _ fun q i2 sd2 h2 V2 D2 f2 => ⟨c, i2, sd2, q, rfl, vcur hL1 1 rfl f2 V2, fun _ => ?_, fun _ => ?_⟩
 · have hL2 := vcur hL1 1 rfl f2 V2
   have z2 := f2.size
   refine k_drgraph9 hL2.tail.head hb D2 (by omega) _ fun t gs i3 sd3 h3 gl G3 V3 D3 f3 => ⟨c, i3, sd3, t, rfl, vcur hL2 1 rfl f3 V3, fun h4 f4 hL4 => ?_⟩
   have g4 : Fr (fun k => k = b ∨ h.size ≤ k) h3 h4 := f4.mono fun k _ hk => .inr (by simp [In] at hk; omega)
   exact HK t gs i3 sd3 h4 gl ((G3.fr f4 fun k hk hk2 => by simp [In] at hk2; omega).mono fun k hk => by omega) hL4.tail.head ((D3.fr f4 fun k hk hk2 => by simp [In] at hk2; omega).up (by omega)) (fin _ (((f1.of_no.trans (inb f2)).trans (inb f3)).trans g4))
 have hL2 := vcur hL1 1 rfl f2 V2
 have z2 := f2.size
 refine k_pick hL2.tail.head hb D2 (by omega) 5 _ fun y i5 sd5 h5 y0 y1 V5 D5 f5 => ⟨c, i5, sd5, y, rfl, vcur hL2 1 rfl f5 V5, ?_⟩
 have y1 := y1 (by omega)
 have hL5 := vcur hL2 1 rfl f5 V5
 have z5 := f5.size
 refine k_one hL5.tail.head hb D5 (by omega) 2 _ fun q2 i6 sd6 h6 V6 D6 f6 => ⟨c, i6, sd6, q2, rfl, vcur hL5 1 rfl f6 V6, ?_⟩
 have hL6 := vcur hL5 1 rfl f6 V6
 have z6 := f6.size
 rw [w64_eq (1 + y) (by omega) (by omega)]
 obtain ⟨N, eN⟩ : ∃ N : Nat, 1 + y = (N : Int) := ⟨(1 + y).toNat, by omega⟩
 rw [eN]
 refine k_grCycle N (by omega) q2 _ fun t h7 o7 f7 => ⟨t, rfl, hL6.of_no f7, fun b3 h9 hb3 f9 hL9 => ?_⟩
 have f9 := f9.in_nil
 have z7 := f7.size
 have z9 := f9.size
 have l3 : b3 < h9.size := hL9.head.lt
 generalize hF : (fun k => (h6.size ≤ k /\ k < h7.size) ∨ h9.size ≤ k) = F
 have F1 : ∀ k, F k -> h6.size ≤ k := fun k hk => by rw [← hF] at hk; rcases hk with a | a <;> omega
 have F2 : ∀ k, h9.size ≤ k -> F k := fun k hk => by rw [← hF]; exact .inr hk
 have F3 : ¬ F b3 := fun hk => by rw [← hF] at hk; rcases hk with a | a <;> omega
 have o9 : OwX h9 F t (cycP N q2) := (OwR.no o7 f9).mono fun k hk hk2 => by rw [← hF]; exact .inl hk2
 have gb : ∀ {X Y : Heap} {w : Sl} {zs : List (List Int)}, OwX X F w zs -> Fr (In [b]) X Y -> OwX Y F w zs := fun O f => OwR.fr O f fun k hk hk2 hk3 => by simp [In] at hk3; have := F1 _ hk2; omega
 have fT : ∀ {x y : Heap}, Fr F x y -> Fr (fun k => k = b ∨ h.size ≤ k) x y := fun f => f.mono fun k _ hk => .inr (by have := F1 _ hk; omega)
 have f09 : Fr (fun k => k = b ∨ h.size ≤ k) h h9 := (((f1.of_no.trans (inb f2)).trans (inb f5)).trans (inb f6)).trans (f7.of_no.trans f9.of_no)
 refine k_pick hL9.tail.tail.head hb ((D6.no f7).no f9) (by omega) 3 _ fun k i10 sd10 h10 k0 k1 V10 D10 f10 => ⟨c, i10, sd10, k, rfl, vcur hL9 2 rfl f10 V10, ?_⟩
 have k1 := k1 (by omega)
 have z10 := f10.size
 refine ⟨fun m k d i' sd' h' => d = c /\ m = k.toNat /\ 0 ≤ k /\ k ≤ 2 /\ CurD a (n + 50 + 210 * (2 - k).toNat) h' c i' /\ (∃ xss, OwX h' F t xss /\ xss.length = N /\ ∀ r, r ∈ xss -> r.length ≤ 2 + 5 * (2 - k).toNat) /\ Fr (fun k => k = b ∨ h.size ≤ k) h h' /\ h9.size ≤ h'.size, ⟨k.toNat, rfl, rfl, k0, by omega, D10.up (by omega), ⟨_, gb o9 f10, cycL_length _ _ _, fun r hr => by have := cycL_rows _ _ _ r hr; omega⟩, f09.trans (inb f10), by omega⟩, ?_⟩
 rintro m k d i11 sd11 h11 ⟨rfl, em, kk0, k2, D11, ⟨xss, o11, e11, r11⟩, f11, z11⟩ hL11
 refine ⟨fun e => ?_, fun e h18 f18 hL18 => ?_⟩
 · simp only [decide_eq_true_eq] at e
   refine k_shufB hL11.tail.tail.head hb D11 (by omega) (m := N) (by omega) _ fun w os i12 sd12 h12 O12 e12 A12 V12 D12 f12 => ⟨d, i12, sd12, w, rfl, vcur hL11 2 rfl f12 V12, ?_⟩
   have hL12 := vcur hL11 2 rfl f12 V12
   have z12 := f12.size
   refine k_pick hL12.tail.tail.head hb D12 (by omega) N _ fun y3 i13 sd13 h13 u0 u1 V13 D13 f13 => ⟨d, i13, sd13, y3, rfl, vcur hL12 2 rfl f13 V13, ?_⟩
   have u1 := u1 (by omega)
   have hL13 := vcur hL12 2 rfl f13 V13
   have z13 := f13.size
   have W13 : RdI (fun k => h11.size ≤ k /\ k < h13.size) h13 w os := by
     have : OwI h13 (fun k => h11.size ≤ k) w os := Ow.fr O12 f13 fun k hk hk2 => by have := (O12.foot hk).1; simp [In] at hk2; omega
     exact (this.mono (F' := fun k => h11.size ≤ k /\ k < h13.size) fun k hk hk2 => ⟨hk2, (this.foot hk).2⟩).rdF
   have o13 : OwX h13 F t xss := gb (gb o11 f12) f13
   have sep : ∀ k, F k /\ k < h11.size ∨ h13.size ≤ k -> F k := fun k hk => by
     rcases hk with hk | hk
     · exact hk.1
     · exact F2 _ (by omega)
   have o13' : OwX h13 (fun k => F k /\ k < h11.size ∨ h13.size ≤ k) t xss := by
     have q1 : OwX h11 (fun k => F k /\ k < h11.size) t xss := o11.mono fun k hk hk2 => ⟨hk2, hk⟩
     have q2 : OwX h12 (fun k => F k /\ k < h11.size) t xss := OwR.fr q1 f12 fun k hk hk2 hk3 => by simp [In] at hk3; have := F1 _ hk2.1; omega
     have q3 : OwX h13 (fun k => F k /\ k < h11.size) t xss := OwR.fr q2 f13 fun k hk hk2 hk3 => by simp [In] at hk3; have := F1 _ hk2.1; omega
     exact q3.mono fun k hk hk2 => .inl hk2
   rw [w64_eq (1 + y3) (by omega) (by omega)]
   refine ⟨fun m2 j h' => 0 ≤ j /\ j ≤ 1 + y3 /\ m2 = (1 + y3 - j).toNat /\ CurD a (n + 50 + 210 * (2 - k).toNat + 202) h' d i13 /\ RdI (fun k => h11.size ≤ k /\ k < h13.size) h' w os /\ (∃ zss, OwX h' (fun k => F k /\ k < h11.size ∨ h13.size ≤ k) t zss /\ zss.length = N /\ ∀ r, r ∈ zss -> r.length ≤ 2 + 5 * (2 - k).toNat + j.toNat) /\ Fr (fun k => k = b ∨ h.size ≤ k) h h' /\ h13.size ≤ h'.size, ⟨(1 + y3).toNat, by omega, by omega, by omega, D13.up (by omega), W13, ⟨xss, o13', e11, fun r hr => by have := r11 r hr; omega⟩, (f11.trans (inb f12)).trans (inb f13), by omega⟩, ?_⟩
   rintro m2 j h14 ⟨j0, j1, em2, D14, W14, ⟨zss, o14, e14, r14⟩, f14, z14⟩ hL14
   refine ⟨fun e2 => ?_, fun e2 => ?_⟩
   · simp only [decide_eq_true_eq] at e2
     rw [w64_eq (j + 1) (by omega) (by omega)]
     have mo0 : 0 ≤ (j + 1).tmod (1 + y3) := Int.tmod_nonneg _ (by omega)
     have mo1 : (j + 1).tmod (1 + y3) < 1 + y3 := Int.tmod_lt_of_pos _ (by omega)
     have aj := A12.get (show j.toNat < os.length by omega)
     generalize hpj : (os[j.toNat]'(by omega)) = pj at aj
     obtain ⟨aj0, aj1⟩ := aj
     have cj : hcell h14 (w.at j 1) = some (VI pj) := by rw [W14.get j0 (by omega), hpj]
     obtain ⟨si, c1, _⟩ := OwR.inner o14 aj0 (show pj < (zss.length : Int) by omega)
     have r14' := OwR.rd o14
     refine ⟨W14.inb j0 (by omega), pj, cj, W14.inb j0 (by omega), pj, cj, r14'.inb aj0 (by omega), si, c1, by omega, W14.inb mo0 (by omega), _, W14.get mo0 (by omega), ?_⟩
     have hin : ∀ h', Fr (fun k => F k /\ k < h11.size ∨ h13.size ≤ k) h14 h' -> RdI (fun k => h11.size ≤ k /\ k < h13.size) h' w os := fun h' f => W14.fr f fun k hk hk2 => by rcases hk2 with hk2 | hk2 <;> omega
     refine row_put2 (A := fun x => hcell x (w.at j 1) = some (VI pj)) (fun h' f => by rw [(hin h' f).get j0 (by omega), hpj]) o14 (fun k hk => .inr (by omega)) aj0 (by omega) c1 hL14 (fun p hp hk => ?_) (by have := r14 _ (List.getElem_mem (show pj.toNat < zss.length by omega)); omega) _ _ fun h17 o17 f17 V17 => ?_
     · have := sep _ hk
       simp only [List.mem_cons, List.not_mem_nil, or_false] at hp
       rcases hp with rfl | rfl | rfl
       · exact F3 this
       · have := F1 _ this; simp only at this; omega
       · have := F1 _ this; simp only at this; omega
     have z17 := f17.size
     refine ⟨m2 - 1, by omega, by omega, by omega, by omega, D14.fr f17 fun k hk hk2 => ?_, hin _ f17, ⟨_, o17, by simp [e14], fun r hr => ?_⟩, f14.trans (f17.mono fun k _ hk => .inr ?_), by omega⟩
     · have := F1 _ (sep _ hk2); omega
     · have := rows_set r14 _ (show pj.toNat < zss.length by omega) _ r hr
       omega
     · have := F1 _ (sep _ hk); omega
   · simp only [decide_eq_false_iff_not] at e2
     rw [w64_eq (k - 1) (by omega) (by omega)]
     exact ⟨m - 1, by omega, rfl, by omega, by omega, by omega, D14.up (by omega), ⟨zss, o14.mono fun k _ hk => sep k hk, e14, fun r hr => by have := r14 r hr; omega⟩, f14, by omega⟩
 · have g18 : Fr (fun k => k = b ∨ h.size ≤ k) h11 h18 := f18.mono fun k _ hk => .inr (by simp [In] at hk; omega)
   have o18 : OwX h18 F t xss := OwR.fr o11 f18 fun k hk hk2 hk3 => by simp [In] at hk3; subst hk3; have := F1 _ hk2; omega
   simp only [decide_eq_false_iff_not] at e
   exact HK t xss i11 sd11 h18 (by omega) ((OwR.rd o18).mono fun k hk => by have := F1 _ hk.1; omega) hL18.tail.tail.head ((D11.fr f18 fun k hk hk2 => by simp [In] at hk2; omega).up (by omega)) (fin _ (f11.trans g18))
theorem k_drsinking {a n b : Nat} {h : Heap} {c : Sl} {i sd : Int} (V : IsVar h b [c.v, VI i, .int .u64 sd]) (hb : a ≤ b) (D : CurD a n h c i) (hn : n ≤ 100000) (K : KQ) (HK : ∀ (t : Sl) (gs : List (List Int)) (p i' sd' : Int) h', gs.length ≤ 9 -> RdR (fun k => h.size ≤ k) h' t gs -> IsVar h' b [c.v, VI i', .int .u64 sd'] -> CurD a (n + 710) h' c i' -> Fr (In [b]) h h' -> K (.tuple #[.agg #[t.v], VI p]) h') : callM Tryz.prog 105 #[VP b 0] h K := by
 have lb := V.lt
 refine v105 b c i sd h K (.cons V (by simp) .nil) fun b2 h1 hb2 f1 hL1 => ?_
 have f1 := f1.in_nil
 have z1 := f1.size
 have l2 : b2 < h1.size := hL1.head.lt
 have fin : ∀ (h' : Heap), Fr (fun k => k = b ∨ h.size ≤ k) h h' -> Fr (In [b]) h h' := fun h' f => f.mono fun k hk hk2 => by
   rcases hk2 with e | e
   · simp [In, e]
   · omega
 have inb : ∀ {x y : Heap}, Fr (In [b]) x y -> Fr (fun k => k = b ∨ h.size ≤ k) x y := fun f => f.mono fun k _ hk => .inl (by simpa [In] using hk)
 refine k_drgraph9 hL1.tail.head hb (D.no f1) (by omega) _ fun t gs i2 sd2 h2 gl G2 V2 D2 f2 => ⟨c, i2, sd2, t, rfl, vcur hL1 1 rfl f2 V2, fun b3 h4 hb3 f4 hL4 => ?_⟩
 have f4 := f4.in_nil
 have z2 := f2.size
 have z4 := f4.size
 have l3 : b3 < h4.size := hL4.head.lt
 have G4 : RdR (fun k => h.size ≤ k /\ k ≠ b2 /\ k ≠ b3 /\ k ≠ b) h4 t gs := (G2.lowS.no f4).mono fun k hk => by omega
 have f04 : Fr (fun k => k = b ∨ h.size ≤ k) h h4 := (f1.of_no.trans (inb f2)).trans f4.of_no
 refine ⟨fun x d i' sd' h' => d = c /\ CurD a (n + 704) h' c i' /\ (∃ gs, gs.length ≤ 9 /\ RdR (fun k => h.size ≤ k /\ k ≠ b2 /\ k ≠ b3 /\ k ≠ b) h' x gs) /\ Fr (fun k => k = b ∨ h.size ≤ k) h h' /\ h4.size ≤ h'.size, ?_, ?_⟩
 · refine k_one hL4.tail.tail.head hb (D2.no f4) (by omega) 3 _ fun q i5 sd5 h5 V5 D5 f5 => ⟨c, i5, sd5, q, rfl, vcur hL4 2 rfl f5 V5, fun _ => ?_, fun _ => ?_⟩
   · have hL5 := vcur hL4 2 rfl f5 V5
     have z5 := f5.size
     refine k_drbalanced hL5.tail.tail.head hb D5 (by omega) _ fun t6 gs6 i6 sd6 h6 gl6 G6 V6 D6 f6 => ⟨c, i6, sd6, t6, rfl, vcur hL5 2 rfl f6 V6, fun h7 f7 hL7 => ?_⟩
     have z6 := f6.size
     refine ⟨rfl, (D6.fr f7 fun k hk hk2 => by simp [In] at hk2; omega).up (by omega), ⟨gs6, gl6, (G6.fr f7 fun k hk hk2 => by simp [In] at hk2; omega).mono fun k hk => by omega⟩, ((f04.trans (inb f5)).trans (inb f6)).trans (f7.mono fun k _ hk => .inr (by simp [In] at hk; omega)), by have := f7.size; omega⟩
   · exact ⟨rfl, D5.up (by omega), ⟨gs, gl, G4.fr f5 fun k hk hk2 => by simp [In] at hk2; omega⟩, f04.trans (inb f5), f5.size⟩
 rintro x d i8 sd8 h8 ⟨rfl, D8, ⟨gs8, gl8, G8⟩, f8, z8⟩ hL8
 refine k_drplace hL8.tail.tail.head hb D8 (by omega) x _ fun p i9 sd9 h9 V9 D9 f9 => ⟨d, i9, sd9, p, rfl, vcur hL8 2 rfl f9 V9, fun h10 f10 hL10 => ?_⟩
 have z9 := f9.size
 have G10 : RdR (fun k => h.size ≤ k /\ k ≠ b2 /\ k ≠ b3 /\ k ≠ b) h10 x gs8 := (G8.fr f9 fun k hk hk2 => by simp [In] at hk2; omega).fr f10 fun k hk hk2 => by simp [In] at hk2; omega
 exact HK x gs8 p i9 sd9 h10 gl8 (G10.mono fun k hk => hk.1) hL10.tail.tail.head ((D9.fr f10 fun k hk hk2 => by simp [In] at hk2; omega).up (by omega)) (fin _ ((f8.trans (inb f9)).trans (f10.mono fun k _ hk => .inr (by simp [In] at hk; omega))))
theorem k_drwalk {a n b : Nat} {h : Heap} {c : Sl} {i sd : Int} (V : IsVar h b [c.v, VI i, .int .u64 sd]) (hb : a ≤ b) (D : CurD a n h c i) (hn : n ≤ 100000) (K : KQ) (HK : ∀ (t w : Sl) (gs : List (List Int)) (rs : List Int) (p i' sd' : Int) h', gs.length ≤ 9 -> RdR (fun k => h.size ≤ k) h' t gs -> RdI (fun k => h.size ≤ k) h' w rs -> IsVar h' b [c.v, VI i', .int .u64 sd'] -> CurD a (n + 300) h' c i' -> Fr (In [b]) h h' -> K (.tuple #[.agg #[t.v], .agg #[w.v, VI p]]) h') : callM Tryz.prog 148 #[VP b 0] h K := by
 have lb := V.lt
 refine v148 b c i sd h K (.cons V (by simp) .nil) fun b2 b3 h2 hb2 hb3 f2 hL2 => ?_
 have f2 := f2.in_nil
 have z2 := f2.size
 have l3 : b3 < h2.size := hL2.head.lt
 have l2 : b2 < h2.size := hL2.tail.head.lt
 have fin : ∀ (h' : Heap), Fr (fun k => k = b ∨ h.size ≤ k) h h' -> Fr (In [b]) h h' := fun h' f => f.mono fun k hk hk2 => by
   rcases hk2 with e | e
   · simp [In, e]
   · omega
 have inb : ∀ {x y : Heap}, Fr (In [b]) x y -> Fr (fun k => k = b ∨ h.size ≤ k) x y := fun f => f.mono fun k _ hk => .inl (by simpa [In] using hk)
 refine k_drgraph9 hL2.tail.tail.head hb (D.no f2) (by omega) _ fun t gs i3 sd3 h3 gl G3 V3 D3 f3 => ⟨c, i3, sd3, t, rfl, vcur hL2 2 rfl f3 V3, fun b4 h5 hb4 f5 hL5 => ?_⟩
 have f5 := f5.in_nil
 have z3 := f3.size
 have z5 := f5.size
 have l4 : b4 < h5.size := hL5.head.lt
 have G5 : RdR (fun k => h2.size ≤ k /\ k < h3.size) h5 t gs := G3.lowS.no f5
 have f05 : Fr (fun k => k = b ∨ h.size ≤ k) h h5 := (f2.of_no.trans (inb f3)).trans f5.of_no
 refine k_spec_grGood G5 _ fun h6 f6 => ⟨_, rfl, hL5.of_no f6, fun e h8 f8 hL8 => ?_, fun e => ?_⟩
 · have z6 := f6.size
   have off : ∀ k, (h2.size ≤ k /\ k < h3.size) -> ¬ In [b3, b2] k := fun k hk hk2 => by
     simp only [In, List.mem_cons, List.not_mem_nil, or_false] at hk2
     omega
   exact HK t nilSl gs [] 0 i3 sd3 h8 gl (((G5.no f6).fr f8 off).mono fun k hk => by omega) (RdV.nil _ _ _) hL8.tail.tail.tail.head (((((D3.no f5).no f6).fr f8 fun k hk hk2 => by simp only [In, List.mem_cons, List.not_mem_nil, or_false] at hk2; omega)).up (by omega)) (fin _ ((f05.trans f6.of_no).trans (f8.mono fun k _ hk => .inr (by simp only [In, List.mem_cons, List.not_mem_nil, or_false] at hk; omega))))
 have z6 := f6.size
 have hL6 := hL5.of_no f6
 refine k_sureWalk hL6.tail.tail.tail.head hb ((D3.no f5).no f6) (by omega) (G5.no f6) (fun hk => by omega) (by omega) _ fun w rs p i9 sd9 h9 o9 n9 V9 D9 f9 => ⟨c, i9, sd9, w, p, rfl, vcur hL6 3 rfl f9 V9, fun b5 h11 hb5 f11 hL11 => ?_⟩
 have f11 := f11.in_nil
 have z9 := f9.size
 have z11 := f11.size
 have l5 : b5 < h11.size := hL11.head.lt
 have f011 : Fr (fun k => k = b ∨ h.size ≤ k) h h11 := ((f05.trans f6.of_no).trans (inb f9)).trans f11.of_no
 generalize hF : (fun k => Iv h6.size h9.size k ∨ h11.size ≤ k) = F
 have F1 : ∀ k, F k -> h6.size ≤ k /\ k ≠ b5 := fun k hk => by rw [← hF] at hk; rcases hk with hk | hk; have a1 := hk.1; have a2 := hk.2; omega; omega
 have F2 : ∀ k, h11.size ≤ k -> F k := fun k hk => by rw [← hF]; exact .inr hk
 have o11 : OwI h11 F w rs := (Ow.no o9 f11).mono fun k _ hk => by rw [← hF]; exact .inl hk
 have wn := RdI.len o9.rdF
 have tn := G5.len
 have G11 : RdR (fun k => h2.size ≤ k /\ k < h3.size) h11 t gs := (((G5.no f6).fr f9 fun k hk hk2 => by simp [In] at hk2; omega)).no f11
 have ob : ∀ {X Y : Heap} {x : Sl} {zs : List Int}, OwI X F x zs -> Fr (In [b]) X Y -> OwI Y F x zs := fun O f => Ow.fr O f fun k hk hk2 => by have := F1 _ (O.foot hk).1; simp [In] at hk2; omega
 have oG : ∀ {X Y : Heap}, RdR (fun k => h2.size ≤ k /\ k < h3.size) X t gs -> Fr (In [b]) X Y -> RdR (fun k => h2.size ≤ k /\ k < h3.size) Y t gs := fun G f => G.fr f fun k hk hk2 => by simp [In] at hk2; omega
 have oF : ∀ {X Y : Heap}, RdR (fun k => h2.size ≤ k /\ k < h3.size) X t gs -> Fr F X Y -> RdR (fun k => h2.size ≤ k /\ k < h3.size) Y t gs := fun G f => G.fr f fun k hk hk2 => by have := F1 _ hk2; omega
 have uF : ∀ {X Y : Heap}, Fr F X Y -> Fr (fun k => k = b ∨ h.size ≤ k) X Y := fun f => f.mono fun k _ hk => .inr (by have := F1 _ hk; omega)
 have dF : ∀ {X Y : Heap} {m : Nat} {q : Int}, CurD a m X c q -> Fr F X Y -> CurD a m Y c q := fun D f => D.fr f fun k hk hk2 => by have := F1 _ hk2; omega
 have off : ∀ A B C E G (r : Nat × List Value), r ∈ [(b5, A), (b4, B), (b3, C), (b2, E), (b, G)] -> ¬ F r.1 := fun A B C E G r hr hk => by
   have := F1 _ hk
   simp only [List.mem_cons, List.not_mem_nil, or_false] at hr
   rcases hr with rfl | rfl | rfl | rfl | rfl <;> simp only at this <;> omega
 refine ⟨fun x q d i' sd' h' => d = c /\ CurD a (n + 250) h' c i' /\ RdR (fun k => h2.size ≤ k /\ k < h3.size) h' t gs /\ (∃ rs, RdI (fun k => h6.size ≤ k /\ k ≠ b5) h' x rs) /\ Fr (fun k => k = b ∨ h.size ≤ k) h h' /\ h11.size ≤ h'.size, ?_, ?_⟩
 · refine k_pick hL11.tail.tail.tail.tail.head hb (D9.no f11) (by omega) 16 _ fun y i12 sd12 h12 y0 y1 V12 D12 f12 => ⟨c, i12, sd12, y, rfl, vcur hL11 4 rfl f12 V12, fun _ => ?_, fun _ => ⟨fun _ => ⟨?_, ?_⟩, fun _ => ⟨fun _ => ?_, fun _ => ?_⟩⟩⟩
   · have hL12 := vcur hL11 4 rfl f12 V12
     have z12 := f12.size
     refine eop_lit rIs (fun k => h12.size ≤ k) (fun _ h => h) 3 (by omega) [VI (-1), VI (t.n : Int), VI 4611686018427387904] rfl rfl fun u h13 n13 c13 o13 f13 m13 _ => ⟨u, rfl, hL12.of_no f13, ?_⟩
     have r13 : RdI (fun k => h12.size ≤ k) h13 u [-1, (t.n : Int), 4611686018427387904] := o13.rdF
     refine k_among (hL12.of_no f13).tail.tail.tail.tail.head hb (D12.no f13) (by omega) r13 (by omega) (by simp) _ fun v i14 sd14 h14 hv V14 D14 f14 => ⟨c, i14, sd14, v, rfl, vcur (hL12.of_no f13) 4 rfl f14 V14, fun h15 f15 hL15 => ?_⟩
     have z13 := f13.size
     have z14 := f14.size
     have z15 := f15.size
     have oo : OwI h14 F w rs := ob (Ow.no (ob o11 f12) f13) f14
     exact ⟨rfl, (D14.fr f15 fun k hk hk2 => by simp [In] at hk2; omega).up (by omega), (oG ((oG G11 f12).no f13) f14).fr f15 fun k hk hk2 => by simp [In] at hk2; omega, ⟨rs, ((show RdI F h14 w rs from oo.rdF).mono fun k hk => F1 k hk).fr f15 fun k hk hk2 => by simp [In] at hk2; omega⟩, (((f011.trans (inb f12)).trans f13.of_no).trans (inb f14)).trans (f15.mono fun k _ hk => .inr (by simp [In] at hk; omega)), by omega⟩
   · have hL12 := vcur hL11 4 rfl f12 V12
     have z12 := f12.size
     refine k_pick hL12.tail.tail.tail.tail.head hb D12 (by omega) _ _ fun y2 i16 sd16 h16 u0 u1 V16 D16 f16 => ⟨c, i16, sd16, y2, rfl, vcur hL12 4 rfl f16 V16, ?_⟩
     have hL16 := vcur hL12 4 rfl f16 V16
     have z16 := f16.size
     refine eop_lit rIs (fun k => h16.size ≤ k) (fun _ h => h) 3 (by omega) [VI (-1), VI 4, VI 5] rfl rfl fun u h17 n17 c17 o17 f17 m17 _ => ⟨u, rfl, hL16.of_no f17, ?_⟩
     have r17 : RdI (fun k => h16.size ≤ k) h17 u [-1, 4, 5] := o17.rdF
     have z17 := f17.size
     refine k_among (hL16.of_no f17).tail.tail.tail.tail.head hb (D16.no f17) (by omega) r17 (by omega) (by simp) _ fun v i18 sd18 h18 hv V18 D18 f18 => ⟨c, i18, sd18, v, rfl, vcur (hL16.of_no f17) 4 rfl f18 V18, ?_⟩
     have z18 := f18.size
     have hg := graph_len (not_f e)
     have u1 := u1 (by omega)
     exact int_set (ob (Ow.no (ob (ob o11 f12) f16) f17) f18) u0 (by omega) (vcur (hL16.of_no f17) 4 rfl f18 V18) (off _ _ _ _ _) _ fun h19 o19 f19 V19 => ⟨rfl, (dF D18 f19).up (by omega), oF (oG ((oG (oG G11 f12) f16).no f17) f18) f19, ⟨_, (show RdI F h19 w _ from o19.rdF).mono fun k hk => F1 k hk⟩, ((((f011.trans (inb f12)).trans (inb f16)).trans f17.of_no).trans (inb f18)).trans (uF f19), by have := f19.size; omega⟩
   · have hL12 := vcur hL11 4 rfl f12 V12
     have z12 := f12.size
     refine eop_lit rIs (fun k => h12.size ≤ k) (fun _ h => h) 3 (by omega) [VI (-1), VI 4, VI 5] rfl rfl fun u h20 n20 c20 o20 f20 m20 _ => ⟨u, rfl, hL12.of_no f20, ?_⟩
     have r20 : RdI (fun k => h12.size ≤ k /\ k < h20.size) h20 u [-1, 4, 5] := RdV.lt (o20.rdF)
     have hL20 := hL12.of_no f20
     have z20 := f20.size
     refine k_pick hL20.tail.tail.tail.tail.head hb (D12.no f20) (by omega) _ _ fun y2 i16 sd16 h16 u0 u1 V16 D16 f16 => ⟨c, i16, sd16, y2, rfl, vcur hL20 4 rfl f16 V16, ?_⟩
     have hL16 := vcur hL20 4 rfl f16 V16
     have z16 := f16.size
     refine k_among hL16.tail.tail.tail.tail.head hb D16 (by omega) (r20.fr f16 fun k hk hk2 => by simp [In] at hk2; omega) (by omega) (by simp) _ fun v i18 sd18 h18 hv V18 D18 f18 => ⟨c, i18, sd18, v, rfl, vcur hL16 4 rfl f18 V18, ?_⟩
     have z18 := f18.size
     have hg := graph_len (not_f e)
     have u1 := u1 (by omega)
     exact int_set (ob (ob (Ow.no (ob o11 f12) f20) f16) f18) u0 (by omega) (vcur hL16 4 rfl f18 V18) (off _ _ _ _ _) _ fun h19 o19 f19 V19 => ⟨rfl, (dF D18 f19).up (by omega), oF (oG (oG ((oG G11 f12).no f20) f16) f18) f19, ⟨_, (show RdI F h19 w _ from o19.rdF).mono fun k hk => F1 k hk⟩, ((((f011.trans (inb f12)).trans f20.of_no).trans (inb f16)).trans (inb f18)).trans (uF f19), by have := f19.size; omega⟩
   · have hL12 := vcur hL11 4 rfl f12 V12
     have z12 := f12.size
     exact eop_putI (ob o11 f12) (fun k hk => F2 k (by omega)) hL12 (off _ _ _ _ _) (by omega) _ fun u h25 o25 f25 V25 h26 f26 hL26 => ⟨rfl, ((dF D12 f25).fr f26 fun k hk hk2 => by simp [In] at hk2; omega).up (by omega), (oF (oG G11 f12) f25).fr f26 fun k hk hk2 => by simp [In] at hk2; omega, ⟨_, ((show RdI F h25 u _ from o25.rdF).mono fun k hk => F1 k hk).fr f26 fun k hk hk2 => by simp [In] at hk2; omega⟩, ((f011.trans (inb f12)).trans (uF f25)).trans (f26.mono fun k _ hk => .inr (by simp [In] at hk; omega)), by have := f25.size; have := f26.size; omega⟩
   · exact ⟨rfl, D12.up (by omega), oG G11 f12, ⟨rs, (show RdI F h12 w rs from (ob o11 f12).rdF).mono fun k hk => F1 k hk⟩, f011.trans (inb f12), f12.size⟩
 rintro x q d i13 sd13 h27 ⟨rfl, D27, G27, ⟨rs27, R27⟩, f27, z27⟩ hL27 h28 f28 hL28 h29 f29 hL29
 exact HK t x gs rs27 q i13 sd13 h29 gl (((G27.fr f28 fun k hk hk2 => by simp [In] at hk2; omega).fr f29 fun k hk hk2 => by simp [In] at hk2; omega).mono fun k hk => by omega) (((R27.fr f28 fun k hk hk2 => by simp [In] at hk2; omega).fr f29 fun k hk hk2 => by simp [In] at hk2; omega).mono fun k hk => by omega) hL29.tail.tail.tail.tail.head (((D27.fr f28 fun k hk hk2 => by simp [In] at hk2; omega).fr f29 fun k hk hk2 => by simp [In] at hk2; omega).up (by omega)) (fin _ ((f27.trans (f28.mono fun k _ hk => .inr (by simp [In] at hk; omega))).trans (f29.mono fun k _ hk => .inr (by simp [In] at hk; omega))))
def Way (g : List (List Int)) (p : Int) : Nat -> Int -> Prop
 | 0, q => p = q
 | k + 1, q => ∃ x, Way g p k x /\ q ∈ g.getD x.toNat []
theorem Way.rng {g : List (List Int)} (hg : graphB g = true) {p : Int} (h0 : 0 ≤ p) (h1 : p < (g.length : Int)) : ∀ {k : Nat} {q : Int}, Way g p k q -> 0 ≤ q /\ q < (g.length : Int)
 | 0, q, h => by rw [← show p = q from h]; exact ⟨h0, h1⟩
 | k + 1, q, h => by
   obtain ⟨x, hx, hq⟩ := h
   have hr := Way.rng hg h0 h1 hx
   rw [getD_get (by omega)] at hq
   exact (graph_mem hg (List.getElem_mem (show x.toNat < g.length by omega))).2 q hq
theorem Way.trans {g : List (List Int)} {p q r : Int} {a : Nat} (h : Way g p a q) : ∀ {b : Nat}, Way g q b r -> Way g p (a + b) r
 | 0, k => by rw [← show q = r from k]; exact h
 | b + 1, k => by
   obtain ⟨x, hx, hr⟩ := k
   exact ⟨x, h.trans hx, hr⟩
theorem set_getI {l : List Int} {i j : Nat} {v : Int} (hi : i < l.length) : (l.set i v).getD j 0 = if i = j then v else l.getD j 0 := by
 rw [List.getD_eq_getElem?_getD, List.getElem?_set, List.getD_eq_getElem?_getD]
 by_cases h : i = j
 · subst h; simp [hi]
 · simp [h]
structure BIn (x : Int) (qs far : List Int) (far' new : List Int) : Prop where
 len : far'.length = far.length
 old : ∀ y : Nat, 0 ≤ far.getD y 0 -> far'.getD y 0 = far.getD y 0
 chg : ∀ y : Nat, far.getD y 0 < 0 -> far'.getD y 0 = far.getD y 0 ∨ far'.getD y 0 = far.getD x.toNat 0 + 1 /\ (y : Int) ∈ qs /\ (y : Int) ∈ new
 met : ∀ y, y ∈ qs -> 0 ≤ far'.getD y.toNat 0
 nw : ∀ z, z ∈ new -> z ∈ qs /\ far'.getD z.toNat 0 = far.getD x.toNat 0 + 1
 cnt : new.length + negs far' = negs far
theorem bfsIn_spec (x : Int) : ∀ (qs far out : List Int), (∀ q, q ∈ qs -> 0 ≤ q /\ q < (far.length : Int)) -> 0 ≤ far.getD x.toNat 0 -> ∃ far' new, bfsIn x qs (far, out) = (far', out ++ new) /\ BIn x qs far far' new
 | [], far, out, _, _ => ⟨far, [], by rw [bfsIn, List.append_nil], rfl, fun _ _ => rfl, fun _ _ => .inl rfl, fun y hy => by simp at hy, fun z hz => by simp at hz, by simp⟩
 | q :: qs, far, out, hr, hx => by
   have hq := hr q List.mem_cons_self
   rw [bfsIn]
   by_cases hn : far.getD q.toNat 0 < 0
   · rw [if_pos hn]
     simp only
     have hqx : q.toNat ≠ x.toNat := fun e => by rw [e] at hn; omega
     have gx : (far.set q.toNat (far.getD x.toNat 0 + 1)).getD x.toNat 0 = far.getD x.toNat 0 := by rw [set_getI (by omega), if_neg hqx]
     obtain ⟨far', new, e, B⟩ := bfsIn_spec x qs (far.set q.toNat (far.getD x.toNat 0 + 1)) (out ++ [q]) (fun r h => by rw [List.length_set]; exact hr r (List.mem_cons_of_mem _ h)) (by rw [gx]; exact hx)
     have hc := negs_set (l := far) (i := q.toNat) (v := far.getD x.toNat 0 + 1) (by omega) (by rw [← getD_getI (by omega)]; exact hn) (by omega)
     have hqf : far'.getD q.toNat 0 = far.getD x.toNat 0 + 1 := by
       have := B.old q.toNat (by rw [set_getI (by omega), if_pos rfl]; omega)
       rw [this, set_getI (by omega), if_pos rfl]
     refine ⟨far', q :: new, by rw [e, List.append_assoc]; rfl, by rw [B.len, List.length_set], fun y hy => ?_, fun y hy => ?_, fun y hy => ?_, fun z hz => ?_, by have := B.cnt; simp only [List.length_cons]; omega⟩
     · have hne : q.toNat ≠ y := fun e => by rw [e] at hn; omega
       have := B.old y (by rw [set_getI (by omega), if_neg hne]; exact hy)
       rw [this, set_getI (by omega), if_neg hne]
     · by_cases hne : q.toNat = y
       · subst hne
         refine .inr ⟨hqf, ?_, ?_⟩ <;> rw [show ((q.toNat : Nat) : Int) = q by omega] <;> exact List.mem_cons_self
       · have g1 : (far.set q.toNat (far.getD x.toNat 0 + 1)).getD y 0 = far.getD y 0 := by rw [set_getI (by omega), if_neg hne]
         rcases B.chg y (by rw [g1]; exact hy) with h | ⟨h1, h2, h3⟩
         · exact .inl (h.trans g1)
         · exact .inr ⟨by rw [h1, gx], List.mem_cons_of_mem _ h2, List.mem_cons_of_mem _ h3⟩
     · rcases List.mem_cons.1 hy with rfl | hy
       · rw [hqf]; omega
       · exact B.met y hy
     · rcases List.mem_cons.1 hz with rfl | hz
       · exact ⟨List.mem_cons_self, hqf⟩
       · have := B.nw z hz
         exact ⟨List.mem_cons_of_mem _ this.1, by rw [this.2, gx]⟩
   · rw [if_neg hn]
     obtain ⟨far', new, e, B⟩ := bfsIn_spec x qs far out (fun r h => hr r (List.mem_cons_of_mem _ h)) hx
     refine ⟨far', new, e, B.len, B.old, fun y hy => ?_, fun y hy => ?_, fun z hz => ⟨List.mem_cons_of_mem _ (B.nw z hz).1, (B.nw z hz).2⟩, B.cnt⟩
     · rcases B.chg y hy with h | ⟨h1, h2, h3⟩
       · exact .inl h
       · exact .inr ⟨h1, List.mem_cons_of_mem _ h2, h3⟩
     · rcases List.mem_cons.1 hy with rfl | hy
       · rw [B.old _ (by omega)]; omega
       · exact B.met y hy
structure BQ (g : List (List Int)) (p : Int) (far qu : List Int) : Prop where
 len : far.length = g.length
 way : ∀ y : Nat, y < g.length -> 0 ≤ far.getD y 0 -> Way g p (far.getD y 0).toNat y
 lo : ∀ y : Nat, -1 ≤ far.getD y 0
 qin : ∀ x, x ∈ qu -> 0 ≤ x /\ x < (g.length : Int) /\ 0 ≤ far.getD x.toNat 0
 ord : qu.Pairwise fun a b => far.getD a.toNat 0 ≤ far.getD b.toNat 0
 top : ∀ x r, qu = x :: r -> ∀ y : Nat, y < g.length -> far.getD y 0 ≤ far.getD x.toNat 0 + 1
 done : ∀ x : Nat, x < g.length -> 0 ≤ far.getD x 0 -> (x : Int) ∈ qu ∨ ∀ y, y ∈ g.getD x [] -> 0 ≤ far.getD y.toNat 0 /\ far.getD y.toNat 0 ≤ far.getD x 0 + 1
 home : far.getD p.toNat 0 = 0
 hi : ∀ y : Nat, y < g.length -> far.getD y 0 + negs far < g.length
theorem bfs_done {g : List (List Int)} (hg : graphB g = true) {p : Int} : ∀ (f : Nat) (far qu : List Int), BQ g p far qu -> qu.length + negs far ≤ f -> BQ g p (bfsP g f far qu) []
 | 0, far, qu, B, h => by
   have : qu = [] := List.eq_nil_of_length_eq_zero (by omega)
   subst this
   exact B
 | f + 1, far, [], B, h => B
 | f + 1, far, x :: rest, B, h => by
   have hx := B.qin x List.mem_cons_self
   have hxl : x.toNat < g.length := by omega
   have hq : ∀ q, q ∈ g.getD x.toNat [] -> 0 ≤ q /\ q < (far.length : Int) := fun q hq => by
     rw [getD_get hxl] at hq
     rw [B.len]
     exact (graph_mem hg (List.getElem_mem hxl)).2 q hq
   obtain ⟨far', new, e, C⟩ := bfsIn_spec x (g.getD x.toNat []) far [] hq hx.2.2
   rw [bfsP, e]
   simp only [List.nil_append]
   have gx : far'.getD x.toNat 0 = far.getD x.toNat 0 := C.old _ hx.2.2
   have hgrow : ∀ y : Nat, 0 ≤ far.getD y 0 -> far'.getD y 0 = far.getD y 0 := C.old
   have hle : ∀ y : Nat, y < g.length -> far'.getD y 0 ≤ far.getD x.toNat 0 + 1 := fun y hy => by
     by_cases h0 : 0 ≤ far.getD y 0
     · rw [C.old y h0]; exact B.top x rest rfl y hy
     · rcases C.chg y (by omega) with h | ⟨h, _⟩
       · rw [h]; omega
       · omega
   have hrest : ∀ z, z ∈ rest -> far'.getD z.toNat 0 = far.getD z.toNat 0 := fun z hz => C.old _ (B.qin z (List.mem_cons_of_mem _ hz)).2.2
   obtain ⟨o1, o2⟩ := List.pairwise_cons.1 B.ord
   refine bfs_done hg f far' (rest ++ new) ⟨by rw [C.len, B.len], fun y hy h0 => ?_, fun y => ?_, fun z hz => ?_, ?_, fun z r hz y hy => ?_, fun y hy h0 => ?_, ?_, fun y hy => ?_⟩ ?_
   · by_cases h1 : 0 ≤ far.getD y 0
     · rw [C.old y h1]; exact B.way y hy h1
     · rcases C.chg y (by omega) with h | ⟨h, h2, _⟩
       · rw [h] at h0; omega
       · rw [h, show (far.getD x.toNat 0 + 1).toNat = (far.getD x.toNat 0).toNat + 1 by omega]
         refine ⟨x, ?_, h2⟩
         have := B.way x.toNat hxl hx.2.2
         rwa [show ((x.toNat : Nat) : Int) = x by omega] at this
   · by_cases h1 : 0 ≤ far.getD y 0
     · rw [C.old y h1]; omega
     · have := B.lo y
       rcases C.chg y (by omega) with h | ⟨h, _⟩ <;> omega
   · rcases List.mem_append.1 hz with hz | hz
     · have := B.qin z (List.mem_cons_of_mem _ hz)
       exact ⟨this.1, this.2.1, by rw [hrest z hz]; exact this.2.2⟩
     · have a := C.nw z hz
       have b := hq z a.1
       rw [B.len] at b
       exact ⟨b.1, b.2, by rw [a.2]; omega⟩
   · rw [List.pairwise_append]
     refine ⟨o2.imp_of_mem fun {a b} ha hb hab => by rw [hrest a ha, hrest b hb]; exact hab, ?_, fun a ha b hb => ?_⟩
     · rw [List.pairwise_iff_getElem]
       intro i j hi hj _
       rw [(C.nw _ (List.getElem_mem hi)).2, (C.nw _ (List.getElem_mem hj)).2]
       omega
     · rw [hrest a ha, (C.nw b hb).2]
       have := B.qin a (List.mem_cons_of_mem _ ha)
       exact B.top x rest rfl a.toNat (by omega)
   · have hz1 : far.getD x.toNat 0 ≤ far'.getD z.toNat 0 := by
       have hzm : z ∈ rest ++ new := by rw [hz]; exact List.mem_cons_self
       rcases List.mem_append.1 hzm with h | h
       · rw [hrest z h]; exact o1 z h
       · rw [(C.nw z h).2]; omega
     have := hle y hy
     omega
   · by_cases hyx : (y : Int) = x
     · refine .inr fun z hz => ?_
       have hyx' : y = x.toNat := by omega
       rw [hyx'] at hz ⊢
       have := hq z hz
       rw [B.len] at this
       exact ⟨C.met z hz, by rw [gx]; exact hle z.toNat (by omega)⟩
     · by_cases h1 : 0 ≤ far.getD y 0
       · rcases B.done y hy h1 with h | h
         · rcases List.mem_cons.1 h with h | h
           · exact absurd h hyx
           · exact .inl (List.mem_append.2 (.inl h))
         · refine .inr fun z hz => ?_
           obtain ⟨a, b⟩ := h z hz
           rw [C.old _ a, C.old _ h1]
           exact ⟨a, b⟩
       · rcases C.chg y (by omega) with h | ⟨_, _, h⟩
         · rw [h] at h0; omega
         · exact .inl (List.mem_append.2 (.inr h))
   · rw [C.old _ (by rw [B.home]; omega)]; exact B.home
   · have hc := C.cnt
     by_cases h1 : 0 ≤ far.getD y 0
     · rw [C.old y h1]; have := B.hi y hy; omega
     · rcases C.chg y (by omega) with h | ⟨h, _, h3⟩
       · rw [h]; have := B.hi y hy; omega
       · have := List.length_pos_of_mem h3
         have := B.hi x.toNat hxl
         rw [h]; omega
   · have := C.cnt
     simp only [List.length_cons, List.length_append] at *
     omega
theorem far_bq {g : List (List Int)} (hg : graphB g = true) {p : Int} (h0 : 0 ≤ p) (h1 : p < (g.length : Int)) : BQ g p (farP g p) [] := by
 obtain ⟨b1, b2⟩ := bok0 (n := g.length) (p := p.toNat) (by omega)
 have gd : ∀ y : Nat, ((List.replicate g.length (-1 : Int)).set p.toNat 0).getD y 0 = if p.toNat = y then 0 else if y < g.length then -1 else 0 := fun y => by
   rw [set_getI (by simp; omega)]
   split
   · rfl
   · rw [List.getD_eq_getElem?_getD, List.getElem?_replicate]; split <;> rfl
 refine bfs_done hg g.length _ [p] ⟨by simp, fun y hy h => ?_, fun y => ?_, fun x hx => ?_, by simp, fun x r hx y hy => ?_, fun x hx h => ?_, ?_, fun y hy => ?_⟩ (by simp only [List.length_cons, List.length_nil]; omega)
 · rw [gd] at h ⊢
   split at h
   · rename_i e
     rw [if_pos e]
     show p = (y : Int)
     omega
   · simp at h
 · rw [gd]; split
   · omega
   · split <;> omega
 · simp only [List.mem_cons, List.not_mem_nil, or_false] at hx
   subst hx
   exact ⟨h0, h1, by rw [gd, if_pos rfl]; omega⟩
 · simp only [List.cons.injEq] at hx
   rw [← hx.1, gd, gd, if_pos rfl]
   split
   · omega
   · (try split) <;> omega
 · rw [gd] at h
   split at h
   · exact .inl (by simp; omega)
   · simp at h
 · rw [gd, if_pos rfl]
 · rw [gd]
   split
   · omega
   · (try split) <;> omega
theorem far_le {g : List (List Int)} (hg : graphB g = true) {p : Int} (h0 : 0 ≤ p) (h1 : p < (g.length : Int)) : ∀ {k : Nat} {q : Int}, Way g p k q -> 0 ≤ (farP g p).getD q.toNat 0 /\ (farP g p).getD q.toNat 0 ≤ k
 | 0, q, h => by rw [← show p = q from h, (far_bq hg h0 h1).home]; omega
 | k + 1, q, h => by
   obtain ⟨x, hx, hq⟩ := h
   obtain ⟨a, b⟩ := far_le hg h0 h1 hx
   have hr := hx.rng hg h0 h1
   rcases (far_bq hg h0 h1).done x.toNat (by omega) a with c | c
   · simp at c
   · have := c q hq
     omega
theorem far_way {g : List (List Int)} (hg : graphB g = true) {p q : Int} (h0 : 0 ≤ p) (h1 : p < (g.length : Int)) (q0 : 0 ≤ q) (q1 : q < (g.length : Int)) (h : 0 ≤ (farP g p).getD q.toNat 0) : Way g p ((farP g p).getD q.toNat 0).toNat q := by
 have := (far_bq hg h0 h1).way q.toNat (by omega) h
 rwa [show ((q.toNat : Nat) : Int) = q by omega] at this
theorem far_iff {g : List (List Int)} (hg : graphB g = true) {p q : Int} (h0 : 0 ≤ p) (h1 : p < (g.length : Int)) (q0 : 0 ≤ q) (q1 : q < (g.length : Int)) : 0 ≤ (farP g p).getD q.toNat 0 ↔ ∃ k, Way g p k q :=
 ⟨fun h => ⟨_, far_way hg h0 h1 q0 q1 h⟩, fun ⟨k, h⟩ => (far_le hg h0 h1 h).1⟩
theorem far_zero {g : List (List Int)} (hg : graphB g = true) {p q : Int} (h0 : 0 ≤ p) (h1 : p < (g.length : Int)) (q0 : 0 ≤ q) (q1 : q < (g.length : Int)) : (farP g p).getD q.toNat 0 = 0 ↔ p = q := by
 constructor
 · intro h
   have := far_way hg h0 h1 q0 q1 (by omega)
   rw [h] at this
   exact this
 · rintro rfl; exact (far_bq hg h0 h1).home
theorem Way.head {g : List (List Int)} {p : Int} : ∀ {k : Nat} {s : Int}, Way g p (k + 1) s -> ∃ e, e ∈ g.getD p.toNat [] /\ Way g e k s
 | 0, s, h => by
   obtain ⟨x, hx, hs⟩ := h
   rw [← show p = x from hx] at hs
   exact ⟨s, hs, rfl⟩
 | k + 1, s, h => by
   obtain ⟨x, hx, hs⟩ := h
   obtain ⟨e, he, hw⟩ := Way.head hx
   exact ⟨e, he, x, hw, hs⟩
theorem lead_iff {g : List (List Int)} {s : Int} : leadB g s = true ↔ ∀ p : Nat, p < g.length -> 0 ≤ (farP g p).getD s.toNat 0 := by
 unfold leadB
 rw [range_all]
 constructor
 · intro h p hp
   have := h p hp
   simp only [Bool.not_eq_true', decide_eq_false_iff_not] at this
   omega
 · intro h p hp
   have := h p hp
   simp only [Bool.not_eq_true', decide_eq_false_iff_not]
   omega
theorem nx_mem {g : List (List Int)} {rs : List Int} {a : Int} (W : WOK g (rs, a)) {p : Int} (h0 : 0 ≤ p) (h1 : p < (g.length : Int)) (h : 0 ≤ nx g rs p) : nx g rs p ∈ g.getD p.toNat [] := by
 by_cases hz : (g[p.toNat]'(by omega)).length = 0
 · rw [nx_none h0 h1 hz] at h; omega
 · obtain ⟨hr, hm, _, e⟩ := nx_some W h0 h1 hz
   rw [e, getD_get (show p.toNat < g.length by omega)]
   exact List.getElem_mem hm
theorem itx_way {g : List (List Int)} {rs : List Int} {a : Int} (W : WOK g (rs, a)) {p : Int} (h0 : 0 ≤ p) (h1 : p < (g.length : Int)) : ∀ k, 0 ≤ itx g rs p k -> Way g p k (itx g rs p k)
 | 0, _ => rfl
 | k + 1, h => by
   have hk : 0 ≤ itx g rs p k := by
     by_cases hx : itx g rs p k < 0
     · have := itx_neg_mono hx (show k ≤ k + 1 by omega)
       omega
     · omega
   exact ⟨_, itx_way W h0 h1 k hk, nx_mem W hk (itx_lt W h0 h1 k).2 h⟩
theorem lead_tree {g : List (List Int)} (hg : graphB g = true) {s : Int} (s0 : 0 ≤ s) (s1 : s < (g.length : Int)) : leadB g s = true ↔ treesL g s ≠ [] := by
 rw [lead_iff]
 constructor
 · intro hl
   have step : ∀ p : Nat, ∃ j : Nat, p < g.length -> (p : Int) ≠ s -> j < (g.getD p []).length /\ 0 ≤ (g.getD p []).getD j 0 /\ (g.getD p []).getD j 0 < (g.length : Int) /\ (farP g ((g.getD p []).getD j 0)).getD s.toNat 0 < (farP g p).getD s.toNat 0 := fun p => by
     by_cases hp : p < g.length /\ (p : Int) ≠ s
     · have p0 : (0 : Int) ≤ p := by omega
       have p1 : (p : Int) < (g.length : Int) := by omega
       have hw := far_way hg p0 p1 s0 s1 (hl p hp.1)
       have hz : (farP g p).getD s.toNat 0 ≠ 0 := fun h => hp.2 ((far_zero hg p0 p1 s0 s1).1 h)
       have h0 := hl p hp.1
       generalize hD : (farP g (p : Int)).getD s.toNat 0 = D at hw hz h0
       obtain ⟨m, hm⟩ : ∃ m : Nat, D.toNat = m + 1 := ⟨D.toNat - 1, by omega⟩
       rw [hm] at hw
       obtain ⟨e, he, hw⟩ := Way.head hw
       rw [show ((p : Int)).toNat = p from rfl] at he
       obtain ⟨j, hj, ej⟩ := List.getElem_of_mem he
       have er := (graph_mem hg (List.getElem_mem hp.1)).2 e (by rw [getD_get hp.1] at he; exact he)
       refine ⟨j, fun _ _ => ⟨hj, ?_⟩⟩
       rw [getD_getI hj, ej]
       have := far_le hg er.1 (by omega) hw
       omega
     · exact ⟨0, fun a b => absurd ⟨a, b⟩ hp⟩
   let f : Nat -> Nat := fun p => Classical.choose (step p)
   have hf : ∀ p : Nat, p < g.length -> (p : Int) ≠ s -> f p < (g.getD p []).length /\ 0 ≤ (g.getD p []).getD (f p) 0 /\ (g.getD p []).getD (f p) 0 < (g.length : Int) /\ (farP g ((g.getD p []).getD (f p) 0)).getD s.toNat 0 < (farP g p).getD s.toNat 0 := fun p => Classical.choose_spec (step p)
   let rs : List Int := (List.range g.length).map fun p : Nat => if (p : Int) = s then 0 else ((f p : Nat) : Int)
   have hl' : rs.length = g.length := by simp [rs]
   have hg' : ∀ (p : Nat) (h : p < rs.length), rs[p] = if (p : Int) = s then 0 else ((f p : Nat) : Int) := fun p h => by simp [rs]
   have hr : rs ∈ allRot g s := mem_allRot.2 ⟨hl', fun i hi => by
     rw [hg' i hi]
     unfold cand
     by_cases e : (i : Int) = s
     · rw [if_pos e, if_pos (.inl e)]; exact List.mem_singleton.2 rfl
     · have := (hf i (by omega) e).1
       rw [if_neg e, if_neg (by rintro (a | a); exact e a; omega)]
       exact mem_rngI.2 ⟨by omega, by omega⟩⟩
   have W := (rot_ok (a := s) hg s0 s1 hr).1
   have ht : ∀ (N p : Nat), p < g.length -> (farP g p).getD s.toNat 0 ≤ N -> ∃ k, itx g rs p k = s := fun N => by
     induction N with
     | zero =>
       intro p hp h
       have := hl p hp
       exact ⟨0, (far_zero (p := (p : Int)) hg (by omega) (by omega) s0 s1).1 (by omega)⟩
     | succ N ih =>
       intro p hp h
       by_cases e : (p : Int) = s
       · exact ⟨0, e⟩
       obtain ⟨a1, a2, a3, a4⟩ := hf p hp e
       have hn : nx g rs p = (g.getD p []).getD (f p) 0 := by
         unfold nx
         rw [if_neg (by omega), show ((p : Int)).toNat = p from rfl, if_neg (by omega), getD_getI (show p < rs.length by omega), hg' p (by omega), if_neg e]
         rfl
       obtain ⟨k, hk⟩ := ih ((g.getD p []).getD (f p) 0).toNat (by omega) (by rw [Int.toNat_of_nonneg a2]; omega)
       rw [Int.toNat_of_nonneg a2, ← hn, itx_cons] at hk
       exact ⟨k + 1, hk⟩
   have hm : rs ∈ treesL g s := List.mem_filter.2 ⟨hr, (treeB_iff W s0).2 fun p hp => ht ((farP g p).getD s.toNat 0).toNat p hp (by have := hl p hp; omega)⟩
   exact List.ne_nil_of_mem hm
 · intro hne p hp
   obtain ⟨rs, hrs⟩ := List.exists_mem_of_ne_nil _ hne
   have hr := List.mem_filter.1 hrs
   have W := (rot_ok (a := s) hg s0 s1 hr.1).1
   obtain ⟨k, hk⟩ := (treeB_iff W s0).1 hr.2 p hp
   have hw := itx_way W (p := (p : Int)) (by omega) (by omega) k (by omega)
   rw [hk] at hw
   exact (far_iff (p := (p : Int)) hg (by omega) (by omega) s0 s1).2 ⟨k, hw⟩
theorem k_DrawIsGraph {S : Nat -> Prop} {h : Heap} {code : Sl} {vs : List Value} (C : RdV S h 1 code vs) (B : ∀ v, v ∈ vs -> ∃ m : Int, v = Value.int .u8 m /\ 0 ≤ m /\ m ≤ 255) (K : KQ) (HK : ∀ (t : Sl) (gs : List (List Int)) h', gs.length ≤ 9 -> RdR (fun k => h.size ≤ k) h' t gs -> Fr No h h' -> K (.agg #[t.v]) h') : callM Tryz.prog 89 #[code.v] h K := by
 refine v89 code h K fun b1 b2 h2 hb1 hb2 f2 hL2 => ?_
 have f2 := f2.in_nil
 have z2 := f2.size
 have l2 : b2 < h2.size := hL2.head.lt
 have l1 : b1 < h2.size := hL2.tail.head.lt
 have D2 : CurD h.size 0 h2 code 0 := ⟨⟨vs, ((RdV.lt C).mono fun k hk => hk.2).no f2, B⟩, by omega, by omega⟩
 refine k_drgraph9 hL2.head hb2 D2 (by omega) _ fun t gs i3 sd3 h3 gl G3 V3 D3 f3 => ⟨code, i3, sd3, t, rfl, vcur hL2 0 rfl f3 V3, fun h8 f8 hL8 => ?_⟩
 refine HK t gs h8 gl ((G3.fr f8 fun k hk hk2 => by simp [In] at hk2; omega).mono fun k hk => by omega) ?_
 exact ((f2.of_no.trans (f3.mono fun k _ hk => .inl (by simpa [In] using hk) : Fr (fun k => k = b2 ∨ k = b1) h2 h3)).trans (f8.mono fun k _ hk => .inr (by simpa [In] using hk))).mono fun k hk hk2 => by rcases hk2 with e | e <;> omega
theorem k_drrooted {a n b : Nat} {h : Heap} {c : Sl} {i sd : Int} (V : IsVar h b [c.v, VI i, .int .u64 sd]) (hb : a ≤ b) (D : CurD a n h c i) (hn : n ≤ 50000) (K : KQ) (HK : ∀ (t w : Sl) (gs : List (List Int)) (rs : List Int) (p : Int) (m : Nat) (i' sd' : Int) h', gs.length ≤ 9 -> h.size ≤ m -> RdR (Iv h.size m) h' t gs -> OwI h' (fun k => m ≤ k) w rs -> IsVar h' b [c.v, VI i', .int .u64 sd'] -> CurD a (n + 800) h' c i' -> Fr (In [b]) h h' -> K (.tuple #[.agg #[t.v], VI p, w.v]) h') : callM Tryz.prog 101 #[VP b 0] h K := by
 have lb := V.lt
 refine v101 b c i sd h K (.cons V (by simp) .nil) fun b2 h1 hb2 f1 hL1 => ?_
 have f1 := f1.in_nil
 have z1 := f1.size
 have l2 : b2 < h1.size := hL1.head.lt
 have fin : ∀ (h' : Heap), Fr (fun k => k = b ∨ h.size ≤ k) h h' -> Fr (In [b]) h h' := fun h' f => f.mono fun k hk hk2 => by
   rcases hk2 with e | e
   · simp [In, e]
   · omega
 have inb : ∀ {x y : Heap}, Fr (In [b]) x y -> Fr (fun k => k = b ∨ h.size ≤ k) x y := fun f => f.mono fun k _ hk => .inl (by simpa [In] using hk)
 have in2 : ∀ {x y : Heap}, Fr (In [b2]) x y -> Fr (fun k => k = b ∨ h.size ≤ k) x y := fun f => f.mono fun k _ hk => .inr (by simp [In] at hk; omega)
 refine k_drsinking hL1.tail.head hb (D.no f1) (by omega) _ fun t gs p i2 sd2 h2 gl G2 V2 D2 f2 => ⟨c, i2, sd2, t, p, rfl, vcur hL1 1 rfl f2 V2, fun b3 h4 hb3 f4 hL4 => ?_⟩
 have f4 := f4.in_nil
 have z2 := f2.size
 have z4 := f4.size
 have l3 : b3 < h4.size := hL4.head.lt
 have G4 : RdR (Iv h1.size h2.size) h4 t gs := G2.lowS.no f4
 have f04 : Fr (fun k => k = b ∨ h.size ≤ k) h h4 := (f1.of_no.trans (inb f2)).trans f4.of_no
 refine k_spec_grPlace G4 p _ fun h5 f5 => ⟨_, rfl, hL4.of_no f5, fun e h6 f6 hL6 => ?_, fun e => ?_⟩
 · exact HK t nilSl gs [] p h2.size i2 sd2 h6 gl (by omega) (((G4.no f5).fr f6 fun k hk hk2 => by simp [In] at hk2; have := hk.1; omega).mono fun k hk => ⟨by have := hk.1; omega, hk.2⟩) (Ow.nil _ _ _ _) hL6.tail.tail.head ((((D2.no f4).no f5).fr f6 fun k hk hk2 => by simp [In] at hk2; omega).up (by omega)) (fin _ ((f04.trans f5.of_no).trans (in2 f6)))
 have z5 := f5.size
 obtain ⟨hg, ep⟩ := Bool.and_eq_true_iff.1 (not_f e)
 have pr := inR_iff.1 ep
 have p0 : 0 ≤ p := pr.1
 have p1 : p < (gs.length : Int) := by omega
 have F5 : Fr (fun k => k = b ∨ h.size ≤ k) h h5 := f04.trans f5.of_no
 have hL5 := hL4.of_no f5
 refine k_grLeads (G4.no f5) hg p0 p1 _ fun h7 f7 => ⟨_, rfl, hL5.of_no f7, fun e2 => ?_, fun e2 => ?_⟩
 · have z7 := f7.size
   have hL7 := hL5.of_no f7
   have G7 : RdR (Iv h1.size h2.size) h7 t gs := (G4.no f5).no f7
   have D7 := ((D2.no f4).no f5).no f7
   refine k_one hL7.tail.tail.head hb D7 (by omega) 3 _ fun x i8 sd8 h8 V8 D8 f8 => ⟨c, i8, sd8, x, rfl, vcur hL7 2 rfl f8 V8, fun _ => ?_, fun _ => ?_⟩
   · have z8 := f8.size
     have hL8 := vcur hL7 2 rfl f8 V8
     have G8 : RdR (Iv h1.size h2.size) h8 t gs := G7.fr f8 fun k hk hk2 => by simp [In] at hk2; have := hk.1; omega
     refine k_trAll G8 hg p0 p1 (mo := 20) (by omega) _ fun t9 h9 o9 f9 => ⟨t9, rfl, hL8.of_no f9, ?_⟩
     have z9 := f9.size
     have hL9 := hL8.of_no f9
     have hne : treesL gs p ≠ [] := (lead_tree hg p0 p1).1 e2
     have hlen : 1 ≤ ((treesL gs p).take (20 + 1)).length := by
       rw [List.length_take]
       have := List.length_pos_iff.2 hne
       omega
     have tn := OwR.len o9
     refine k_pick hL9.tail.tail.head hb (D8.no f9) (by omega) _ _ fun y i10 sd10 h10 y0 y1 V10 D10 f10 => ⟨c, i10, sd10, y, rfl, vcur hL9 2 rfl f10 V10, ?_⟩
     have y1 := y1 (by omega)
     have z10 := f10.size
     have R10 : RdR (Iv h8.size h9.size) h10 t9 ((treesL gs p).take (20 + 1)) := (OwR.rdI o9).fr f10 fun k hk hk2 => by simp [In] at hk2; have := hk.1; omega
     obtain ⟨s39, c39, r39⟩ := R10.get y0 (by omega)
     have hrl : (((treesL gs p).take (20 + 1))[y.toNat]'(by omega)).length = gs.length := by
       have hm := List.mem_of_mem_take (List.getElem_mem (show y.toNat < ((treesL gs p).take (20 + 1)).length by omega))
       exact (mem_allRot.1 (List.mem_filter.1 hm).1).1
     refine ⟨R10.inb y0 (by omega), s39, c39, k_l1Own r39 (by omega) _ fun t11 h11 o11 f11 => ⟨t11, rfl, (vcur hL9 2 rfl f10 V10).of_no f11, fun h12 f12 hL12 => ?_⟩⟩
     have z11 := f11.size
     refine HK t t11 gs _ p h10.size i10 sd10 h12 gl (by omega) (((((G8.no f9).fr f10 fun k hk hk2 => by simp [In] at hk2; have := hk.1; omega).no f11).fr f12 fun k hk hk2 => by simp [In] at hk2; have := hk.1; omega).mono fun k hk => ⟨by have := hk.1; omega, by have := hk.2; omega⟩) ((Ow.fr o11 f12 fun k hk hk2 => by have := (o11.foot hk).1.1; simp [In] at hk2; omega).mono fun k _ hk => hk.1) hL12.tail.tail.head (((D10.no f11).fr f12 fun k hk hk2 => by simp [In] at hk2; omega).up (by omega)) (fin _ ?_)
     exact (((((F5.trans f7.of_no).trans (inb f8)).trans f9.of_no).trans (inb f10)).trans f11.of_no).trans (in2 f12)
   · have z8 := f8.size
     have hL8 := vcur hL7 2 rfl f8 V8
     have G8 : RdR (Iv h1.size h2.size) h8 t gs := G7.fr f8 fun k hk hk2 => by simp [In] at hk2; have := hk.1; omega
     have F8 : Fr (fun k => k = b ∨ h.size ≤ k) h h8 := (F5.trans f7.of_no).trans (inb f8)
     refine k_sureWalk hL8.tail.tail.head hb D8 (by omega) G8 (fun hk => by have := hk.1; omega) (by omega) _ fun w rs q i13 sd13 h13 O13 el V13 D13 f13 => ⟨c, i13, sd13, w, q, rfl, vcur hL8 2 rfl f13 V13, fun b4 h15 hb4 f15 hL15 => ?_⟩
     have f15 := f15.in_nil
     have z13 := f13.size
     have z15 := f15.size
     have O15 : OwI h15 (Iv h8.size h13.size) w rs := Ow.no O13 f15
     have G15 : RdR (Iv h1.size h2.size) h15 t gs := (G8.fr f13 fun k hk hk2 => by simp [In] at hk2; have := hk.1; omega).no f15
     have F15 : Fr (fun k => k = b ∨ h.size ≤ k) h h15 := (F8.trans (inb f13)).trans f15.of_no
     refine ⟨fun c' i' sd' h' => c' = c /\ CurD a (n + 780) h' c i' /\ RdR (Iv h1.size h2.size) h' t gs /\ (∃ rs, OwI h' (Iv h8.size h13.size) w rs) /\ Fr (fun k => k = b ∨ h.size ≤ k) h h', ?_, ?_⟩
     · refine k_one hL15.tail.tail.tail.head hb (D13.no f15) (by omega) 8 _ fun x i16 sd16 h16 V16 D16 f16 => ?_
       have hL16 := vcur hL15 3 rfl f16 V16
       have O16 : OwI h16 (Iv h8.size h13.size) w rs := Ow.fr O15 f16 fun k hk hk2 => by have := (O15.foot hk).1.1; simp [In] at hk2; omega
       have G16 : RdR (Iv h1.size h2.size) h16 t gs := G15.fr f16 fun k hk hk2 => by simp [In] at hk2; have := hk.1; omega
       refine ⟨c, i16, sd16, x, rfl, hL16, fun _ => ?_, fun _ => ⟨rfl, D16.up (by omega), G16, ⟨rs, O16⟩, F15.trans (inb f16)⟩⟩
       refine int_set O16 p0 (by omega) hL16 (fun q hq hk => by
         have hk1 := hk.1
         have hk2 := hk.2
         change q ∈ [(b4, _), (b3, _), (b2, _), (b, _)] at hq
         simp only [List.mem_cons, List.not_mem_nil, or_false] at hq
         rcases hq with rfl | rfl | rfl | rfl <;> (try simp only at hk1 hk2) <;> omega) _ fun h17 O17 f17 _ => ⟨rfl, (D16.fr f17 fun k hk hk2 => by have := hk2.1; omega).up (by omega), G16.fr f17 fun k hk hk2 => by have := hk.2; have := hk2.1; omega, ⟨_, O17⟩, (F15.trans (inb f16)).trans (f17.mono fun k _ hk => .inr (by have := hk.1; omega))⟩
     · rintro c' i18 sd18 h18 ⟨rfl, D18, G18, ⟨rs', O18⟩, f18⟩ hL18 h19 f19 hL19
       exact HK t w gs rs' p h8.size i18 sd18 h19 gl (by omega) ((G18.fr f19 fun k hk hk2 => by simp [In] at hk2; have := hk.1; omega).mono fun k hk => ⟨by have := hk.1; omega, by have := hk.2; omega⟩) ((Ow.fr O18 f19 fun k hk hk2 => by have := (O18.foot hk).1.1; simp [In] at hk2; omega).mono fun k _ hk => hk.1) hL19.tail.tail.tail.head ((D18.fr f19 fun k hk hk2 => by simp [In] at hk2; omega).up (by omega)) (fin _ (f18.trans (in2 f19)))
 · have z7 := f7.size
   have hL7 := hL5.of_no f7
   have G7 : RdR (Iv h1.size h2.size) h7 t gs := (G4.no f5).no f7
   have D7 := ((D2.no f4).no f5).no f7
   have F7 : Fr (fun k => k = b ∨ h.size ≤ k) h h7 := F5.trans f7.of_no
   refine k_sureWalk hL7.tail.tail.head hb D7 (by omega) G7 (fun hk => by have := hk.1; omega) (by omega) _ fun w rs q i13 sd13 h13 O13 el V13 D13 f13 => ⟨c, i13, sd13, w, q, rfl, vcur hL7 2 rfl f13 V13, fun b4 h15 hb4 f15 hL15 => ?_⟩
   have f15 := f15.in_nil
   have z13 := f13.size
   have z15 := f15.size
   have O15 : OwI h15 (Iv h7.size h13.size) w rs := Ow.no O13 f15
   have G15 : RdR (Iv h1.size h2.size) h15 t gs := (G7.fr f13 fun k hk hk2 => by simp [In] at hk2; have := hk.1; omega).no f15
   have F15 : Fr (fun k => k = b ∨ h.size ≤ k) h h15 := (F7.trans (inb f13)).trans f15.of_no
   refine ⟨fun c' i' sd' h' => c' = c /\ CurD a (n + 780) h' c i' /\ RdR (Iv h1.size h2.size) h' t gs /\ (∃ rs, OwI h' (Iv h7.size h13.size) w rs) /\ Fr (fun k => k = b ∨ h.size ≤ k) h h', ?_, ?_⟩
   · refine k_one hL15.tail.tail.tail.head hb (D13.no f15) (by omega) 8 _ fun x i16 sd16 h16 V16 D16 f16 => ?_
     have hL16 := vcur hL15 3 rfl f16 V16
     have O16 : OwI h16 (Iv h7.size h13.size) w rs := Ow.fr O15 f16 fun k hk hk2 => by have := (O15.foot hk).1.1; simp [In] at hk2; omega
     have G16 : RdR (Iv h1.size h2.size) h16 t gs := G15.fr f16 fun k hk hk2 => by simp [In] at hk2; have := hk.1; omega
     refine ⟨c, i16, sd16, x, rfl, hL16, fun _ => ?_, fun _ => ⟨rfl, D16.up (by omega), G16, ⟨rs, O16⟩, F15.trans (inb f16)⟩⟩
     refine int_set O16 p0 (by omega) hL16 (fun q hq hk => by
       have hk1 := hk.1
       have hk2 := hk.2
       change q ∈ [(b4, _), (b3, _), (b2, _), (b, _)] at hq
       simp only [List.mem_cons, List.not_mem_nil, or_false] at hq
       rcases hq with rfl | rfl | rfl | rfl <;> (try simp only at hk1 hk2) <;> omega) _ fun h17 O17 f17 _ => ⟨rfl, (D16.fr f17 fun k hk hk2 => by have := hk2.1; omega).up (by omega), G16.fr f17 fun k hk hk2 => by have := hk.2; have := hk2.1; omega, ⟨_, O17⟩, (F15.trans (inb f16)).trans (f17.mono fun k _ hk => .inr (by have := hk.1; omega))⟩
   · rintro c' i18 sd18 h18 ⟨rfl, D18, G18, ⟨rs', O18⟩, f18⟩ hL18 h19 f19 hL19
     exact HK t w gs rs' p h7.size i18 sd18 h19 gl (by omega) ((G18.fr f19 fun k hk hk2 => by simp [In] at hk2; have := hk.1; omega).mono fun k hk => ⟨by have := hk.1; omega, by have := hk.2; omega⟩) ((Ow.fr O18 f19 fun k hk hk2 => by have := (O18.foot hk).1.1; simp [In] at hk2; omega).mono fun k _ hk => hk.1) hL19.tail.tail.tail.head ((D18.fr f19 fun k hk hk2 => by simp [In] at hk2; omega).up (by omega)) (fin _ (f18.trans (in2 f19)))
theorem k_drcycled {a n b : Nat} {h : Heap} {c : Sl} {i sd : Int} (V : IsVar h b [c.v, VI i, .int .u64 sd]) (hb : a ≤ b) (D : CurD a n h c i) (hn : n ≤ 10000) (K : KQ) (HK : ∀ (t w : Sl) (gs : List (List Int)) (rs : List Int) (p i' sd' : Int) h', RdR (fun k => h.size ≤ k) h' t gs -> RdI (fun k => h.size ≤ k) h' w rs -> IsVar h' b [c.v, VI i', .int .u64 sd'] -> CurD a (n + 1000) h' c i' -> Fr (In [b]) h h' -> K (.tuple #[.agg #[t.v], .agg #[w.v, VI p]]) h') : callM Tryz.prog 122 #[VP b 0] h K := by
 have lb := V.lt
 refine v122 b c i sd h K (.cons V (by simp) .nil) fun b2 b3 h2 hb2 hb3 f2 hL2 => ?_
 have f2 := f2.in_nil
 have z2 := f2.size
 have l3 : b3 < h2.size := hL2.head.lt
 have l2 : b2 < h2.size := hL2.tail.head.lt
 have fin : ∀ (h' : Heap), Fr (fun k => k = b ∨ h.size ≤ k) h h' -> Fr (In [b]) h h' := fun h' f => f.mono fun k hk hk2 => by
   rcases hk2 with e | e
   · simp [In, e]
   · omega
 have inb : ∀ {x y : Heap}, Fr (In [b]) x y -> Fr (fun k => k = b ∨ h.size ≤ k) x y := fun f => f.mono fun k _ hk => .inl (by simpa [In] using hk)
 have in32 : ∀ {x y : Heap}, Fr (In [b3, b2]) x y -> Fr (fun k => k = b ∨ h.size ≤ k) x y := fun f => f.mono fun k _ hk => .inr (by simp only [In, List.mem_cons, List.not_mem_nil, or_false] at hk; omega)
 have o32 : ∀ k, h2.size ≤ k -> ¬ In [b3, b2] k := fun k hk hk2 => by simp only [In, List.mem_cons, List.not_mem_nil, or_false] at hk2; omega
 have d32 : ∀ k, k < a -> ¬ In [b3, b2] k := fun k hk hk2 => by simp only [In, List.mem_cons, List.not_mem_nil, or_false] at hk2; omega
 refine k_one hL2.tail.tail.head hb (D.no f2) (by omega) 3 _ fun x i3 sd3 h3 V3 D3 f3 => ⟨c, i3, sd3, x, rfl, vcur hL2 2 rfl f3 V3, fun _ => ?_, fun _ => ?_⟩
 · have hL3 := vcur hL2 2 rfl f3 V3
   have z3 := f3.size
   refine k_drwalk hL3.tail.tail.head hb D3 (by omega) _ fun t w gs rs p i4 sd4 h4 gl G4 R4 V4 D4 f4 => ⟨c, i4, sd4, t, w, p, rfl, vcur hL3 2 rfl f4 V4, fun h6 f6 hL6 => ?_⟩
   exact HK t w gs rs p i4 sd4 h6 ((G4.fr f6 fun k hk => o32 k (by omega)).mono fun k hk => by omega) ((R4.fr f6 fun k hk => o32 k (by omega)).mono fun k hk => by omega) hL6.tail.tail.head ((D4.fr f6 d32).up (by omega)) (fin _ (((f2.of_no.trans (inb f3)).trans (inb f4)).trans (in32 f6)))
 · have hL3 := vcur hL2 2 rfl f3 V3
   have z3 := f3.size
   refine k_drrooted hL3.tail.tail.head hb D3 (by omega) _ fun t w gs rs p m i7 sd7 h7 gl hm G7 O7 V7 D7 f7 => ⟨c, i7, sd7, t, p, w, rfl, vcur hL3 2 rfl f7 V7, fun b4 h9 hb4 f9 hL9 => ?_⟩
   have f9 := f9.in_nil
   have z7 := f7.size
   have z9 := f9.size
   have G9 := G7.no f9
   have O9 : OwI h9 (Iv m h7.size) w rs := Ow.no (Ow.toIv O7) f9
   have F9 : Fr (fun k => k = b ∨ h.size ≤ k) h h9 := ((f2.of_no.trans (inb f3)).trans (inb f7)).trans f9.of_no
   refine k_trGood G9 (Ow.rdF O9) p _ fun h10 f10 => ⟨_, rfl, hL9.of_no f10, fun e h12 f12 hL12 => ?_, fun e b5 h14 hb5 f14 hL14 => ?_⟩
   · have R10 : RdI (Iv m h7.size) h10 w rs := Ow.rdF (Ow.no O9 f10)
     exact HK t w gs rs p i7 sd7 h12 (((G9.no f10).fr f12 fun k hk => o32 k (by have := hk.1; omega)).mono fun k hk => by have := hk.1; omega) ((R10.fr f12 fun k hk => o32 k (by have := hk.1; omega)).mono fun k hk => by have := hk.1; omega) hL12.tail.tail.tail.head ((((D7.no f9).no f10).fr f12 d32).up (by omega)) (fin _ ((F9.trans f10.of_no).trans (in32 f12)))
   have f14 := f14.in_nil
   have z10 := f10.size
   have e := not_f e
   unfold sinkrB at e
   obtain ⟨ea, eb⟩ := Bool.and_eq_true_iff.1 e
   have W : WOK gs (rs, p) := wok_of (by rw [walkB_pl2 ea]; exact (Bool.and_eq_true_iff.1 eb).1)
   have p0 : 0 ≤ p := W.lo
   have p1 : p < (gs.length : Int) := W.hi
   have wl : rs.length = gs.length := W.len
   have G14 := (G9.no f10).no f14
   have O14 : OwI h14 (Iv m h7.size) w rs := Ow.no (Ow.no O9 f10) f14
   have D14 := ((D7.no f9).no f10).no f14
   have F14 := (F9.trans f10.of_no).trans f14.of_no
   refine ⟨fun c' i' sd' h' => c' = c /\ CurD a (n + 900) h' c i' /\ RdR (Iv h3.size m) h' t gs /\ (∃ rs, OwI h' (Iv m h7.size) w rs) /\ Fr (fun k => k = b ∨ h.size ≤ k) h h', ?_, ?_⟩
   · obtain ⟨sp, cp, rp⟩ := G14.get p0 p1
     refine ⟨G14.inb p0 p1, sp, cp, fun _ => ?_, fun _ => ⟨rfl, D14.up (by omega), G14, ⟨rs, O14⟩, F14⟩⟩
     refine k_pick hL14.tail.tail.tail.tail.head hb D14 (by omega) _ _ fun y i15 sd15 h15 y0 y1 V15 D15 f15 => ⟨c, i15, sd15, y, rfl, vcur hL14 4 rfl f15 V15, ?_⟩
     have O15 : OwI h15 (Iv m h7.size) w rs := Ow.fr O14 f15 fun k hk hk2 => by have := (O14.foot hk).1.1; simp [In] at hk2; omega
     have G15 : RdR (Iv h3.size m) h15 t gs := G14.fr f15 fun k hk hk2 => by simp [In] at hk2; have := hk.1; omega
     refine int_set O15 p0 (by omega) (vcur hL14 4 rfl f15 V15) (fun q hq hk => by
       have hk1 := hk.1
       have hk2 := hk.2
       change q ∈ [(b5, _), (b4, _), (b3, _), (b2, _), (b, _)] at hq
       simp only [List.mem_cons, List.not_mem_nil, or_false] at hq
       rcases hq with rfl | rfl | rfl | rfl | rfl <;> (try simp only at hk1 hk2) <;> omega) _ fun h16 O16 f16 _ => ⟨rfl, (D15.fr f16 fun k hk hk2 => by have := hk2.1; omega).up (by omega), G15.fr f16 fun k hk hk2 => by have := hk.2; have := hk2.1; omega, ⟨_, O16⟩, (F14.trans (inb f15)).trans (f16.mono fun k _ hk => .inr (by have := hk.1; omega))⟩
   · rintro c' i17 sd17 h17 ⟨rfl, D17, G17, ⟨rs', O17⟩, f17⟩ hL17 h18 f18 hL18 h19 f19 hL19
     have s2 : ∀ k, h2.size ≤ k -> ¬ In [b2] k := fun k hk hk2 => by simp [In] at hk2; omega
     have s3 : ∀ k, h2.size ≤ k -> ¬ In [b3] k := fun k hk hk2 => by simp [In] at hk2; omega
     have R17 : RdI (Iv m h7.size) h17 w rs' := Ow.rdF O17
     refine HK t w gs rs' p i17 sd17 h19 (((G17.fr f18 fun k hk => s2 k (by have := hk.1; omega)).fr f19 fun k hk => s3 k (by have := hk.1; omega)).mono fun k hk => by have := hk.1; omega) (((R17.fr f18 fun k hk => s2 k (by have := hk.1; omega)).fr f19 fun k hk => s3 k (by have := hk.1; omega)).mono fun k hk => by have := hk.1; omega) hL19.tail.tail.tail.tail.head (((D17.fr f18 fun k hk hk2 => by simp [In] at hk2; omega).fr f19 fun k hk hk2 => by simp [In] at hk2; omega).up (by omega)) (fin _ ((f17.trans (f18.mono fun k _ hk => .inr (by simp [In] at hk; omega))).trans (f19.mono fun k _ hk => .inr (by simp [In] at hk; omega))))
theorem k_DrawCycleFrom {S : Nat -> Prop} {h : Heap} {code : Sl} {vs : List Value} (C : RdV S h 1 code vs) (B : ∀ v, v ∈ vs -> ∃ m : Int, v = Value.int .u8 m /\ 0 ≤ m /\ m ≤ 255) (K : KQ) (HK : ∀ (t w : Sl) (gs : List (List Int)) (rs : List Int) (p : Int) h', RdR (fun k => h.size ≤ k) h' t gs -> RdI (fun k => h.size ≤ k) h' w rs -> Fr No h h' -> K (.tuple #[.agg #[t.v], .agg #[w.v, VI p]]) h') : callM Tryz.prog 73 #[code.v] h K := by
 refine v73 code h K fun b1 b2 b3 h3 hb1 hb2 hb3 f3 hL3 => ?_
 have f3 := f3.in_nil
 have z3 := f3.size
 have l3 : b3 < h3.size := hL3.head.lt
 have l2 : b2 < h3.size := hL3.tail.head.lt
 have l1 : b1 < h3.size := hL3.tail.tail.head.lt
 have D3 : CurD h.size 0 h3 code 0 := ⟨⟨vs, ((RdV.lt C).mono fun k hk => hk.2).no f3, B⟩, by omega, by omega⟩
 refine k_drcycled hL3.head hb3 D3 (by omega) _ fun t w gs rs p i4 sd4 h4 G4 R4 V4 D4 f4 => ⟨code, i4, sd4, t, w, p, rfl, vcur hL3 0 rfl f4 V4, fun h6 f6 hL6 => ?_⟩
 have off : ∀ k, h3.size ≤ k -> ¬ In [b2, b1] k := fun k hk hk2 => by simp only [In, List.mem_cons, List.not_mem_nil, or_false] at hk2; omega
 have u4 : Fr (fun k => h.size ≤ k) h3 h4 := f4.mono fun k _ hk => by simp [In] at hk; omega
 have u6 : Fr (fun k => h.size ≤ k) h4 h6 := f6.mono fun k _ hk => by simp only [In, List.mem_cons, List.not_mem_nil, or_false] at hk; omega
 exact HK t w gs rs p h6 ((G4.fr f6 off).mono fun k hk => by omega) ((R4.fr f6 off).mono fun k hk => by omega) (((f3.of_no.trans u4).trans u6).mono fun k hk hk2 => absurd hk2 (by omega))
theorem k_DrawIsUnicycle {S : Nat -> Prop} {h : Heap} {code : Sl} {vs : List Value} (C : RdV S h 1 code vs) (B : ∀ v, v ∈ vs -> ∃ m : Int, v = Value.int .u8 m /\ 0 ≤ m /\ m ≤ 255) (K : KQ) (HK : ∀ (t w : Sl) (gs : List (List Int)) (rs : List Int) (p : Int) h', RdR (fun k => h.size ≤ k) h' t gs -> RdI (fun k => h.size ≤ k) h' w rs -> Fr No h h' -> K (.tuple #[.agg #[t.v], .agg #[w.v, VI p]]) h') : callM Tryz.prog 26 #[code.v] h K := by
 refine v26 code h K fun b1 b2 h2 hb1 hb2 f2 hL2 => ?_
 have f2 := f2.in_nil
 have z2 := f2.size
 have l2 : b2 < h2.size := hL2.head.lt
 have l1 : b1 < h2.size := hL2.tail.head.lt
 refine k_DrawCycleFrom (C.no f2) B _ fun t w gs rs p h3 G3 R3 f3 => ⟨t, w, p, rfl, hL2.of_no f3, fun h5 f5 hL5 => ?_⟩
 have off : ∀ k, h2.size ≤ k -> ¬ In [b2, b1] k := fun k hk hk2 => by simp only [In, List.mem_cons, List.not_mem_nil, or_false] at hk2; omega
 have u5 : Fr (fun k => h.size ≤ k) h3 h5 := f5.mono fun k _ hk => by simp only [In, List.mem_cons, List.not_mem_nil, or_false] at hk; omega
 exact HK t w gs rs p h5 ((G3.fr f5 off).mono fun k hk => by omega) ((R3.fr f5 off).mono fun k hk => by omega) (((f2.trans f3).of_no.trans u5).mono fun k hk hk2 => absurd hk2 (by omega))
theorem k_DrawCountUnicycles {S : Nat -> Prop} {h : Heap} {code : Sl} {vs : List Value} (C : RdV S h 1 code vs) (B : ∀ v, v ∈ vs -> ∃ m : Int, v = Value.int .u8 m /\ 0 ≤ m /\ m ≤ 255) (K : KQ) (HK : ∀ (t : Sl) (gs : List (List Int)) h', RdR (fun k => h.size ≤ k) h' t gs -> Fr No h h' -> K (.agg #[t.v]) h') : callM Tryz.prog 40 #[code.v] h K := by
 refine v40 code h K fun b1 h1 hb1 f1 hL1 => ?_
 have f1 := f1.in_nil
 have z1 := f1.size
 have l1 : b1 < h1.size := hL1.head.lt
 refine k_DrawIsGraph (C.no f1) B _ fun t gs h2 gl G2 f2 => ⟨t, rfl, hL1.of_no f2, fun h3 f3 hL3 => ?_⟩
 refine HK t gs h3 ((G2.fr f3 fun k hk hk2 => by simp [In] at hk2; omega).mono fun k hk => by omega) ?_
 exact ((f1.no_trans f2).of_no.trans f3 : Fr (In [b1]) h h3).mono fun k hk hk2 => by simp [In] at hk2; omega
theorem k_DrawCountTrees {S : Nat -> Prop} {h : Heap} {code : Sl} {vs : List Value} (C : RdV S h 1 code vs) (B : ∀ v, v ∈ vs -> ∃ m : Int, v = Value.int .u8 m /\ 0 ≤ m /\ m ≤ 255) (K : KQ) (HK : ∀ (t : Sl) (gs : List (List Int)) (p : Int) h', RdR (fun k => h.size ≤ k) h' t gs -> Fr No h h' -> K (.tuple #[.agg #[t.v], VI p]) h') : callM Tryz.prog 97 #[code.v] h K := by
 refine v97 code h K fun b1 b2 h2 hb1 hb2 f2 hL2 => ?_
 have f2 := f2.in_nil
 have z2 := f2.size
 have l2 : b2 < h2.size := hL2.head.lt
 have l1 : b1 < h2.size := hL2.tail.head.lt
 have D2 : CurD h.size 0 h2 code 0 := ⟨⟨vs, ((RdV.lt C).mono fun k hk => hk.2).no f2, B⟩, by omega, by omega⟩
 refine k_drsinking hL2.head hb2 D2 (by omega) _ fun t gs p i3 sd3 h3 gl G3 V3 D3 f3 => ⟨code, i3, sd3, t, p, rfl, vcur hL2 0 rfl f3 V3, fun h4 f4 hL4 => ?_⟩
 have u3 : Fr (fun k => h.size ≤ k) h2 h3 := f3.mono fun k _ hk => by simp [In] at hk; omega
 have u4 : Fr (fun k => h.size ≤ k) h3 h4 := f4.mono fun k _ hk => by simp [In] at hk; omega
 exact HK t gs p h4 ((G3.fr f4 fun k hk hk2 => by simp [In] at hk2; omega).mono fun k hk => by omega) (((f2.of_no.trans u3).trans u4).mono fun k hk hk2 => absurd hk2 (by omega))
theorem k_DrawAllUnicycles {S : Nat -> Prop} {h : Heap} {code : Sl} {vs : List Value} (C : RdV S h 1 code vs) (B : ∀ v, v ∈ vs -> ∃ m : Int, v = Value.int .u8 m /\ 0 ≤ m /\ m ≤ 255) (K : KQ) (HK : ∀ (t : Sl) (gs : List (List Int)) (p : Int) h', RdR (fun k => h.size ≤ k) h' t gs -> Fr No h h' -> K (.tuple #[.agg #[t.v], VI p]) h') : callM Tryz.prog 45 #[code.v] h K := by
 refine v45 code h K fun b1 h1 hb1 f1 hL1 => ?_
 have f1 := f1.in_nil
 have z1 := f1.size
 have l1 : b1 < h1.size := hL1.head.lt
 refine k_DrawCountTrees (C.no f1) B _ fun t gs p h2 G2 f2 => ⟨t, p, rfl, hL1.of_no f2, fun h3 f3 hL3 => ?_⟩
 refine HK t gs p h3 ((G2.fr f3 fun k hk hk2 => by simp [In] at hk2; omega).mono fun k hk => by omega) ?_
 exact ((f1.no_trans f2).of_no.trans f3 : Fr (In [b1]) h h3).mono fun k hk hk2 => by simp [In] at hk2; omega
theorem k_DrawUnicycleOfTree {S : Nat -> Prop} {h : Heap} {code : Sl} {vs : List Value} (C : RdV S h 1 code vs) (B : ∀ v, v ∈ vs -> ∃ m : Int, v = Value.int .u8 m /\ 0 ≤ m /\ m ≤ 255) (K : KQ) (HK : ∀ (t w : Sl) (gs : List (List Int)) (rs : List Int) (p k : Int) h', RdR (fun k => h.size ≤ k) h' t gs -> RdI (fun k => h.size ≤ k) h' w rs -> Fr No h h' -> K (.tuple #[.agg #[t.v], VI p, w.v, VI k]) h') : callM Tryz.prog 47 #[code.v] h K := by
 refine v47 code h K fun b1 b2 h2 hb1 hb2 f2 hL2 => ?_
 have f2 := f2.in_nil
 have z2 := f2.size
 have l2 : b2 < h2.size := hL2.head.lt
 have l1 : b1 < h2.size := hL2.tail.head.lt
 have D2 : CurD h.size 0 h2 code 0 := ⟨⟨vs, ((RdV.lt C).mono fun k hk => hk.2).no f2, B⟩, by omega, by omega⟩
 refine k_drrooted hL2.head hb2 D2 (by omega) _ fun t w gs rs p m i3 sd3 h3 gl hm G3 O3 V3 D3 f3 => ⟨code, i3, sd3, t, p, w, rfl, vcur hL2 0 rfl f3 V3, fun b3 h5 hb3 f5 hL5 => ?_⟩
 have f5 := f5.in_nil
 have R3 : RdI (fun k => m ≤ k) h3 w rs := Ow.rdF O3
 refine k_pick hL5.tail.head hb2 (D3.no f5) (by omega) 5 _ fun x i6 sd6 h6 x0 x1 V6 D6 f6 => ⟨code, i6, sd6, x, rfl, vcur hL5 1 rfl f6 V6, ?_⟩
 refine k_pick (vcur hL5 1 rfl f6 V6).tail.head hb2 D6 (by omega) 9 _ fun y i7 sd7 h7 y0 y1 V7 D7 f7 => ⟨code, i7, sd7, y, rfl, vcur (vcur hL5 1 rfl f6 V6) 1 rfl f7 V7, fun h8 f8 hL8 => ?_⟩
 have u : ∀ {x y : Heap}, Fr (In [b2]) x y -> Fr (fun k => h.size ≤ k) x y := fun f => f.mono fun k _ hk => by simp [In] at hk; omega
 have o2 : ∀ k, h2.size ≤ k -> ¬ In [b2] k := fun k hk hk2 => by simp [In] at hk2; omega
 have o1 : ∀ k, h2.size ≤ k -> ¬ In [b1] k := fun k hk hk2 => by simp [In] at hk2; omega
 have u8 : Fr (fun k => h.size ≤ k) h7 h8 := f8.mono fun k _ hk => by simp [In] at hk; omega
 exact HK t w gs rs p _ h8 (((((G3.no f5).fr f6 fun k hk => o2 k hk.1).fr f7 fun k hk => o2 k hk.1).fr f8 fun k hk => o1 k hk.1).mono fun k hk => by have := hk.1; omega) (((((R3.no f5).fr f6 fun k hk => o2 k (by omega)).fr f7 fun k hk => o2 k (by omega)).fr f8 fun k hk => o1 k (by omega)).mono fun k hk => by omega) ((((((f2.of_no.trans (u f3)).trans f5.of_no).trans (u f6)).trans (u f7)).trans u8).mono fun k hk hk2 => absurd hk2 (by omega))
theorem k_wWalk {S S' : Nat -> Prop} {h : Heap} {a b : Sl} {xs ys : List Int} (H : RdI S h a xs) (H' : RdI S' h b ys) (p q : Int) : Ret Tryz.prog 37 #[.agg #[a.v, VI p], .agg #[b.v, VI q]] h (VB (decide (p = q /\ xs = ys))) := by
 intro K HK
 refine v37 a p b q h K ⟨fun e b1 b2 h2 hb1 hb2 f2 hL2 => ?_, fun e b1 b2 h2 hb1 hb2 f2 hL2 => ?_⟩
 · simp only [decide_eq_true_eq] at e
   have f2 := f2.in_nil
   refine k_wSame (H.no f2) (H'.no f2) _ ⟨_, rfl, hL2, ?_⟩
   rw [show decide (p = q /\ xs = ys) = decide (xs = ys) by simp [e]] at HK
   exact HK h2 f2
 · simp only [decide_eq_false_iff_not] at e
   rw [show decide (p = q /\ xs = ys) = false by simp [e]] at HK
   exact HK h2 f2.in_nil
theorem k_IsWalk {S S' : Nat -> Prop} {h : Heap} {g s : Sl} {xss : List (List Int)} {rs : List Int} (G : RdR S h g xss) (H : RdI S' h s rs) (p : Int) : Ret Tryz.prog 50 #[.agg #[g.v], .agg #[s.v, VI p]] h (VB (walkB xss rs p)) := by
 intro K HK
 refine v50 g s p h K fun b1 b2 h2 hb1 hb2 f2 hL2 => ?_
 have f2 := f2.in_nil
 exact k_isWalk (G.no f2) (H.no f2) p _ fun h3 f3 => ⟨_, rfl, hL2.of_no f3, HK h3 (f2.trans f3)⟩
theorem k_wWalks {S S' : Nat -> Prop} {h : Heap} {a b : Sl} {ws : List (List Int × Int)} (H : RdW S h a ws) (H' : RdW S' h b ws) : Ret Tryz.prog 49 #[a.v, b.v] h (VB true) := by
 intro K HK
 have hl := H.len
 have hbig := H.big
 refine v49 a b h K ⟨fun e => ?_, fun _ => ?_⟩
 · have := not_t e
   rw [H.len, H'.len] at this
   simp at this
 · refine ⟨fun n i h' => Fr No h h' /\ 0 ≤ i /\ i + n = (ws.length : Int), ⟨ws.length, Fr.refl _ _, by omega, by omega⟩, ?_⟩
   rintro n i h1 ⟨f, i0, i1⟩ hL
   refine ⟨fun e => ?_, fun e => HK _ f⟩
   have hi : i < (ws.length : Int) := by simp at e; omega
   obtain ⟨b1, x, c1, r1⟩ := (H.no f).get i0 hi
   obtain ⟨b2, y, c2, r2⟩ := (H'.no f).get i0 hi
   refine ⟨b1, x, _, c1, b2, y, _, c2, k_wWalk r1 r2 _ _ _ fun h2 f2 => ⟨_, rfl, .nil, fun e => ?_, fun e => ?_⟩⟩
   · rw [decide_eq_true ⟨rfl, rfl⟩] at e
     simp at e
   · rw [w64_succ (n := ws.length) i0 hi (by omega)]
     exact ⟨n - 1, by omega, f.no_trans f2, by omega, by omega⟩
theorem k_wHas {S : Nat -> Prop} {h : Heap} {s : Sl} {xs : List Int} (H : RdI S h s xs) (v : Int) (K : KQ) (HK : K (VB (decide (v ∈ xs))) h) : callM Tryz.prog 38 #[s.v, VI v] h K := by
 refine v38 s v h K ⟨fun n i h' => h' = h /\ 0 ≤ i /\ i + n = (xs.length : Int) /\ ∀ j : Nat, (j : Int) < i -> xs.getD j 0 ≠ v, ⟨xs.length, rfl, by omega, by omega, fun j hj => by omega⟩, ?_⟩
 rintro n i h1 ⟨rfl, i0, i1, i2⟩ hL
 refine ⟨fun e => ?_, fun e => ?_⟩
 · have hi := H.lt e
   refine ⟨H.inb i0 hi, _, H.get i0 hi, fun e2 => ?_, fun e2 => ?_⟩
   · simp only [decide_eq_true_eq] at e2
     rw [decide_eq_true (by rw [← e2]; exact List.getElem_mem _)] at HK
     exact HK
   · simp only [decide_eq_false_iff_not] at e2
     rw [H.succ i0 hi]
     refine ⟨n - 1, by omega, rfl, by omega, by omega, fun j hj => ?_⟩
     by_cases h5 : (j : Int) < i
     · exact i2 j h5
     · have : j = i.toNat := by omega
       subst this
       rw [getD_getI (by omega)]
       exact e2
 · have hi := H.ge e
   rw [decide_eq_false fun hm => by
     obtain ⟨j, hj, e⟩ := List.getElem_of_mem hm
     exact i2 j (by omega) (by rw [getD_getI hj]; exact e)] at HK
   exact HK
theorem k_IsUnicycle {S S' : Nat -> Prop} {h : Heap} {g w : Sl} {xss : List (List Int)} {rs : List Int} (G : RdR S h g xss) (H : RdI S' h w rs) (p : Int) (K : KQ) (HK : ∀ h', Fr No h h' -> K (.tuple #[VB (walkB xss rs p && uniB xss rs p), VB (walkB xss rs p)]) h') : callM Tryz.prog 27 #[.agg #[g.v], .agg #[w.v, VI p]] h K := by
 refine v27 g w p h K fun b1 b2 h2 hb1 hb2 f2 hL2 => ?_
 have f2 := f2.in_nil
 refine k_isWalk (G.no f2) (H.no f2) p _ fun h3 f3 => ⟨_, rfl, hL2.of_no f3, fun e => ?_, fun e => ?_⟩
 · rw [not_t e] at HK
   exact HK h3 (f2.trans f3)
 · rw [not_f e] at HK
   have f03 := f2.trans f3
   refine k_isUnicycle (G.no f03) (H.no f03) (wok_of (not_f e)) _ fun h4 f4 => ⟨_, rfl, (hL2.of_no f3).of_no f4, ?_⟩
   rw [Bool.true_and] at HK
   exact HK h4 (f03.trans f4)
theorem walk_to3 {g : List (List Int)} {rs : List Int} {p : Int} (W : WOK g (rs, p)) : walkB g rs p = true := by
 unfold walkB
 have h1 := W.lo
 have h2 := W.hi
 have h3 := W.len
 simp only at h1 h2 h3
 rw [W.graph, inR_iff.2 ⟨h1, by omega⟩, decide_eq_true h3, Bool.true_and, Bool.true_and, Bool.true_and, List.all_eq_true]
 intro x hx
 obtain ⟨i, hi, rfl⟩ := List.mem_iff_getElem.1 hx
 rw [List.length_zip] at hi
 have := W.rot i (by simp only; omega) (by omega)
 rw [List.getElem_zip]
 unfold rotB
 rw [inR_iff]
 exact this
theorem uniB_o {g : List (List Int)} {rs : List Int} {a : Int} (h : uniB g rs a = true) : ∀ p : Nat, p < g.length -> 0 ≤ itx g rs p g.length /\ ∃ k, g.length ≤ k /\ itx g rs p k = a := by
 refine Classical.byContradiction fun hh => ?_
 rw [uniB_f hh] at h
 cases h
theorem uni_next {g : List (List Int)} {rs : List Int} {p : Int} (W : WOK g (rs, p)) (hu : uniB g rs p = true) : ∃ s2, stepP g (rs, p) = some s2 /\ WOK g s2 /\ uniB g s2.1 s2.2 = true := by
 have p0 : 0 ≤ p := W.lo
 have p1 : p < (g.length : Int) := W.hi
 have hp : p.toNat < g.length := by omega
 obtain ⟨hz, ht⟩ := (uni_tree W).1 hu
 have wl : rs.length = g.length := W.len
 generalize hc : (((rs.getD p.toNat 0).toNat + 1) % (g.getD p.toNat []).length : Nat) = c
 have hcl : c < (g.getD p.toNat []).length := by rw [← hc]; exact Nat.mod_lt _ (by omega)
 have hs : stepP g (rs, p) = some (rs.set p.toNat (c : Int), (g.getD p.toNat []).getD c 0) := by
   unfold stepP
   rw [if_neg hz, hc]
 have W2 := W.step hs
 refine ⟨_, hs, W2, ?_⟩
 have ge : g.getD p.toNat [] = g[p.toNat] := getD_get hp
 have W' : WOK g (rs.set p.toNat (c : Int), p) := wok_put W hp (by omega) (by rw [ge] at hcl; omega)
 have hu' : uniB g (rs.set p.toNat (c : Int)) p = true := (uni_tree W').2 ⟨hz, by rw [List.set_set]; exact ht⟩
 have hn : nx g (rs.set p.toNat (c : Int)) p = (g.getD p.toNat []).getD c 0 := by
   unfold nx
   rw [if_neg (by omega), if_neg hz, getD_getI (show p.toNat < (rs.set p.toNat (c : Int)).length by rw [List.length_set]; omega), List.getElem_set_self]
   rfl
 refine uniB_t fun q hq => ?_
 obtain ⟨a, k, hk, e⟩ := uniB_o hu' q hq
 exact ⟨a, k + 1, by omega, by rw [itx, e, hn]⟩
theorem run_one {g : List (List Int)} {rs : List Int} {p : Int} (W : WOK g (rs, p)) {s2 : St} (h : stepP g (rs, p) = some s2) : runOfP g rs p 1 = (s2, true) := by
 unfold runOfP
 rw [walk_to3 W, show inR 0 2000 1 = true from inR_iff.2 ⟨by omega, by omega⟩]
 simp only [Bool.and_self, if_true, show (1 : Int).toNat = 0 + 1 from rfl, runT, h]
theorem first_uni {g : List (List Int)} : ∀ (f : Nat) (n : Int) (s : St) (T : Int), 0 ≤ n -> WOK g s -> firstGo g (uniT g) 0 f n () s = (T, true) -> n ≤ T /\ T < n + f /\ ∃ s', runT g (fun (_ : Unit) _ _ => ()) (T - n).toNat () s = some ((), s') /\ WOK g s' /\ uniB g s'.1 s'.2 = true
 | 0, n, s, T, h0, W, h => by simp [firstGo] at h
 | f + 1, n, s, T, h0, W, h => by
   rw [firstGo, if_pos h0] at h
   by_cases hu : uniB g s.1 s.2 = true
   · simp only [uniT, hu, if_true, Prod.mk.injEq, and_true] at h
     subst h
     exact ⟨Int.le_refl _, by omega, s, by rw [show (n - n).toNat = 0 by omega]; rfl, W, hu⟩
   · rw [if_neg (by simpa [uniT] using hu)] at h
     split at h
     · simp at h
     · rename_i s2 hs
       obtain ⟨a, b, s', hr, W', hu'⟩ := first_uni f (n + 1) s2 T (by omega) (W.step hs) h
       refine ⟨by omega, by omega, s', ?_, W', hu'⟩
       rw [show (T - n).toNat = (T - (n + 1)).toNat + 1 by omega, runT, hs]
       exact hr
theorem touni_run {g : List (List Int)} {rs : List Int} {p T : Int} (h : toUniP g rs p = (T, true)) : walkB g rs p = true /\ ∃ s', runOfP g rs p T = (s', true) /\ WOK g s' /\ uniB g s'.1 s'.2 = true := by
 unfold toUniP at h
 split at h
 · rename_i hw
   obtain ⟨a, b, s', hr, W', hu'⟩ := first_uni 2001 0 (rs, p) T (Int.le_refl _) (wok_of hw) h
   refine ⟨hw, s', ?_, W', hu'⟩
   unfold runOfP
   rw [hw, show inR 0 2000 T = true from inR_iff.2 ⟨by omega, by omega⟩]
   rw [Int.sub_zero] at hr
   simp only [Bool.and_self, if_true, hr]
 · simp at h
theorem touni_zero {g : List (List Int)} {rs : List Int} {p : Int} (h : walkB g rs p = true) (hu : uniB g rs p = true) : toUniP g rs p = (0, true) := by
 unfold toUniP
 rw [if_pos h, firstGo, if_pos (Int.le_refl _)]
 simp [uniT, hu]
theorem lasso_ex {g : List (List Int)} {rs : List Int} {p : Int} : ∀ (N i d : Nat), 1 ≤ d -> i + d ≤ N -> itx g rs p i = itx g rs p (i + d) -> ∃ i' d', Lasso g rs p i' d' /\ i' + d' ≤ N
 | 0, i, d, h1, h2, _ => by omega
 | N + 1, i, d, h1, h2, h3 => by
   by_cases hx : ∃ a b, a < b /\ b < i + d /\ itx g rs p a = itx g rs p b
   · obtain ⟨a, b, e1, e2, e3⟩ := hx
     obtain ⟨i', d', L, hl⟩ := lasso_ex N a (b - a) (by omega) (by omega) (by rw [show a + (b - a) = b by omega]; exact e3)
     exact ⟨i', d', L, by omega⟩
   · exact ⟨i, d, ⟨h1, h3, fun a b e1 e2 e3 => hx ⟨a, b, e1, e2, e3⟩⟩, h2⟩
theorem cyF_ex {g : List (List Int)} {rs : List Int} {p : Int} (W : WOK g (rs, p)) (h : 0 ≤ itx g rs p g.length) : ∃ i d, Lasso g rs p i d /\ i + d ≤ g.length /\ cyF g rs p = ((List.range d).map fun r => itx g rs p (i + r), true) := by
 obtain ⟨i, d, h1, h2, h3⟩ := itx_cyc W W.lo W.hi h
 obtain ⟨i', d', L, hl⟩ := lasso_ex g.length i d h1 h2 h3
 exact ⟨i', d', L, hl, cyF_some h L⟩
theorem cyFP_t {g : List (List Int)} {rs : List Int} {p : Int} (h : (cyFP g rs p).2 = true) : WOK g (rs, p) /\ 0 ≤ itx g rs p g.length /\ ∃ i d, 1 ≤ d /\ i ≤ g.length /\ itx g rs p i = itx g rs p (i + d) /\ (cyFP g rs p).1 = (List.range d).map fun r => itx g rs p (i + r) := by
 unfold cyFP at h ⊢
 split at h
 · rename_i hw
   rw [if_pos hw]
   have W := wok_of hw
   by_cases hn : itx g rs p g.length < 0
   · rw [cyF_none hn] at h; cases h
   obtain ⟨i, d, L, hl, e⟩ := cyF_ex W (by omega)
   exact ⟨W, by omega, i, d, L.d1, by omega, L.eq, by rw [e]⟩
 · cases h
theorem uni_on {g : List (List Int)} {rs : List Int} {p : Int} (h : walkB g rs p = true) (hu : uniB g rs p = true) : (cyFP g rs p).2 = true /\ p ∈ (cyFP g rs p).1 := by
 have W := wok_of h
 have p0 : 0 ≤ p := W.lo
 have p1 : p < (g.length : Int) := W.hi
 obtain ⟨a, k, hk, e⟩ := uniB_o hu p.toNat (by omega)
 rw [Int.toNat_of_nonneg p0] at a e
 obtain ⟨i, d, L, hl, ec⟩ := cyF_ex W a
 have er : cyFP g rs p = cyF g rs p := by unfold cyFP; rw [if_pos h]
 rw [er, ec]
 exact ⟨rfl, (cyc_mem L.eq L.d1 (by omega) p).2 ⟨k, hk, e⟩⟩
theorem uni_back_tree {g : List (List Int)} {rs : List Int} {p : Int} (W : WOK g (rs, p)) (hu : uniB g rs p = true) : isTreeP g p (rs.set p.toNat 0) = (true, true) /\ (∃ h : p.toNat < rs.length, uotP g p (rs.set p.toNat 0) rs[p.toNat] = ((rs, p), true)) := by
 have p0 : 0 ≤ p := W.lo
 have p1 : p < (g.length : Int) := W.hi
 have hp : p.toNat < g.length := by omega
 have wl : rs.length = g.length := W.len
 have gl := graph_len W.graph
 obtain ⟨hz, ht⟩ := (uni_tree W).1 hu
 have W' : WOK g (rs.set p.toNat 0, p) := wok_put W hp (Int.le_refl _) (by omega)
 have hs : sinkrB g p (rs.set p.toNat 0) = true := by
   unfold sinkrB
   rw [W.graph, inR_iff.2 ⟨p0, by omega⟩, walk_to3 (wok_at W' (Int.le_refl _) (by omega)), getD_getI (show p.toNat < (rs.set p.toNat 0).length by rw [List.length_set]; omega), List.getElem_set_self]
   rfl
 refine ⟨by unfold isTreeP; rw [if_pos hs, ht], by omega, ?_⟩
 have hr := W.rot p.toNat (by (try simp only); omega) hp
 have ge : g.getD p.toNat [] = g[p.toNat] := getD_get hp
 rw [ge] at hz
 (try simp only at hr)
 unfold uotP
 rw [hs, ht, inR_iff.2 ⟨hr.1, by rw [ge]; omega⟩]
 simp only [Bool.and_self, if_true]
 rw [List.set_set, List.set_getElem_self]
theorem uniS_row {g : List (List Int)} (hg : graphB g = true) {p : Nat} : ∀ k, k ≤ g.length -> p < k -> treesN g p * (g.getD p []).length ≤ uniS g k
 | 0, _, h => by omega
 | k + 1, h, h2 => by
   have a := uniS_bd hg k (by omega)
   have b := uni_row hg (show k < g.length by omega)
   by_cases e : p = k
   · subst e; simp only [uniS]; omega
   · have := uniS_row hg k (by omega) (show p < k by omega)
     simp only [uniS]; omega
theorem all_few {g : List (List Int)} (hg : graphB g = true) {p : Int} (p0 : 0 ≤ p) (p1 : p < (g.length : Int)) (h : uniS g g.length ≤ 60) : allUniP g p = ((allUni g p).map fun rs => (rs, p), true) /\ ((allUni g p).length : Int) = treesN g p * (g.getD p.toNat []).length := by
 have hr := uniS_row hg (p := p.toNat) g.length (Nat.le_refl _) (by omega)
 rw [Int.toNat_of_nonneg p0] at hr
 refine ⟨?_, ?_⟩
 · unfold allUniP
   rw [hg, inR_iff.2 ⟨p0, by omega⟩]
   simp only [Bool.and_self, if_true]
   rw [if_pos (by omega)]
 · rw [(ins_uni hg p0 p1).2, treesN_eq hg p0 p1, Int.natCast_mul]
theorem all_each {g : List (List Int)} (hg : graphB g = true) {p : Int} (p0 : 0 ≤ p) (p1 : p < (g.length : Int)) {rs : List Int} (h : rs ∈ allUni g p) : walkB g rs p = true /\ uniB g rs p = true := by
 have h2 := List.mem_filter.1 h
 exact ⟨walk_to3 (rot_ok hg p0 p1 h2.1).1, h2.2⟩
theorem uot_walk {g : List (List Int)} {s k : Int} {rs : List Int} (h : (uotP g s rs k).2 = true) : walkB g (uotP g s rs k).1.1 (uotP g s rs k).1.2 = true := by
 unfold uotP at h ⊢
 split at h
 · rename_i hh
   rw [if_pos hh]
   obtain ⟨h1, h2⟩ := Bool.and_eq_true_iff.1 hh
   obtain ⟨h3, h4⟩ := Bool.and_eq_true_iff.1 h2
   unfold sinkrB at h1
   obtain ⟨ea, eb⟩ := Bool.and_eq_true_iff.1 h1
   have W : WOK g (rs, s) := wok_of (by rw [walkB_pl2 ea]; exact (Bool.and_eq_true_iff.1 eb).1)
   have s0 : 0 ≤ s := W.lo
   have s1 : s < (g.length : Int) := W.hi
   have kr := inR_iff.1 h4
   rw [getD_get (show s.toNat < g.length by omega)] at kr
   exact walk_to3 (wok_put W (show s.toNat < g.length by omega) kr.1 (by omega))
 · cases h
theorem touP_2 (g : List (List Int)) (rs : List Int) (p : Int) : (touP g rs p).2 = (walkB g rs p && uniB g rs p) := by
 unfold touP
 split
 · rename_i h; rw [h]
 · rename_i h; rw [Bool.not_eq_true] at h; rw [h]
theorem k_wLess {S S' : Nat -> Prop} {h : Heap} {a b : Sl} {xs ys : List Int} (H : RdI S h a xs) (H' : RdI S' h b ys) (hl : xs.length = ys.length) (K : KQ) (HK : K (VB (ltL xs ys)) h) : callM Tryz.prog 44 #[a.v, b.v] h K := by
 refine v44 a b h K ⟨fun m i h' => h' = h /\ 0 ≤ i /\ i + m = (xs.length : Int) /\ ltL xs ys = ltL (xs.drop i.toNat) (ys.drop i.toNat), ⟨xs.length, rfl, Int.le_refl _, by omega, by simp⟩, ?_⟩
 rintro m i h1 ⟨rfl, i0, i1, el⟩ hL
 refine ⟨fun e => ?_, fun e => ?_⟩
 · have hi := H.lt e
   have hi' : i < (ys.length : Int) := by omega
   rw [drop_cons xs i0 hi, drop_cons ys i0 hi', ltL] at el
   refine ⟨H.inb i0 hi, _, H.get i0 hi, H'.inb i0 hi', _, H'.get i0 hi', fun e2 => ⟨H.inb i0 hi, _, H.get i0 hi, H'.inb i0 hi', _, H'.get i0 hi', ?_⟩, fun e2 => ?_⟩
   · simp only [Bool.not_eq_true', decide_eq_false_iff_not] at e2
     rw [if_neg e2] at el
     rw [← el]
     exact HK
   · simp only [Bool.not_eq_false', decide_eq_true_eq] at e2
     rw [if_pos e2] at el
     rw [H.succ i0 hi]
     exact ⟨m - 1, by omega, rfl, by omega, by omega, el⟩
 · have hi := H.ge e
   rw [List.drop_of_length_le (by omega), List.drop_of_length_le (by omega)] at el
   rw [el] at HK
   exact HK
def w4_1 (P : Program) (s99b : Bool) (h16 : Heap) (b2 : Nat) (s69b : Sl) (s69c : Int) (b1 : Nat) (s69 : Sl) (s99 : Sl) (s87b : Bool) (s87 : Sl) (s111b : Bool) (s111 : Int) (m1 : Sl) (K : KQ) : Prop :=
 ∃ J1 : Heap -> Prop, ((s99b = true ->
 ∃ J2 : Nat -> Int -> Heap -> Prop, (∃ n0 : Nat, J2 n0 0 h16) /\
 ∀ (n1 : Nat) (s181 : Int) (h17 : Heap), J2 n1 s181 h17 -> Vars h17 [(b2, [s69b.v, (VI s69c)]), (b1, [s69.v])] ->
 ((decide (s181 < (s99.n : Int))) = true ->
 InB s99 s181 /\
 ∃ s185 : Int, hcell h17 (Sl.at s99 s181 1) = some (VI s185) /\
 InB s69 s185 /\
 ∃ s190 : Sl, hcell h17 (Sl.at s69 s185 1) = some s190.v /\
 InB s69b s185 /\
 ∃ s195 : Int, hcell h17 (Sl.at s69b s185 1) = some (VI s195) /\
 InB s190 s195 /\
 ∃ s197 : Int, hcell h17 (Sl.at s190 s195 1) = some (VI s197) /\
 (s99.n : Int) ≠ 0 /\
 InB s99 (Int.tmod (w64 (s181 + 1)) (s99.n : Int)) /\
 ∃ s205 : Int, hcell h17 (Sl.at s99 (Int.tmod (w64 (s181 + 1)) (s99.n : Int)) 1) = some (VI s205) /\
 ((!decide (s197 = s205)) = true ->
 K (VB false) h17) /\
 ((!decide (s197 = s205)) = false ->
 ∃ m : Nat, m < n1 /\ J2 m (w64 (s181 + 1)) h17)) /\
 ((decide (s181 < (s99.n : Int))) = false ->
 J1  h17)) /\
 (s99b = false ->
 J1  h16)) /\
 ∀ (h18 : Heap), J1  h18 -> Vars h18 [(b2, [s69b.v, (VI s69c)]), (b1, [s69.v])] ->
 ∃ J3 : Heap -> Prop, ((s87b = true ->
 callM P 17 #[(.agg #[s69.v]), (VI s69c), s87.v] h18 fun r13 h19 => ∃ s214 : Bool, ∃ s214b : Bool, r13 = (.tuple #[(VB s214), (VB s214b)]) /\ Vars h19 [(b2, [s69b.v, (VI s69c)]), (b1, [s69.v])] /\
 ∃ J4 : Nat -> Sl -> Int -> Bool -> Heap -> Prop, (InB s69b s69c /\
 ∃ s227 : Int, hcell h19 (Sl.at s69b s69c 1) = some (VI s227) /\
 (callM P 35 #[(.agg #[s69.v]), (VI s69c), s87.v, (VI s227)] h19 fun r14 h20 => ∃ s228 : Sl, ∃ s228b : Int, ∃ s228c : Bool, r14 = (.tuple #[(.agg #[s228.v, (VI s228b)]), (VB s228c)]) /\ Vars h20 [(b2, [s69b.v, (VI s69c)]), (b1, [s69.v])] /\
 ∀ (b4 : Nat) (h21 : Heap), h20.size ≤ b4 -> Fr (In []) h20 h21 -> Vars h21 [(b4, [nilSl.v, (VI 0)]), (b2, [s69b.v, (VI s69c)]), (b1, [s69.v])] ->
 ∀ (h22 : Heap), Fr (In [b4]) h21 h22 -> Vars h22 [(b4, [s228.v, (VI s228b)]), (b2, [s69b.v, (VI s69c)]), (b1, [s69.v])] ->
 J4 b4 s228 s228b s228c h22) /\
 (∀ (b5 : Nat) (h23 : Heap), h19.size ≤ b5 -> Fr (In []) h19 h23 -> Vars h23 [(b5, [nilSl.v, (VI 0)]), (b2, [s69b.v, (VI s69c)]), (b1, [s69.v])] ->
 hcell h23 (Sl.at s69b s69c 1) = some (VI s227) /\
 callM P 35 #[(.agg #[s69.v]), (VI s69c), s87.v, (VI s227)] h23 fun r15 h24 => ∃ s228d : Sl, ∃ s228e : Int, ∃ s228f : Bool, r15 = (.tuple #[(.agg #[s228d.v, (VI s228e)]), (VB s228f)]) /\ Vars h24 [(b5, [nilSl.v, (VI 0)]), (b2, [s69b.v, (VI s69c)]), (b1, [s69.v])] /\
 ∀ (h25 : Heap), Fr (In [b5]) h24 h25 -> Vars h25 [(b5, [s228d.v, (VI s228e)]), (b2, [s69b.v, (VI s69c)]), (b1, [s69.v])] ->
 J4 b5 s228d s228e s228f h25)) /\
 ∀ (b3 : Nat) (y1 : Sl) (y2 : Int) (y3 : Bool) (h26 : Heap), J4 b3 y1 y2 y3 h26 -> Vars h26 [(b3, [y1.v, (VI y2)]), (b2, [s69b.v, (VI s69c)]), (b1, [s69.v])] ->
 callM P 36 #[(.agg #[s69.v]), (.agg #[s69b.v, (VI s69c)])] h26 fun r16 h27 => ∃ s234 : Sl, ∃ s234b : Int, ∃ s234c : Bool, r16 = (.tuple #[(.agg #[s234.v, (VI s234b)]), (VB s234c)]) /\ Vars h27 [(b3, [y1.v, (VI y2)]), (b2, [s69b.v, (VI s69c)]), (b1, [s69.v])] /\
 ∀ (b6 : Nat) (h29 : Heap), h27.size ≤ b6 -> Fr (In []) h27 h29 -> Vars h29 [(b6, [s234.v, (VI s234b)]), (b3, [y1.v, (VI y2)]), (b2, [s69b.v, (VI s69c)]), (b1, [s69.v])] ->
 callM P 27 #[(.agg #[s69.v]), (.agg #[s234.v, (VI s234b)])] h29 fun r17 h30 => ∃ s240 : Bool, ∃ s240b : Bool, r17 = (.tuple #[(VB s240), (VB s240b)]) /\ Vars h30 [(b6, [s234.v, (VI s234b)]), (b3, [y1.v, (VI y2)]), (b2, [s69b.v, (VI s69c)]), (b1, [s69.v])] /\
 ((!s214b) = true ->
 K (VB false) h30) /\
 ((!s214b) = false ->
 ((!s214) = true ->
 K (VB false) h30) /\
 ((!s214) = false ->
 ((!y3) = true ->
 K (VB false) h30) /\
 ((!y3) = false ->
 callM P 37 #[(.agg #[y1.v, (VI y2)]), (.agg #[s69b.v, (VI s69c)])] h30 fun r18 h31 => ∃ s256 : Bool, r18 = (VB s256) /\ Vars h31 [(b6, [s234.v, (VI s234b)]), (b3, [y1.v, (VI y2)]), (b2, [s69b.v, (VI s69c)]), (b1, [s69.v])] /\
 ((!s256) = true ->
 K (VB false) h31) /\
 ((!s256) = false ->
 ((!s234c) = true ->
 K (VB false) h31) /\
 ((!s234c) = false ->
 ((!s240b) = true ->
 K (VB false) h31) /\
 ((!s240b) = false ->
 ((!s240) = true ->
 K (VB false) h31) /\
 ((!s240) = false ->
 callM P 38 #[s99.v, (VI s69c)] h31 fun r19 h32 => ∃ s275 : Bool, r19 = (VB s275) /\ Vars h32 [(b6, [s234.v, (VI s234b)]), (b3, [y1.v, (VI y2)]), (b2, [s69b.v, (VI s69c)]), (b1, [s69.v])] /\
 ((!s275) = true ->
 K (VB false) h32) /\
 ((!s275) = false ->
 ((!s111b) = true ->
 K (VB false) h32) /\
 ((!s111b) = false ->
 ((!decide (s111 = 0)) = true ->
 K (VB false) h32) /\
 ((!decide (s111 = 0)) = false ->
 J3  h32))))))))))) /\
 (s87b = false ->
 J3  h18)) /\
 ∀ (h33 : Heap), J3  h33 -> Vars h33 [(b2, [s69b.v, (VI s69c)]), (b1, [s69.v])] ->
 ∃ J5 : Heap -> Prop, ((s111b = true ->
 callM P 39 #[(.agg #[s69.v]), (.agg #[s69b.v, (VI s69c)]), (VI s111)] h33 fun r20 h34 => ∃ s291 : Sl, ∃ s291b : Int, ∃ s291c : Bool, r20 = (.tuple #[(.agg #[s291.v, (VI s291b)]), (VB s291c)]) /\ Vars h34 [(b2, [s69b.v, (VI s69c)]), (b1, [s69.v])] /\
 ∀ (b7 : Nat) (h36 : Heap), h34.size ≤ b7 -> Fr (In []) h34 h36 -> Vars h36 [(b7, [s291.v, (VI s291b)]), (b2, [s69b.v, (VI s69c)]), (b1, [s69.v])] ->
 callM P 27 #[(.agg #[s69.v]), (.agg #[s291.v, (VI s291b)])] h36 fun r21 h37 => ∃ s297 : Bool, ∃ s297b : Bool, r21 = (.tuple #[(VB s297), (VB s297b)]) /\ Vars h37 [(b7, [s291.v, (VI s291b)]), (b2, [s69b.v, (VI s69c)]), (b1, [s69.v])] /\
 ((!s291c) = true ->
 K (VB false) h37) /\
 ((!s291c) = false ->
 ((!s297b) = true ->
 K (VB false) h37) /\
 ((!s297b) = false ->
 ((!s297) = true ->
 K (VB false) h37) /\
 ((!s297) = false ->
 J5  h37)))) /\
 (s111b = false ->
 J5  h33)) /\
 ∀ (h38 : Heap), J5  h38 -> Vars h38 [(b2, [s69b.v, (VI s69c)]), (b1, [s69.v])] ->
 callM P 40 #[m1.v] h38 fun r22 h39 => ∃ s311 : Sl, r22 = (.agg #[s311.v]) /\ Vars h39 [(b2, [s69b.v, (VI s69c)]), (b1, [s69.v])] /\
 ∀ (b8 : Nat) (h41 : Heap), h39.size ≤ b8 -> Fr (In []) h39 h41 -> Vars h41 [(b8, [s311.v]), (b2, [s69b.v, (VI s69c)]), (b1, [s69.v])] ->
 callM P 41 #[(.agg #[s311.v])] h41 fun r23 h42 => ∃ s314 : Int, ∃ s314b : Bool, r23 = (.tuple #[(VI s314), (VB s314b)]) /\ Vars h42 [(b8, [s311.v]), (b2, [s69b.v, (VI s69c)]), (b1, [s69.v])] /\
 callM P 42 #[(.agg #[s311.v])] h42 fun r24 h43 => ∃ s319 : Int, ∃ s319b : Bool, r24 = (.tuple #[(VI s319), (VB s319b)]) /\ Vars h43 [(b8, [s311.v]), (b2, [s69b.v, (VI s69c)]), (b1, [s69.v])] /\
 ((!(s314b == s319b)) = true ->
 K (VB false) h43) /\
 ((!(s314b == s319b)) = false ->
 ((!decide (s314 = s319)) = true ->
 K (VB false) h43) /\
 ((!decide (s314 = s319)) = false ->
 ∃ J6 : Heap -> Prop, ((s314b = true ->
 ((decide (s314 ≤ 60)) = true ->
 ∃ J7 : Nat -> Int -> Int -> Heap -> Prop, (∃ n0 : Nat, J7 n0 0 0 h43) /\
 ∀ (n3 : Nat) (n42 : Int) (s338 : Int) (h44 : Heap), J7 n3 n42 s338 h44 -> Vars h44 [(b8, [s311.v]), (b2, [s69b.v, (VI s69c)]), (b1, [s69.v])] ->
 ((decide (s338 < (s311.n : Int))) = true ->
 callM P 43 #[(.agg #[s311.v]), (VI s338)] h44 fun r25 h45 => ∃ s344 : Sl, ∃ s344b : Bool, r25 = (.tuple #[s344.v, (VB s344b)]) /\ Vars h45 [(b8, [s311.v]), (b2, [s69b.v, (VI s69c)]), (b1, [s69.v])] /\
 ((!s344b) = true ->
 K (VB false) h45) /\
 ((!s344b) = false ->
 ∃ J8 : Nat -> Int -> Heap -> Prop, (∃ n0 : Nat, J8 n0 0 h45) /\
 ∀ (n4 : Nat) (s351 : Int) (h46 : Heap), J8 n4 s351 h46 -> Vars h46 [(b8, [s311.v]), (b2, [s69b.v, (VI s69c)]), (b1, [s69.v])] ->
 ((decide (s351 < (s344.n : Int))) = true ->
 InB s344 s351 /\
 ∃ s355 : Sl, ∃ s355b : Int, CellsAt h46 (Sl.at s344 s351 2) [s355.v, (VI s355b)] /\
 ∀ (b9 : Nat) (h48 : Heap), h46.size ≤ b9 -> Fr (In []) h46 h48 -> Vars h48 [(b9, [s355.v, (VI s355b)]), (b8, [s311.v]), (b2, [s69b.v, (VI s69c)]), (b1, [s69.v])] ->
 callM P 27 #[(.agg #[s311.v]), (.agg #[s355.v, (VI s355b)])] h48 fun r26 h49 => ∃ s359 : Bool, ∃ s359b : Bool, r26 = (.tuple #[(VB s359), (VB s359b)]) /\ Vars h49 [(b9, [s355.v, (VI s355b)]), (b8, [s311.v]), (b2, [s69b.v, (VI s69c)]), (b1, [s69.v])] /\
 ((!s359b) = true ->
 K (VB false) h49) /\
 ((!s359b) = false ->
 ((!s359) = true ->
 K (VB false) h49) /\
 ((!s359) = false ->
 ((!decide (s355b = s338)) = true ->
 K (VB false) h49) /\
 ((!decide (s355b = s338)) = false ->
 ((decide (0 < s351)) = true ->
 InB s344 (w64 (s351 - 1)) /\
 ∃ s383 : Sl, hcell h49 (Addr.add (Sl.at s344 (w64 (s351 - 1)) 2) 0) = some s383.v /\
 callM P 44 #[s383.v, s355.v] h49 fun r27 h50 => ∃ s386 : Bool, r27 = (VB s386) /\ Vars h50 [(b9, [s355.v, (VI s355b)]), (b8, [s311.v]), (b2, [s69b.v, (VI s69c)]), (b1, [s69.v])] /\
 ((!s386) = true ->
 K (VB false) h50) /\
 ((!s386) = false ->
 ∃ m : Nat, m < n4 /\ J8 m (w64 (s351 + 1)) h50)) /\
 ((decide (0 < s351)) = false ->
 ∃ m : Nat, m < n4 /\ J8 m (w64 (s351 + 1)) h49))))) /\
 ((decide (s351 < (s344.n : Int))) = false ->
 ∃ m : Nat, m < n3 /\ J7 m (w64 (n42 + (s344.n : Int))) (w64 (s338 + 1)) h46))) /\
 ((decide (s338 < (s311.n : Int))) = false ->
 ((!decide (n42 = s314)) = true ->
 K (VB false) h44) /\
 ((!decide (n42 = s314)) = false ->
 J6  h44))) /\
 ((decide (s314 ≤ 60)) = false ->
 J6  h43)) /\
 (s314b = false ->
 J6  h43)) /\
 ∀ (h51 : Heap), J6  h51 -> Vars h51 [(b8, [s311.v]), (b2, [s69b.v, (VI s69c)]), (b1, [s69.v])] ->
 callM P 45 #[m1.v] h51 fun r28 h52 => ∃ s401 : Sl, ∃ s401b : Int, r28 = (.tuple #[(.agg #[s401.v]), (VI s401b)]) /\ Vars h52 [(b8, [s311.v]), (b2, [s69b.v, (VI s69c)]), (b1, [s69.v])] /\
 ∀ (b10 : Nat) (h54 : Heap), h52.size ≤ b10 -> Fr (In []) h52 h54 -> Vars h54 [(b10, [s401.v]), (b8, [s311.v]), (b2, [s69b.v, (VI s69c)]), (b1, [s69.v])] ->
 callM P 43 #[(.agg #[s401.v]), (VI s401b)] h54 fun r29 h55 => ∃ s407 : Sl, ∃ s407b : Bool, r29 = (.tuple #[s407.v, (VB s407b)]) /\ Vars h55 [(b10, [s401.v]), (b8, [s311.v]), (b2, [s69b.v, (VI s69c)]), (b1, [s69.v])] /\
 callM P 46 #[(.agg #[s401.v]), (VI s401b)] h55 fun r30 h56 => ∃ s413 : Sl, ∃ s413b : Bool, r30 = (.tuple #[s413.v, (VB s413b)]) /\ Vars h56 [(b10, [s401.v]), (b8, [s311.v]), (b2, [s69b.v, (VI s69c)]), (b1, [s69.v])] /\
 callM P 47 #[m1.v] h56 fun r31 h57 => ∃ s418 : Sl, ∃ s418b : Int, ∃ s418c : Sl, ∃ s418d : Int, r31 = (.tuple #[(.agg #[s418.v]), (VI s418b), s418c.v, (VI s418d)]) /\ Vars h57 [(b10, [s401.v]), (b8, [s311.v]), (b2, [s69b.v, (VI s69c)]), (b1, [s69.v])] /\
 ∀ (b11 : Nat) (h59 : Heap), h57.size ≤ b11 -> Fr (In []) h57 h59 -> Vars h59 [(b11, [s418.v]), (b10, [s401.v]), (b8, [s311.v]), (b2, [s69b.v, (VI s69c)]), (b1, [s69.v])] ->
 callM P 35 #[(.agg #[s418.v]), (VI s418b), s418c.v, (VI s418d)] h59 fun r32 h60 => ∃ s428 : Sl, ∃ s428b : Int, ∃ s428c : Bool, r32 = (.tuple #[(.agg #[s428.v, (VI s428b)]), (VB s428c)]) /\ Vars h60 [(b11, [s418.v]), (b10, [s401.v]), (b8, [s311.v]), (b2, [s69b.v, (VI s69c)]), (b1, [s69.v])] /\
 ∀ (b12 : Nat) (h62 : Heap), h60.size ≤ b12 -> Fr (In []) h60 h62 -> Vars h62 [(b12, [s428.v, (VI s428b)]), (b11, [s418.v]), (b10, [s401.v]), (b8, [s311.v]), (b2, [s69b.v, (VI s69c)]), (b1, [s69.v])] ->
 callM P 48 #[(.agg #[s418.v]), (VI s418b), s418c.v, (VI s418d)] h62 fun r33 h63 => ∃ s436 : Sl, ∃ s436b : Int, ∃ s436c : Bool, r33 = (.tuple #[(.agg #[s436.v, (VI s436b)]), (VB s436c)]) /\ Vars h63 [(b12, [s428.v, (VI s428b)]), (b11, [s418.v]), (b10, [s401.v]), (b8, [s311.v]), (b2, [s69b.v, (VI s69c)]), (b1, [s69.v])] /\
 ((s407b == s413b) = true ->
 ∀ (b13 : Nat) (h65 : Heap), h63.size ≤ b13 -> Fr (In []) h63 h65 -> Vars h65 [(b13, [s436.v, (VI s436b)]), (b12, [s428.v, (VI s428b)]), (b11, [s418.v]), (b10, [s401.v]), (b8, [s311.v]), (b2, [s69b.v, (VI s69c)]), (b1, [s69.v])] ->
 callM P 49 #[s407.v, s413.v] h65 fun r34 h66 => ∃ s445 : Bool, r34 = (VB s445) /\ Vars h66 [(b13, [s436.v, (VI s436b)]), (b12, [s428.v, (VI s428b)]), (b11, [s418.v]), (b10, [s401.v]), (b8, [s311.v]), (b2, [s69b.v, (VI s69c)]), (b1, [s69.v])] /\
 (s445 = true ->
 ((s428c == s436c) = true ->
 callM P 37 #[(.agg #[s428.v, (VI s428b)]), (.agg #[s436.v, (VI s436b)])] h66 fun r35 h67 => ∃ s455 : Bool, r35 = (VB s455) /\ Vars h67 [(b13, [s436.v, (VI s436b)]), (b12, [s428.v, (VI s428b)]), (b11, [s418.v]), (b10, [s401.v]), (b8, [s311.v]), (b2, [s69b.v, (VI s69c)]), (b1, [s69.v])] /\
 (s455 = true ->
 ((!s428c) = true ->
 K (VB true) h67) /\
 ((!s428c) = false ->
 callM P 50 #[(.agg #[s418.v]), (.agg #[s428.v, (VI s428b)])] h67 fun r36 h68 => ∃ s463 : Bool, r36 = (VB s463) /\ Vars h68 [(b13, [s436.v, (VI s436b)]), (b12, [s428.v, (VI s428b)]), (b11, [s418.v]), (b10, [s401.v]), (b8, [s311.v]), (b2, [s69b.v, (VI s69c)]), (b1, [s69.v])] /\
 K (VB s463) h68)) /\
 (s455 = false ->
 K (VB false) h67)) /\
 ((s428c == s436c) = false ->
 K (VB false) h66)) /\
 (s445 = false ->
 K (VB false) h66)) /\
 ((s407b == s413b) = false ->
 ∀ (b13 : Nat) (h65 : Heap), h63.size ≤ b13 -> Fr (In []) h63 h65 -> Vars h65 [(b13, [s436.v, (VI s436b)]), (b12, [s428.v, (VI s428b)]), (b11, [s418.v]), (b10, [s401.v]), (b8, [s311.v]), (b2, [s69b.v, (VI s69c)]), (b1, [s69.v])] ->
 K (VB false) h65)))
def w4 (P : Program) (c0 : Sl) (m1 : Sl) (h : Heap) (K : KQ) : Prop :=
 callM P 5 #[c0.v, m1.v] h fun r1 h1 => ∃ s66 : Bool, r1 = (VB s66) /\ Vars h1 [] /\
 (s66 = true ->
 K (VB true) h1) /\
 (s66 = false ->
 callM P 26 #[c0.v] h1 fun r2 h2 => ∃ s69 : Sl, ∃ s69b : Sl, ∃ s69c : Int, r2 = (.tuple #[(.agg #[s69.v]), (.agg #[s69b.v, (VI s69c)])]) /\ Vars h2 [] /\
 ∀ (b1 : Nat) (b2 : Nat) (h6 : Heap), h2.size ≤ b1 -> h2.size ≤ b2 -> Fr (In []) h2 h6 -> Vars h6 [(b2, [s69b.v, (VI s69c)]), (b1, [s69.v])] ->
 callM P 27 #[(.agg #[s69.v]), (.agg #[s69b.v, (VI s69c)])] h6 fun r3 h7 => ∃ s75 : Bool, ∃ s75b : Bool, r3 = (.tuple #[(VB s75), (VB s75b)]) /\ Vars h7 [(b2, [s69b.v, (VI s69c)]), (b1, [s69.v])] /\
 callM P 28 #[(.agg #[s69.v]), (.agg #[s69b.v, (VI s69c)])] h7 fun r4 h8 => ∃ s81 : Bool, ∃ s81b : Bool, r4 = (.tuple #[(VB s81), (VB s81b)]) /\ Vars h8 [(b2, [s69b.v, (VI s69c)]), (b1, [s69.v])] /\
 callM P 29 #[(.agg #[s69.v]), (.agg #[s69b.v, (VI s69c)])] h8 fun r5 h9 => ∃ s87 : Sl, ∃ s87b : Bool, r5 = (.tuple #[s87.v, (VB s87b)]) /\ Vars h9 [(b2, [s69b.v, (VI s69c)]), (b1, [s69.v])] /\
 callM P 30 #[(.agg #[s69.v]), (.agg #[s69b.v, (VI s69c)])] h9 fun r6 h10 => ∃ s93 : Sl, ∃ s93b : Bool, r6 = (.tuple #[s93.v, (VB s93b)]) /\ Vars h10 [(b2, [s69b.v, (VI s69c)]), (b1, [s69.v])] /\
 callM P 31 #[(.agg #[s69.v]), (.agg #[s69b.v, (VI s69c)])] h10 fun r7 h11 => ∃ s99 : Sl, ∃ s99b : Bool, r7 = (.tuple #[s99.v, (VB s99b)]) /\ Vars h11 [(b2, [s69b.v, (VI s69c)]), (b1, [s69.v])] /\
 callM P 32 #[(.agg #[s69.v]), (.agg #[s69b.v, (VI s69c)])] h11 fun r8 h12 => ∃ s105 : Sl, ∃ s105b : Bool, r8 = (.tuple #[s105.v, (VB s105b)]) /\ Vars h12 [(b2, [s69b.v, (VI s69c)]), (b1, [s69.v])] /\
 callM P 33 #[(.agg #[s69.v]), (.agg #[s69b.v, (VI s69c)])] h12 fun r9 h13 => ∃ s111 : Int, ∃ s111b : Bool, r9 = (.tuple #[(VI s111), (VB s111b)]) /\ Vars h13 [(b2, [s69b.v, (VI s69c)]), (b1, [s69.v])] /\
 callM P 34 #[(.agg #[s69.v]), (.agg #[s69b.v, (VI s69c)])] h13 fun r10 h14 => ∃ s117 : Int, ∃ s117b : Bool, r10 = (.tuple #[(VI s117), (VB s117b)]) /\ Vars h14 [(b2, [s69b.v, (VI s69c)]), (b1, [s69.v])] /\
 ((!(s75b == s81b)) = true ->
 K (VB false) h14) /\
 ((!(s75b == s81b)) = false ->
 ((!(s75 == s81)) = true ->
 K (VB false) h14) /\
 ((!(s75 == s81)) = false ->
 ((!(s87b == s93b)) = true ->
 K (VB false) h14) /\
 ((!(s87b == s93b)) = false ->
 callM P 16 #[s87.v, s93.v] h14 fun r11 h15 => ∃ s136 : Bool, r11 = (VB s136) /\ Vars h15 [(b2, [s69b.v, (VI s69c)]), (b1, [s69.v])] /\
 ((!s136) = true ->
 K (VB false) h15) /\
 ((!s136) = false ->
 ((!(s99b == s105b)) = true ->
 K (VB false) h15) /\
 ((!(s99b == s105b)) = false ->
 callM P 16 #[s99.v, s105.v] h15 fun r12 h16 => ∃ s147 : Bool, r12 = (VB s147) /\ Vars h16 [(b2, [s69b.v, (VI s69c)]), (b1, [s69.v])] /\
 ((!s147) = true ->
 K (VB false) h16) /\
 ((!s147) = false ->
 ((!(s111b == s117b)) = true ->
 K (VB false) h16) /\
 ((!(s111b == s117b)) = false ->
 ((!decide (s111 = s117)) = true ->
 K (VB false) h16) /\
 ((!decide (s111 = s117)) = false ->
 (s75b = true ->
 ((!(s87b == s75)) = true ->
 K (VB false) h16) /\
 ((!(s87b == s75)) = false ->
 (s75 = true ->
 ((!s99b) = true ->
 K (VB false) h16) /\
 ((!s99b) = false ->
 w4_1 P s99b h16 b2 s69b s69c b1 s69 s99 s87b s87 s111b s111 m1 K)) /\
 (s75 = false ->
 w4_1 P s99b h16 b2 s69b s69c b1 s69 s99 s87b s87 s111b s111 m1 K))) /\
 (s75b = false ->
 ((!(s87b == false)) = true ->
 K (VB false) h16) /\
 ((!(s87b == false)) = false ->
 w4_1 P s99b h16 b2 s69b s69c b1 s69 s99 s87b s87 s111b s111 m1 K)))))))))))
theorem x4 (code0_1 : Sl) (more1_1 : Sl) (h : Heap) (K : KQ) (H : w4 Tryz.prog code0_1 more1_1 h K) : callM Tryz.prog 4 #[(Sl.v code0_1), (Sl.v more1_1)] h K := v4 code0_1 more1_1 h K H
set_option maxHeartbeats 4000000 in
theorem uk_tail {X : Heap} {S S' S2 S3 : Nat -> Prop} {g w c tr mo : Sl} {xss : List (List Int)} {rs : List Int} {p : Int} {vs : List Value} (G : RdR S X g xss) (H : RdI S' X w rs) (Cy : RdI (fun _ => True) X c (cyFP xss rs p).1) (Tr : RdI S2 X tr (touP xss rs p).1) (C : RdV S3 X 1 mo vs) (B : ∀ v, v ∈ vs -> ∃ m : Int, v = Value.int .u8 m /\ 0 ≤ m /\ m ≤ 255) {K : Value -> Heap -> Prop} (HK : ∀ h', Fr No X h' -> K (VB true) h') {b2 b1 : Nat} (hL : Vars X [(b2, [w.v, VI p]), (b1, [g.v])]) : w4_1 Tryz.prog (cyFP xss rs p).2 X b2 w p b1 g c (touP xss rs p).2 tr (toUniP xss rs p).2 (toUniP xss rs p).1 mo K := by
 unfold w4_1
 refine ⟨fun h' => Fr No X h', ⟨fun e => ?_, fun _ => Fr.refl _ _⟩, fun h18 F18 hL18 => ?_⟩
 · obtain ⟨W, hn, i, d, d1, il, per, ec⟩ := cyFP_t e
   have wl : rs.length = xss.length := W.len
   rw [ec] at Cy
   have cl : c.n = d := by have := Cy.len; simpa using this
   have cget : ∀ {h' : Heap} (r : Nat), r < d -> Fr No X h' -> InB c (r : Int) /\ hcell h' (Sl.at c (r : Int) 1) = some (VI (itx xss rs p (i + r))) := fun {h'} r hr f => by
     have C' := Cy.no f
     refine ⟨C'.inb (by omega) (by simp; omega), ?_⟩
     have := C'.get (i := (r : Int)) (by omega) (by simp; omega)
     simpa using this
   refine ⟨fun n k h' => ∃ r : Nat, k = (r : Int) /\ r + n = d /\ Fr No X h', ⟨d, 0, rfl, by omega, Fr.refl _ _⟩, ?_⟩
   rintro n k h17 ⟨r, rfl, hr, f17⟩ hL17
   refine ⟨fun e2 => ?_, fun e2 => f17⟩
   simp only [decide_eq_true_eq] at e2
   have hrd : r < d := by omega
   have q0 : 0 ≤ itx xss rs p (i + r) := itx_nn W W.lo W.hi hn (i + r)
   have q1 : itx xss rs p (i + r) < (xss.length : Int) := (itx_lt W W.lo W.hi (i + r)).2
   have q2 : 0 ≤ itx xss rs p (i + r + 1) := itx_nn W W.lo W.hi hn (i + r + 1)
   obtain ⟨sp, cp, rp⟩ := (G.no f17).get q0 q1
   have hz : (xss[(itx xss rs p (i + r)).toNat]'(by omega)).length ≠ 0 := fun hz => by
     rw [itx, nx_none q0 q1 hz] at q2
     omega
   obtain ⟨hr', hm, r0, en⟩ := nx_some W q0 q1 hz
   have H17 := H.no f17
   have em : Int.tmod (w64 ((r : Int) + 1)) (c.n : Int) = (((r + 1) % d : Nat) : Int) := by
     have := graph_len W.graph
     have cb := maxLen_lt Cy.big
     rw [w64_eq _ (by omega) (by omega), cl]
     rfl
   rw [em]
   obtain ⟨i1, c1⟩ := cget r hrd f17
   obtain ⟨i2, c2⟩ := cget ((r + 1) % d) (Nat.mod_lt _ (by omega)) f17
   refine ⟨i1, _, c1, (G.no f17).inb q0 q1, sp, cp, H17.inb q0 (by omega), _, H17.get q0 (by omega), rp.inb r0 (by omega), _, rp.get r0 (by omega), by omega, i2, _, c2, fun e3 => ?_, fun _ => ?_⟩
   · exfalso
     have e3 := not_t e3
     simp only [decide_eq_false_iff_not] at e3
     refine e3 ?_
     rw [← en]
     have := itx_mod per (r + 1)
     rw [← this, ← Nat.add_assoc, itx]
   · have cb := maxLen_lt Cy.big
     rw [w64_eq _ (by omega) (by omega)]
     exact ⟨n - 1, by omega, r + 1, by omega, by omega, f17⟩
 refine ⟨fun h' => Fr No X h', ⟨fun e => ?_, fun _ => F18⟩, fun h33 F33 hL33 => ?_⟩
 · rw [touP_2] at e
   obtain ⟨hw, hu⟩ := Bool.and_eq_true_iff.1 e
   have W := wok_of hw
   have p0 : 0 ≤ p := W.lo
   have p1 : p < (xss.length : Int) := W.hi
   have wl : rs.length = xss.length := W.len
   have et : touP xss rs p = (rs.set p.toNat 0, true) := by unfold touP; rw [hw, hu]; rfl
   obtain ⟨et1, hp, et2⟩ := uni_back_tree W hu
   obtain ⟨s2, hs, W2, hu2⟩ := uni_next W hu
   obtain ⟨uc, um⟩ := uni_on hw hu
   rw [et] at Tr
   have z18 := F18.size
   refine k_IsTree (G.no F18) (Tr.no F18) p _ fun h19 f19 => ⟨_, _, rfl, hL18.of_no f19, ?_⟩
   have F19 := F18.no_trans f19
   have hL19 := hL18.of_no f19
   have z19 := f19.size
   rw [et1]
   refine ⟨fun b x x2 x3 h' => x2 = p /\ x3 = true /\ (∃ S4, RdI S4 h' x rs) /\ Fr No X h', ⟨(H.no F19).inb p0 (by omega), _, (H.no F19).get p0 (by omega), ?_, fun b5 h23 hb5 f23 hL23 => ⟨(H.no (F19.no_trans f23.in_nil)).get p0 (by omega), ?_⟩⟩, ?_⟩
   · refine k_impl_UnicycleOfTree (G.no F19) (Tr.no F19) p _ _ fun t h20 o20 f20 => ⟨t, _, _, rfl, hL19.of_no f20, fun b4 h21 hb4 f21 hL21 h22 f22 _ => ?_⟩
     rw [et2] at o20 ⊢
     have r20 : RdI (Iv h19.size h20.size) h20 t rs := o20.rdF
     have z20 := f20.size
     refine ⟨rfl, rfl, ⟨_, (r20.no f21.in_nil).fr f22 fun k hk hk2 => by simp [In] at hk2; have := hk.2; omega⟩, ((F19.no_trans f20).no_trans f21.in_nil).fresh f22 fun k hk => by simp [In] at hk; omega⟩
   · have f23 := f23.in_nil
     have z23 := f23.size
     have l5 : b5 < h23.size := hL23.head.lt
     refine k_impl_UnicycleOfTree (G.no (F19.no_trans f23)) (Tr.no (F19.no_trans f23)) p _ _ fun t h24 o24 f24 => ⟨t, _, _, rfl, hL23.of_no f24, fun h25 f25 _ => ?_⟩
     rw [et2] at o24 ⊢
     have r24 : RdI (Iv h23.size h24.size) h24 t rs := o24.rdF
     refine ⟨rfl, rfl, ⟨_, r24.fr f25 fun k hk hk2 => by simp [In] at hk2; have := hk.1; omega⟩, ((F19.no_trans f23).no_trans f24).fresh f25 fun k hk => by simp [In] at hk; omega⟩
   · rintro b3 x x2 x3 h26 ⟨rfl, rfl, ⟨S4, R26⟩, F26⟩ hL26
     refine k_StepOf (G.no F26) (H.no F26) x2 _ fun t h27 o27 f27 => ⟨t, _, _, rfl, hL26.of_no f27, fun b6 h29 hb6 f29 hL29 => ?_⟩
     rw [run_one W hs] at o27 hL29 ⊢
     have f29 := f29.in_nil
     have r27 : RdI (Iv h26.size h27.size) h27 t s2.1 := o27.rdF
     have f2629 := f27.no_trans f29
     have F29 := F26.no_trans f2629
     refine k_IsUnicycle (G.no F29) (r27.no f29) s2.2 _ fun h30 f30 => ⟨_, _, rfl, hL29.of_no f30, fun e => by simp at e, fun _ => ⟨fun e => by simp at e, fun _ => ⟨fun e => by simp at e, fun _ => ?_⟩⟩⟩
     have F30 := F29.no_trans f30
     refine k_wWalk (R26.no (f2629.no_trans f30)) (H.no F30) x2 x2 _ fun h31 f31 => ⟨_, rfl, (hL29.of_no f30).of_no f31, fun e => by simp at e, fun _ => ⟨fun e => by simp at e, fun _ => ⟨fun e => ?_, fun _ => ⟨fun e => ?_, fun _ => ?_⟩⟩⟩⟩
     · rw [walk_to3 W2] at e; simp at e
     · rw [walk_to3 W2, hu2] at e; simp at e
     have F31 := F30.no_trans f31
     refine k_wHas (Cy.no F31) x2 _ ⟨_, rfl, (hL29.of_no f30).of_no f31, fun e => ?_, fun _ => ?_⟩
     · rw [decide_eq_true um] at e; simp at e
     rw [touni_zero hw hu]
     exact ⟨fun e => by simp at e, fun _ => ⟨fun e => by simp at e, fun _ => F31⟩⟩
 refine ⟨fun h' => Fr No X h', ⟨fun e => ?_, fun _ => F33⟩, fun h38 F38 hL38 => ?_⟩
 · obtain ⟨hw, s', hrun, W', hu'⟩ := touni_run (g := xss) (rs := rs) (p := p) (T := (toUniP xss rs p).1) (by rw [← e])
   refine k_RunOf (G.no F33) (H.no F33) p _ _ fun t h34 o34 f34 => ⟨t, _, _, rfl, hL33.of_no f34, fun b7 h36 _ f36 hL36 => ?_⟩
   rw [hrun] at o34 hL36 ⊢
   have f36 := f36.in_nil
   have r34 : RdI (Iv h33.size h34.size) h34 t s'.1 := o34.rdF
   have F36 := F33.no_trans (f34.no_trans f36)
   refine k_IsUnicycle (G.no F36) (r34.no f36) s'.2 _ fun h37 f37 => ⟨_, _, rfl, hL36.of_no f37, fun e => by simp at e, fun _ => ⟨fun e => ?_, fun _ => ⟨fun e => ?_, fun _ => F36.no_trans f37⟩⟩⟩
   · rw [walk_to3 W'] at e; simp at e
   · rw [walk_to3 W', hu'] at e; simp at e
 refine k_DrawCountUnicycles (C.no F38) B _ fun t gs h39 G39 f39 => ⟨t, rfl, hL38.of_no f39, fun b8 h41 hb8 f41 hL41 => ?_⟩
 have f41 := f41.in_nil
 have F41 := F38.no_trans (f39.no_trans f41)
 have G41 := G39.no f41
 refine k_impl_CountUnicycles G41 _ fun h42 f42 => ⟨_, _, rfl, hL41.of_no f42, ?_⟩
 refine k_spec_CountUnicycles (G41.no f42) _ fun h43 f43 => ⟨_, _, rfl, (hL41.of_no f42).of_no f43, fun e => by simp at e, fun _ => ⟨fun e => by simp at e, fun _ => ?_⟩⟩
 have F43 := F41.no_trans (f42.no_trans f43)
 have G43 := (G41.no f42).no f43
 refine ⟨fun h' => Fr No X h', ⟨fun e => ⟨fun e2 => ?_, fun _ => F43⟩, fun _ => F43⟩, fun h51 F51 hL51 => ?_⟩
 · have hg : graphB gs = true := by
     unfold cntuP at e
     split at e
     · assumption
     · cases e
   have ec : cntuP gs = (uniS gs gs.length, true) := by unfold cntuP; rw [if_pos hg]
   rw [ec] at e2 ⊢
   simp only [decide_eq_true_eq] at e2
   have gl := graph_len hg
   refine ⟨fun n acc i h' => 0 ≤ i /\ i + n = (gs.length : Int) /\ acc = uniS gs i.toNat /\ Fr No h43 h', ⟨gs.length, by omega, by omega, rfl, Fr.refl _ _⟩, ?_⟩
   rintro n acc i h44 ⟨i0, i1, rfl, f44⟩ hL44
   have G44 := G43.no f44
   refine ⟨fun e3 => ?_, fun e3 => ⟨fun e4 => ?_, fun _ => F43.no_trans f44⟩⟩
   · have hi := G44.lt e3
     obtain ⟨ea, en⟩ := all_few hg i0 hi e2
     refine k_AllUnicycles G44 i _ fun t5 h45 o45 f45 => ⟨t5, _, rfl, hL44.of_no f45, fun e4 => ?_, fun _ => ?_⟩
     · rw [ea] at e4; simp at e4
     rw [ea] at o45
     have R45 : RdW (Iv h44.size h45.size) h45 t5 ((allUni gs i).map fun rs => (rs, i)) := OwW.rdI o45
     have tn := R45.len
     rw [List.length_map] at tn
     have tb := maxLen_lt R45.big
     refine ⟨fun m k h' => ∃ r : Nat, k = (r : Int) /\ r + m = (allUni gs i).length /\ Fr No h45 h', ⟨(allUni gs i).length, 0, rfl, by omega, Fr.refl _ _⟩, ?_⟩
     rintro m k h46 ⟨r, rfl, hr, f46⟩ hL46
     have f4446 := f45.no_trans f46
     refine ⟨fun e4 => ?_, fun e4 => ?_⟩
     · simp only [decide_eq_true_eq] at e4
       have hrl : r < (allUni gs i).length := by omega
       have hrl' : r < ((allUni gs i).map fun rs => (rs, i)).length := by rw [List.length_map]; omega
       have rget : ∀ {h' : Heap} (q : Nat) (hq : q < (allUni gs i).length), Fr No h45 h' -> InB t5 (q : Int) /\ ∃ si : Sl, CellsAt h' (t5.at (q : Int) 2) [si.v, VI i] /\ RdI (Iv h44.size h45.size) h' si (allUni gs i)[q] := fun {h'} q hq f => by
         have := (R45.no f).get (i := (q : Int)) (by omega) (by rw [List.length_map]; omega)
         simpa using this
       obtain ⟨ib, si, cc, ri⟩ := rget r hrl f46
       have hmem := List.getElem_mem hrl
       obtain ⟨aw, au⟩ := all_each hg i0 hi hmem
       refine ⟨ib, si, _, cc, fun b9 h48 hb9 f48 hL48 => ?_⟩
       have f48 := f48.in_nil
       refine k_IsUnicycle ((G44.no f4446).no f48) (ri.no f48) i _ fun h49 f49 => ⟨_, _, rfl, hL48.of_no f49, fun e5 => ?_, fun _ => ⟨fun e5 => ?_, fun _ => ⟨fun e5 => by simp at e5, fun _ => ⟨fun e5 => ?_, fun _ => ?_⟩⟩⟩⟩
       · rw [aw] at e5; simp at e5
       · rw [aw, au] at e5; simp at e5
       · simp only [decide_eq_true_eq] at e5
         have f4549 := f46.no_trans (f48.no_trans f49)
         have ew : w64 ((r : Int) - 1) = ((r - 1 : Nat) : Int) := by rw [w64_eq _ (by omega) (by omega)]; omega
         rw [ew]
         obtain ⟨ib2, sj, cj, rj⟩ := rget (r - 1) (by omega) f4549
         have hlen : ∀ q (hq : q < (allUni gs i).length), ((allUni gs i)[q]).length = gs.length := fun q hq => (mem_allRot.1 (List.mem_filter.1 (List.getElem_mem hq)).1).1
         have hlt : ltL (allUni gs i)[r - 1] (allUni gs i)[r] = true := List.pairwise_iff_getElem.1 (allUni_sorted gs i) (r - 1) r (by omega) hrl (by omega)
         refine ⟨ib2, sj, cj 0 (by simp), k_wLess rj ((ri.no f48).no f49) (by rw [hlen, hlen]) _ ⟨_, rfl, hL48.of_no f49, fun e6 => ?_, fun _ => ?_⟩⟩
         · rw [hlt] at e6; simp at e6
         · rw [w64_eq _ (by omega) (by omega)]
           exact ⟨m - 1, by omega, r + 1, by omega, by omega, f4549⟩
       · rw [w64_eq _ (by omega) (by omega)]
         exact ⟨m - 1, by omega, r + 1, by omega, by omega, f46.no_trans (f48.no_trans f49)⟩
     · have ub := uniS_bd hg i.toNat (by omega)
       have ur := uni_row hg (show i.toNat < gs.length by omega)
       rw [Int.toNat_of_nonneg i0] at ur
       rw [G44.succ i0 hi, w64_eq _ (by omega) (by omega)]
       refine ⟨n - 1, by omega, by omega, by omega, ?_, f44.no_trans f4446⟩
       rw [show (i + 1).toNat = i.toNat + 1 by omega, uniS, Int.toNat_of_nonneg i0, tn, en]
   · have hi := G44.ge e3
     rw [show i.toNat = gs.length by omega] at e4
     simp at e4
 refine k_DrawAllUnicycles (C.no F51) B _ fun t2 gs2 q h52 G52 f52 => ⟨t2, q, rfl, hL51.of_no f52, fun b10 h54 hb10 f54 hL54 => ?_⟩
 have f54 := f54.in_nil
 have F54 := F51.no_trans (f52.no_trans f54)
 have G54 := G52.no f54
 refine k_AllUnicycles G54 q _ fun a h55 oa f55 => ⟨a, _, rfl, hL54.of_no f55, ?_⟩
 refine k_spec_AllUnicycles (G54.no f55) q _ fun s h56 os f56 => ⟨s, _, rfl, (hL54.of_no f55).of_no f56, ?_⟩
 have F56 := F54.no_trans (f55.no_trans f56)
 have hL56 := (hL54.of_no f55).of_no f56
 refine k_DrawUnicycleOfTree (C.no F56) B _ fun t3 w3 gs3 rs3 p3 k3 h57 G57 R57 f57 => ⟨t3, p3, w3, k3, rfl, hL56.of_no f57, fun b11 h59 hb11 f59 hL59 => ?_⟩
 have f59 := f59.in_nil
 have G59 := G57.no f59
 have R59 := R57.no f59
 refine k_impl_UnicycleOfTree G59 R59 p3 k3 _ fun u h60 ou f60 => ⟨u, _, _, rfl, hL59.of_no f60, fun b12 h62 hb12 f62 hL62 => ?_⟩
 have f62 := f62.in_nil
 have f5962 := f60.no_trans f62
 refine k_spec_UnicycleOfTree (G59.no f5962) (R59.no f5962) p3 k3 _ fun v h63 ov f63 => ⟨v, _, _, rfl, hL62.of_no f63, ⟨fun _ b13 h65 hb13 f65 hL65 => ?_, fun e => by simp at e⟩⟩
 have f65 := f65.in_nil
 have f5665 := f57.no_trans (f59.no_trans (f5962.no_trans (f63.no_trans f65)))
 have ra : RdW (Iv h54.size h55.size) h65 a (allUniP gs2 q).1 := (OwW.rdI oa).no (f56.no_trans f5665)
 have rsx : RdW (Iv h55.size h56.size) h65 s (allUniP gs2 q).1 := (OwW.rdI os).no f5665
 have ru : RdI (Iv h59.size h60.size) h65 u _ := (Ow.rdF ou : RdI _ h60 u _).no (f62.no_trans (f63.no_trans f65))
 have rv : RdI (Iv h62.size h63.size) h65 v _ := (Ow.rdF ov : RdI _ h63 v _).no f65
 have F65 := F56.no_trans f5665
 refine k_wWalks ra rsx _ fun h66 f66 => ⟨_, rfl, hL65.of_no f66, ⟨fun _ => ⟨fun _ => ?_, fun e => by simp at e⟩, fun e => by simp at e⟩⟩
 refine k_wWalk (ru.no f66) (rv.no f66) _ _ _ fun h67 f67 => ⟨_, rfl, (hL65.of_no f66).of_no f67, ⟨fun _ => ⟨fun _ => HK h67 (F65.no_trans (f66.no_trans f67)), fun e => ?_⟩, fun e => by simp at e⟩⟩
 have e := not_f e
 have F67 := F65.no_trans (f66.no_trans f67)
 have G67 := G59.no (f5962.no_trans (f63.no_trans (f65.no_trans (f66.no_trans f67))))
 refine k_IsWalk G67 ((ru.no f66).no f67) _ _ fun h68 f68 => ⟨_, rfl, ((hL65.of_no f66).of_no f67).of_no f68, ?_⟩
 rw [uot_walk e]
 exact HK h68 (F67.no_trans f68)
set_option maxHeartbeats 4000000 in
theorem k_lawUnicyclesKept {h : Heap} {S0 S1 : Nat -> Prop} {s0 s1 : Sl} {x0 x1 : List Value} (G0 : RdV S0 h 1 s0 x0) (B0 : ∀ v, v ∈ x0 -> ∃ m : Int, v = Value.int .u8 m /\ 0 ≤ m /\ m ≤ 255) (G1 : RdV S1 h 1 s1 x1) (B1 : ∀ v, v ∈ x1 -> ∃ m : Int, v = Value.int .u8 m /\ 0 ≤ m /\ m ≤ 255) : Ret Tryz.prog 4 #[s0.v, s1.v] h (VB true) := by
 intro K HK
 refine x4 s0 s1 h K ?_
 unfold w4
 refine k_big s0 s1 h _ fun b0 => ⟨b0, rfl, .nil, fun _ => HK h (Fr.refl _ _), fun _ => ?_⟩
 refine k_DrawIsUnicycle G0 B0 _ fun t w gs rs p h2 G2 H2 f2 => ⟨t, w, p, rfl, .nil, fun b1 b2 h6 _ _ f6 hL6 => ?_⟩
 have f6 := f6.in_nil
 have F6 := f2.no_trans f6
 have G6 := G2.no f6
 have H6 := H2.no f6
 refine k_IsUnicycle G6 H6 p _ fun h7 f7 => ⟨_, _, rfl, hL6.of_no f7, ?_⟩
 have hL7 := hL6.of_no f7
 refine k_spec_IsUnicycle (G6.no f7) (H6.no f7) p _ fun h8 f8 => ⟨_, _, rfl, hL7.of_no f8, ?_⟩
 have hL8 := hL7.of_no f8
 have f68 := f7.no_trans f8
 refine k_impl_TreeOfUnicycle (G6.no f68) (H6.no f68) p _ fun t9 h9 o9 f9 => ⟨t9, _, rfl, hL8.of_no f9, ?_⟩
 have hL9 := hL8.of_no f9
 have f69 := f68.no_trans f9
 refine k_spec_TreeOfUnicycle (G6.no f69) (H6.no f69) p _ fun t10 h10 o10 f10 => ⟨t10, _, rfl, hL9.of_no f10, ?_⟩
 have hL10 := hL9.of_no f10
 have f610 := f69.no_trans f10
 refine k_impl_CycleFrom (G6.no f610) (H6.no f610) p _ fun c11 h11 r11 f11 => ⟨c11, _, rfl, hL10.of_no f11, ?_⟩
 have hL11 := hL10.of_no f11
 have f611 := f610.no_trans f11
 refine k_spec_CycleFrom (G6.no f611) (H6.no f611) p _ fun c12 h12 r12 f12 => ⟨c12, _, rfl, hL11.of_no f12, ?_⟩
 have hL12 := hL11.of_no f12
 have f612 := f611.no_trans f12
 refine k_ToUnicycle (G6.no f612) (H6.no f612) p _ fun h13 f13 => ⟨_, _, rfl, hL12.of_no f13, ?_⟩
 have hL13 := hL12.of_no f13
 have f613 := f612.no_trans f13
 refine k_spec_ToUnicycle (G6.no f613) (H6.no f613) p _ fun h14 f14 => ⟨_, _, rfl, hL13.of_no f14, fun e => by simp at e, fun _ => ⟨fun e => by simp at e, fun _ => ⟨fun e => by simp at e, fun _ => ?_⟩⟩⟩
 have hL14 := hL13.of_no f14
 have f614 := f613.no_trans f14
 have r9 : RdI (Iv h8.size h9.size) h14 t9 (touP gs rs p).1 := (Ow.rdF o9 : RdI _ h9 t9 _).no (f10.no_trans (f11.no_trans (f12.no_trans (f13.no_trans f14))))
 have r10 : RdI (Iv h9.size h10.size) h14 t10 (touP gs rs p).1 := (Ow.rdF o10 : RdI _ h10 t10 _).no (f11.no_trans (f12.no_trans (f13.no_trans f14)))
 have r11 := r11.no (f12.no_trans (f13.no_trans f14))
 have r12 := r12.no (f13.no_trans f14)
 refine k_wSame r9 r10 _ ⟨_, rfl, hL14, fun e => by simp at e, fun _ => ⟨fun e => by simp at e, fun _ => ?_⟩⟩
 refine k_wSame r11 r12 _ ⟨_, rfl, hL14, fun e => by simp at e, fun _ => ⟨fun e => by simp at e, fun _ => ⟨fun e => by simp at e, fun _ => ?_⟩⟩⟩
 have F14 := F6.no_trans f614
 have tl := uk_tail (K := K) (G6.no f614) (H6.no f614) r11 r9 (G1.no F14) B1 (fun h' f => HK h' (F14.no_trans f)) hL14
 refine ⟨fun e1 => ⟨fun e => ?_, fun _ => ⟨fun e2 => ⟨fun e => ?_, fun _ => tl⟩, fun _ => tl⟩⟩, fun e1 => ⟨fun e => ?_, fun _ => tl⟩⟩
 · rw [touP_2] at e; simp at e
 · obtain ⟨a1, a2⟩ := Bool.and_eq_true_iff.1 e2
   rw [(uni_on a1 a2).1] at e; simp at e
 · rw [touP_2, e1] at e; simp at e
end Go.Proofs.YtkjkfjkapbpgiaaGreat
