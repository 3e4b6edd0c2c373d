import Derived.Test.YtgiamamfnpklkaaHitsNearChancesK0
set_option linter.unusedVariables false
set_option linter.unusedSimpArgs false
namespace Go.Proofs.Ytgiamamfnpklkaa
open Go Go.Mx
def Ch {α : Type} (f : α -> Option α) : List α -> Option α -> Prop
  | [], _ => True
  | [x], e => f x = e
  | x :: y :: l, e => f x = some y /\ Ch f (y :: l) e
theorem Ch.at {α : Type} {f : α -> Option α} {e : Option α} : ∀ {pre post : List α} {x : α}, Ch f (pre ++ x :: post) e -> f x = (match post with | [] => e | y :: _ => some y)
  | [], [], x, h => h
  | [], y :: post, x, h => h.1
  | [a], post, x, h => Ch.at (pre := []) h.2
  | a :: b :: pre, post, x, h => Ch.at (pre := b :: pre) h.2
theorem Ch.map {α β : Type} {f : α -> Option α} {F : β -> Option β} {g : α -> β} {e : Option β} : ∀ {l : List α}, Ch f l none -> (∀ x y, f x = some y -> F (g x) = some (g y)) -> (∀ x, f x = none -> x ∈ l -> F (g x) = e) -> Ch F (l.map g) e
  | [], _, _, _ => trivial
  | [x], h, _, h2 => h2 x h (List.mem_singleton.2 rfl)
  | x :: y :: l, h, h1, h2 => ⟨h1 x y h.1, Ch.map (l := y :: l) h.2 h1 fun z hz hm => h2 z hz (List.mem_cons_of_mem _ hm)⟩
def matL (rows : List (List Int)) : Mat := fun i j => (rows.getD i []).getD j 0
theorem matL_get {rows : List (List Int)} {i j : Nat} (h1 : i < rows.length) (h2 : j < rows[i].length) : matL rows i j = (rows[i])[j] := by unfold matL; rw [getD_get h1, getD_getI h2]
theorem matL_set {rows : List (List Int)} {i j : Nat} {v : Int} (h1 : i < rows.length) (h2 : j < rows[i].length) (a b : Nat) : matL (rows.set i (rows[i].set j v)) a b = if a = i /\ b = j then v else matL rows a b := by
  unfold matL
  rw [List.getD_eq_getElem?_getD (l := rows.set i _), List.getElem?_set]
  by_cases ha : i = a
  · subst ha
    rw [if_pos rfl, if_pos h1, Option.getD_some, getD_get h1, List.getD_eq_getElem?_getD, List.getElem?_set]
    by_cases hb : j = b
    · subst hb; rw [if_pos rfl, if_pos h2, if_pos ⟨rfl, rfl⟩]; rfl
    · rw [if_neg hb, if_neg fun h => hb h.2.symm, List.getD_eq_getElem?_getD]
  · rw [if_neg ha, if_neg fun h => ha h.1.symm]
    simp [List.getD_eq_getElem?_getD]
structure Sq (n : Nat) (rows : List (List Int)) : Prop where
  len : rows.length = n
  row : ∀ i (h : i < rows.length), rows[i].length = n
theorem Sq.set {n : Nat} {rows : List (List Int)} (H : Sq n rows) {i : Nat} (hi : i < rows.length) (l : List Int) (hl : l.length = n) : Sq n (rows.set i l) := ⟨by rw [List.length_set]; exact H.len, fun a ha => by
  rw [List.getElem_set]
  split
  · exact hl
  · exact H.row a (by rw [List.length_set] at ha; exact ha)⟩
def swL (rows : List (List Int)) (i j : Nat) : List (List Int) := (rows.set i (rows.getD j [])).set j (rows.getD i [])
theorem swL_get {rows : List (List Int)} {i j : Nat} (hi : i < rows.length) (hj : j < rows.length) (a : Nat) : (swL rows i j).getD a [] = rows.getD (swA i j a) [] := by
  unfold swL swA
  rw [List.getD_eq_getElem?_getD, List.getElem?_set, List.length_set, List.getElem?_set]
  by_cases h1 : a = i
  · subst h1
    rw [if_pos rfl]
    by_cases h2 : j = a
    · subst h2; rw [if_pos rfl, if_pos hj]; simp
    · rw [if_neg h2, if_pos rfl, if_pos hi]; rfl
  · rw [if_neg h1]
    by_cases h2 : a = j
    · subst h2; rw [if_pos rfl, if_pos hj, if_pos rfl]; rfl
    · rw [if_neg h2, if_neg fun e => h2 e.symm, if_neg fun e => h1 e.symm, List.getD_eq_getElem?_getD]
theorem swL_mat {rows : List (List Int)} {i j : Nat} (hi : i < rows.length) (hj : j < rows.length) : matL (swL rows i j) = fun a => matL rows (swA i j a) := by
  funext a b
  unfold matL
  rw [swL_get hi hj]
theorem swL_sq {n : Nat} {rows : List (List Int)} (H : Sq n rows) {i j : Nat} (hi : i < rows.length) (hj : j < rows.length) : Sq n (swL rows i j) := by
  unfold swL
  refine (H.set hi _ ?_).set (by rw [List.length_set]; exact hj) _ ?_
  · rw [getD_get hj]; exact H.row j hj
  · rw [getD_get hi]; exact H.row i hi
theorem OwR.swap {h : Heap} {F : Nat -> Prop} {eo ei : TypeId} {s : Sl} {xss : List (List Int)} (H : OwR h F eo ei s xss) {i j : Int} (i0 : 0 ≤ i) (i1 : i < (xss.length : Int)) (j0 : 0 ≤ j) (j1 : j < (xss.length : Int)) (hne : i ≠ j) :
    ∃ si sj : Sl, hcell h (s.at i 1) = some si.v /\ hcell h (s.at j 1) = some sj.v /\ InB s i /\ InB s j /\ Writable h (s.at i 1) /\ Writable (hset h (s.at i 1) sj.v) (s.at j 1) ∧
      OwR (hset (hset h (s.at i 1) sj.v) (s.at j 1) si.v) F eo ei s (swL xss i.toNat j.toNat) /\ Fr s.own h (hset (hset h (s.at i 1) sj.v) (s.at j 1) si.v) /\ Fr s.own h (hset h (s.at i 1) sj.v) := by
  have hlen := H.len
  obtain ⟨ss, e1, h2, h3, h4, h5⟩ := H.out
  have hi : i.toNat < ss.length := by omega
  have hj : j.toNat < ss.length := by omega
  have ci := h2.at_cell (i := i.toNat) (by simpa using hi)
  have cj := h2.at_cell (i := j.toNat) (by simpa using hj)
  rw [show ((i.toNat : Nat) : Int) = i by omega, List.getElem_map] at ci
  rw [show ((j.toNat : Nat) : Int) = j by omega, List.getElem_map] at cj
  obtain ⟨w1, o1, f1⟩ := h2.store1 (i := i) i0 (by omega) ss[j.toNat].v
  obtain ⟨w2, o2, f2⟩ := o1.store1 (i := j) j0 (by omega) ss[i.toNat].v
  refine ⟨ss[i.toNat], ss[j.toNat], ci, cj, h2.inb i0 (by omega), h2.inb j0 (by omega), w1, w2, ?_, f1.trans f2, f1⟩
  have f := f1.trans f2
  have es : ((ss.map Sl.v).set i.toNat ss[j.toNat].v).set j.toNat ss[i.toNat].v = ((ss.set i.toNat ss[j.toNat]).set j.toNat ss[i.toNat]).map Sl.v := by rw [List.map_set, List.map_set]
  rw [es] at o2
  have eg : ∀ a (ha : a < ((ss.set i.toNat ss[j.toNat]).set j.toNat ss[i.toNat]).length), ∃ hb : swA i.toNat j.toNat a < ss.length, ((ss.set i.toNat ss[j.toNat]).set j.toNat ss[i.toNat])[a] = ss[swA i.toNat j.toNat a] := fun a ha => by
    rw [List.length_set, List.length_set] at ha
    have hb : swA i.toNat j.toNat a < ss.length := by unfold swA; split <;> (try split) <;> omega
    refine ⟨hb, ?_⟩
    rw [List.getElem_set]
    by_cases h1 : j.toNat = a
    · rw [if_pos h1]
      congr 1
      unfold swA
      rw [if_neg (by omega), if_pos h1.symm]
    · rw [if_neg h1, List.getElem_set]
      by_cases h2 : i.toNat = a
      · rw [if_pos h2]
        congr 1
        unfold swA
        rw [if_pos h2.symm]
      · rw [if_neg h2]
        congr 1
        unfold swA
        rw [if_neg fun e => h2 e.symm, if_neg fun e => h1 e.symm]
  have inj : ∀ a b, a ≠ b -> swA i.toNat j.toNat a ≠ swA i.toNat j.toNat b := fun a b hab => by
    unfold swA
    by_cases h1 : a = i.toNat <;> by_cases h2 : a = j.toNat <;> by_cases h3 : b = i.toNat <;> by_cases h4 : b = j.toNat <;> simp only [h1, h2, h3, h4, if_true, if_false] <;> (repeat' split) <;> omega
  refine ⟨(ss.set i.toNat ss[j.toNat]).set j.toNat ss[i.toNat], ?_, o2, fun a ha hb => ?_, fun a b ha hb hab k => ?_, fun a ha k hk => ?_⟩
  · unfold swL
    simp only [List.length_set]
    exact e1
  · obtain ⟨hc, e⟩ := eg a ha
    rw [e]
    have ex : (swL xss i.toNat j.toNat)[a] = xss[swA i.toNat j.toNat a]'(by omega) := by
      have := swL_get (rows := xss) (i := i.toNat) (j := j.toNat) (by omega) (by omega) a
      rw [getD_get hb, getD_get (by omega)] at this
      exact this
    rw [ex]
    exact (h3 _ hc (by omega)).fr f fun k hk hs => h5 _ hc k hs hk
  · obtain ⟨hc, e⟩ := eg a ha
    obtain ⟨hd, e'⟩ := eg b hb
    rw [e, e']
    exact h4 _ _ hc hd (inj a b hab) k
  · obtain ⟨hc, e⟩ := eg a ha
    rw [e]
    exact h5 _ hc k hk
theorem abs_le {x : Int} {b : Nat} (h : x.natAbs ≤ b) : -(b : Int) ≤ x /\ x ≤ b := by omega
theorem abs_mul {x y : Int} {b : Nat} (h : x.natAbs ≤ b) (h' : y.natAbs ≤ b) : (x * y).natAbs ≤ b * b := by rw [Int.natAbs_mul]; exact Nat.mul_le_mul h h'
theorem dbN6 : dbN 6 = 720000000 := rfl
theorem dbN7 : dbN 7 = 50400000000 := rfl
def stpB (R : Mat) (k : Nat) (last : Int) (i j : Nat) : Int := (R i j * R k k - R i k * R k j).tdiv last
theorem stp_num {n k : Nat} {last : Int} {O R : Mat} (H : Bar n k last O fun i j => R (k + i) (k + j)) (hO : Small n O) (hn : n ≤ 7) (hl : last ≠ 0) {i j : Nat} (hi : k < i) (hi' : i < n) (hj : k < j) (hj' : j < n) :
    w64 ((w64 (w64 (R i j * R k k) - w64 (R i k * R k j))).tdiv last) = stpB R k last i j := by
  have b : ∀ a b, a < n -> k ≤ a -> b < n -> k ≤ b -> (R a b).natAbs ≤ 720000000 := fun a b h1 h2 h3 h4 => by
    have := H.bound hO (i := a - k) (j := b - k) (by omega) (by omega)
    (try simp only at this)
    rw [show k + (a - k) = a by omega, show k + (b - k) = b by omega] at this
    exact Nat.le_trans this (Nat.le_trans (dbN_le (show k + 1 ≤ 6 by omega)) (by rw [dbN6]; exact Nat.le_refl _))
  have b1 := abs_le (abs_mul (b i j hi' (by omega) hj' (by omega)) (b k k (by omega) (by omega) (by omega) (by omega)))
  have b2 := abs_le (abs_mul (b i k hi' (by omega) (by omega) (by omega)) (b k j (by omega) (by omega) hj' (by omega)))
  rw [w64_eq (R i j * R k k) (by omega) (by omega), w64_eq (R i k * R k j) (by omega) (by omega), w64_eq (R i j * R k k - R i k * R k j) (by omega) (by omega)]
  obtain ⟨q, hq⟩ := H.exact (i := i - k - 1) (j := j - k - 1) (by omega) (by omega)
  have eq : R i j * R k k - R i k * R k j = last * q := by
    rw [← hq]
    unfold chio
    (try simp only)
    rw [show k + (i - k - 1 + 1) = i by omega, show k + (j - k - 1 + 1) = j by omega, show k + 0 = k by omega, Int.mul_comm (R k k)]
  unfold stpB
  have hq2 : q.natAbs ≤ (last * q).natAbs := by
    rw [Int.natAbs_mul]
    exact Nat.le_mul_of_pos_left _ (by omega)
  rw [tdiv_of eq hl]
  rw [← eq] at hq2
  exact w64_eq _ (by omega) (by omega)
theorem stp_next {n k : Nat} {last : Int} {O R R' : Mat} (H : Bar n k last O fun i j => R (k + i) (k + j)) (hl : last ≠ 0) (hk : R k k ≠ 0) (hR : ∀ i j, k < i -> i < n -> k < j -> j < n -> R' i j = stpB R k last i j) : Bar n (k + 1) (R k k) O fun i j => R' (k + 1 + i) (k + 1 + j) := by
  have := Bar.step (A' := fun i j => R' (k + 1 + i) (k + 1 + j)) H hl hk fun i j hi hj => by
    (try simp only)
    rw [hR _ _ (by omega) (by omega) (by omega) (by omega)]
    unfold stpB chio
    (try simp only)
    rw [show k + (i + 1) = k + 1 + i by omega, show k + (j + 1) = k + 1 + j by omega, show k + 0 = k by omega, Int.mul_comm (R k k)]
  exact this
def PM (s : Int) : Prop := s = 1 ∨ s = -1
theorem PM.neg_eq {s : Int} (h : PM s) : w64 (0 - s) = -s := by rcases h with rfl | rfl <;> rfl
theorem PM.neg {s : Int} (h : PM s) : PM (w64 (0 - s)) := by rcases h with rfl | rfl; exact .inr rfl; exact .inl rfl
theorem dt_cell {F : Nat -> Prop} {h12 : Heap} {a : Sl} {rt : List (List Int)} {n : Nat} {k i j last : Int} {R O : Mat} (o12 : OwX h12 F a rt) (Q12 : Sq n rt) (S : Small n O) (hn : n ≤ 7) (hl : last ≠ 0) (B : Bar n k.toNat last O fun i j => R (k.toNat + i) (k.toNat + j)) (k0 : 0 ≤ k) (ki : k < i) (hi : i < (n : Int)) (kj : k < j) (hj : j < (n : Int))
    (hrt : ∀ i' j', i' < n -> j' < n -> matL rt i' j' = if k.toNat < i' /\ k.toNat < j' /\ (i' < i.toNat ∨ i' = i.toNat /\ j' < j.toNat) then stpB R k.toNat last i' j' else R i' j') (C : Heap -> Prop)
    (HC : ∀ h13 rs, OwX h13 F a rs -> Sq n rs -> (∀ i' j', i' < n -> j' < n -> matL rs i' j' = if k.toNat < i' /\ k.toNat < j' /\ (i' < i.toNat ∨ i' = i.toNat /\ j' < j.toNat + 1) then stpB R k.toNat last i' j' else R i' j') -> Fr F h12 h13 -> C h13) :
    InB a i /\ ∃ t87 : Sl, hcell h12 (Sl.at a i 1) = some t87.v /\ InB a i /\ ∃ t92 : Sl, hcell h12 (Sl.at a i 1) = some t92.v /\ InB t92 j /\ ∃ t95 : Int, hcell h12 (Sl.at t92 j 1) = some (VI t95) /\ InB a k /\ ∃ t99 : Sl, hcell h12 (Sl.at a k 1) = some t99.v /\ InB t99 k /\ ∃ t102 : Int, hcell h12 (Sl.at t99 k 1) = some (VI t102) /\ InB a i /\ ∃ t107 : Sl, hcell h12 (Sl.at a i 1) = some t107.v /\ InB t107 k /\ ∃ t110 : Int, hcell h12 (Sl.at t107 k 1) = some (VI t110) /\ InB a k /\ ∃ t114 : Sl, hcell h12 (Sl.at a k 1) = some t114.v /\ InB t114 j /\ ∃ t117 : Int, hcell h12 (Sl.at t114 j 1) = some (VI t117) /\ last ≠ 0 ∧
      InB t87 j /\ Writable h12 (Sl.at t87 j 1) /\ Vars (hset h12 (Sl.at t87 j 1) (VI (w64 (Int.tdiv (w64 ((w64 (t95 * t102)) - (w64 (t110 * t117)))) last)))) [] /\ ∀ h13 : Heap, h13 = hset h12 (Sl.at t87 j 1) (VI (w64 (Int.tdiv (w64 ((w64 (t95 * t102)) - (w64 (t110 * t117)))) last))) -> Vars h13 [] -> C h13 := by
  have ln12 := Q12.len
  have R12 := OwR.rd o12
  have i0 : 0 ≤ i := by omega
  have j0 : 0 ≤ j := by omega
  have ir : i < (rt.length : Int) := by omega
  have kr : k < (rt.length : Int) := by omega
  obtain ⟨si, ci, oi, upd⟩ := OwR.inner o12 i0 ir
  have hi1 : i.toNat < rt.length := by omega
  have hk1 : k.toNat < rt.length := by omega
  have hi2 : i.toNat < n := by omega
  have hk2 : k.toNat < n := by omega
  have hj2 : j.toNat < n := by omega
  have lri := Q12.row i.toNat hi1
  have lrk := Q12.row k.toNat hk1
  have ri : RdI F h12 si (rt[i.toNat]'hi1) := oi.rdF
  obtain ⟨sk, ck, rk⟩ := R12.get k0 kr
  have ij1 : j.toNat < (rt[i.toNat]'hi1).length := by omega
  have ik1 : k.toNat < (rt[i.toNat]'hi1).length := by omega
  have kj1 : j.toNat < (rt[k.toNat]'hk1).length := by omega
  have kk1 : k.toNat < (rt[k.toNat]'hk1).length := by omega
  have v1 : (rt[i.toNat]'hi1)[j.toNat]'ij1 = R i.toNat j.toNat := by rw [← matL_get hi1 ij1, hrt _ _ hi2 hj2, if_neg (by omega)]
  have v2 : (rt[k.toNat]'hk1)[k.toNat]'kk1 = R k.toNat k.toNat := by rw [← matL_get hk1 kk1, hrt _ _ hk2 hk2, if_neg (by omega)]
  have v3 : (rt[i.toNat]'hi1)[k.toNat]'ik1 = R i.toNat k.toNat := by rw [← matL_get hi1 ik1, hrt _ _ hi2 hk2, if_neg (by omega)]
  have v4 : (rt[k.toNat]'hk1)[j.toNat]'kj1 = R k.toNat j.toNat := by rw [← matL_get hk1 kj1, hrt _ _ hk2 hj2, if_neg (by omega)]
  have rin := RdI.len ri
  have rkn := RdI.len rk
  have b1 : j < ((rt[i.toNat]'hi1).length : Int) := by omega
  have b2 : k < ((rt[i.toNat]'hi1).length : Int) := by omega
  have b3 : j < ((rt[k.toNat]'hk1).length : Int) := by omega
  have b4 : k < ((rt[k.toNat]'hk1).length : Int) := by omega
  obtain ⟨wr, os, fs⟩ := Ow.store1 oi j0 (show j < (si.n : Int) by omega) (VI (stpB R k.toNat last i.toNat j.toNat))
  have es := stp_num B S hn hl (i := i.toNat) (j := j.toNat) (by omega) hi2 (by omega) hj2
  refine ⟨R12.inb i0 ir, si, ci, R12.inb i0 ir, si, ci, ri.inb j0 b1, _, ri.get j0 b1, R12.inb k0 kr, sk, ck, rk.inb k0 b4, _, rk.get k0 b4, R12.inb i0 ir, si, ci, ri.inb k0 b2, _, ri.get k0 b2, R12.inb k0 kr, sk, ck, rk.inb j0 b3, _, rk.get j0 b3, hl, ri.inb j0 b1, wr, .nil, ?_⟩
  simp only [v1, v2, v3, v4, es]
  rintro h13 rfl _
  have os' : OwI (hset h12 (si.at j 1) (VI (stpB R k.toNat last i.toNat j.toNat))) F si ((rt[i.toNat]'hi1).set j.toNat (stpB R k.toNat last i.toNat j.toNat)) := by
    show Ow _ _ _ _ _ _
    rw [List.map_set]
    exact os
  refine HC _ _ (upd _ _ fs os') (Q12.set hi1 _ (by rw [List.length_set]; exact lri)) (fun i' j' h1 h2 => ?_) (fs.mono fun q _ hq => (Ow.foot oi hq).1)
  rw [matL_set hi1 ij1, hrt i' j' h1 h2]
  by_cases hc : i' = i.toNat /\ j' = j.toNat
  · rw [if_pos hc, hc.1, hc.2, if_pos (by omega)]
  · rw [if_neg hc]
    by_cases hd : k.toNat < i' /\ k.toNat < j' /\ (i' < i.toNat ∨ i' = i.toNat /\ j' < j.toNat)
    · rw [if_pos hd, if_pos (by omega)]
    · rw [if_neg hd, if_neg (by omega)]
theorem dt_loop {F : Nat -> Prop} {h10 : Heap} {s a : Sl} {rows : List (List Int)} {n : Nat} {k last : Int} {O : Mat} (o10 : OwX h10 F a rows) (Q10 : Sq n rows) (S : Small n O) (hn : n ≤ 7) (hl : last ≠ 0) (B : Bar n k.toNat last O fun i j => matL rows (k.toNat + i) (k.toNat + j)) (k0 : 0 ≤ k) (hk : k < (n : Int)) (sn : s.n = n) (C : Int -> Heap -> Prop)
    (HC : ∀ h11 rs, OwX h11 F a rs -> Sq n rs -> (∀ i' j', i' < n -> j' < n -> matL rs i' j' = if k.toNat < i' /\ k.toNat < j' then stpB (matL rows) k.toNat last i' j' else matL rows i' j') -> Fr F h10 h11 -> C (matL rows k.toNat k.toNat) h11) :
    ∃ J_5 : Nat -> Int -> Heap -> Prop, (∃ n0 : Nat, J_5 n0 (k + 1) h10) /\ ∀ (n_4 : Nat) (i : Int) (h11 : Heap), J_5 n_4 i h11 -> Vars h11 [] →
      ((decide (i < (s.n : Int))) = true -> ∃ J_6 : Nat -> Int -> Heap -> Prop, (∃ n0 : Nat, J_6 n0 (k + 1) h11) /\ ∀ (n_5 : Nat) (j : Int) (h12 : Heap), J_6 n_5 j h12 -> Vars h12 [] →
        ((decide (j < (s.n : Int))) = true -> InB a i /\ ∃ t87 : Sl, hcell h12 (Sl.at a i 1) = some t87.v /\ InB a i /\ ∃ t92 : Sl, hcell h12 (Sl.at a i 1) = some t92.v /\ InB t92 j /\ ∃ t95 : Int, hcell h12 (Sl.at t92 j 1) = some (VI t95) /\ InB a k /\ ∃ t99 : Sl, hcell h12 (Sl.at a k 1) = some t99.v /\ InB t99 k /\ ∃ t102 : Int, hcell h12 (Sl.at t99 k 1) = some (VI t102) /\ InB a i /\ ∃ t107 : Sl, hcell h12 (Sl.at a i 1) = some t107.v /\ InB t107 k /\ ∃ t110 : Int, hcell h12 (Sl.at t107 k 1) = some (VI t110) /\ InB a k /\ ∃ t114 : Sl, hcell h12 (Sl.at a k 1) = some t114.v /\ InB t114 j /\ ∃ t117 : Int, hcell h12 (Sl.at t114 j 1) = some (VI t117) /\ last ≠ 0 ∧
          InB t87 j /\ Writable h12 (Sl.at t87 j 1) /\ Vars (hset h12 (Sl.at t87 j 1) (VI (w64 (Int.tdiv (w64 ((w64 (t95 * t102)) - (w64 (t110 * t117)))) last)))) [] /\ ∀ h13 : Heap, h13 = hset h12 (Sl.at t87 j 1) (VI (w64 (Int.tdiv (w64 ((w64 (t95 * t102)) - (w64 (t110 * t117)))) last))) -> Vars h13 [] -> ∃ m : Nat, m < n_5 /\ J_6 m (w64 (j + 1)) h13) ∧
        ((decide (j < (s.n : Int))) = false -> ∃ m : Nat, m < n_4 /\ J_5 m (w64 (i + 1)) h12)) ∧
      ((decide (i < (s.n : Int))) = false -> InB a k /\ ∃ t126 : Sl, hcell h11 (Sl.at a k 1) = some t126.v /\ InB t126 k /\ ∃ t129 : Int, hcell h11 (Sl.at t126 k 1) = some (VI t129) /\ C t129 h11) := by
  refine ⟨fun m4 i h' => k < i /\ i + m4 = (n : Int) /\ (∃ rs, OwX h' F a rs /\ Sq n rs /\ ∀ i' j', i' < n -> j' < n -> matL rs i' j' = if k.toNat < i' /\ k.toNat < j' /\ i' < i.toNat then stpB (matL rows) k.toNat last i' j' else matL rows i' j') /\ Fr F h10 h', ⟨n - (k.toNat + 1), by omega, by omega, ⟨rows, o10, Q10, fun i' j' _ _ => by rw [if_neg (by omega)]⟩, Fr.refl _ _⟩, ?_⟩
  rintro m4 i h11 ⟨i0', i1', ⟨rs, o11, Q11, hrs⟩, f11⟩ hL11
  have ln11 := Q11.len
  refine ⟨fun e7 => ?_, fun e7 => ?_⟩
  · simp only [decide_eq_true_eq] at e7
    have hi7 : i < (n : Int) := by omega
    refine ⟨fun m5 j h' => k < j /\ j + m5 = (n : Int) /\ (∃ rs, OwX h' F a rs /\ Sq n rs /\ ∀ i' j', i' < n -> j' < n -> matL rs i' j' = if k.toNat < i' /\ k.toNat < j' /\ (i' < i.toNat ∨ i' = i.toNat /\ j' < j.toNat) then stpB (matL rows) k.toNat last i' j' else matL rows i' j') /\ Fr F h10 h', ⟨n - (k.toNat + 1), by omega, by omega, ⟨rs, o11, Q11, fun i' j' h1 h2 => ?_⟩, f11⟩, ?_⟩
    · rw [hrs i' j' h1 h2]
      by_cases hc : k.toNat < i' /\ k.toNat < j' /\ i' < i.toNat
      · rw [if_pos hc, if_pos ⟨hc.1, hc.2.1, .inl hc.2.2⟩]
      · rw [if_neg hc, if_neg (by omega)]
    rintro m5 j h12 ⟨j0', j1', ⟨rt, o12, Q12, hrt⟩, f12⟩ hL12
    refine ⟨fun e8 => ?_, fun e8 => ?_⟩
    · simp only [decide_eq_true_eq] at e8
      have hj8 : j < (n : Int) := by omega
      refine dt_cell o12 Q12 S hn hl B k0 i0' hi7 j0' hj8 hrt _ fun h13 rs' o13 Q13 hrs' f13 => ?_
      have jw : w64 (j + 1) = j + 1 := w64_eq _ (by omega) (by omega)
      rw [jw]
      exact ⟨m5 - 1, by omega, by omega, by omega, ⟨rs', o13, Q13, by rw [show (j + 1).toNat = j.toNat + 1 by omega]; exact hrs'⟩, f12.trans f13⟩
    · simp only [decide_eq_false_iff_not] at e8
      have hj8 : j = (n : Int) := by omega
      have iw : w64 (i + 1) = i + 1 := w64_eq _ (by omega) (by omega)
      rw [iw]
      refine ⟨m4 - 1, by omega, by omega, by omega, ⟨rt, o12, Q12, fun i' j' h1 h2 => ?_⟩, f12⟩
      rw [hrt i' j' h1 h2, show (i + 1).toNat = i.toNat + 1 by omega]
      by_cases hd : k.toNat < i' /\ k.toNat < j' /\ (i' < i.toNat ∨ i' = i.toNat /\ j' < j.toNat)
      · rw [if_pos hd, if_pos (by omega)]
      · rw [if_neg hd, if_neg (by omega)]
  · simp only [decide_eq_false_iff_not] at e7
    have hi7 : i = (n : Int) := by omega
    have R11 := OwR.rd o11
    have kr : k < (rs.length : Int) := by omega
    have hk1 : k.toNat < rs.length := by omega
    have hk2 : k.toNat < n := by omega
    obtain ⟨sk, ck, rk⟩ := R11.get k0 kr
    have lrk := Q11.row k.toNat hk1
    have kk1 : k.toNat < (rs[k.toNat]'hk1).length := by omega
    have v2 : (rs[k.toNat]'hk1)[k.toNat]'kk1 = matL rows k.toNat k.toNat := by rw [← matL_get hk1 kk1, hrs _ _ hk2 hk2, if_neg (by omega)]
    refine ⟨R11.inb k0 kr, sk, ck, rk.inb k0 (by omega), _, rk.get k0 (by omega), ?_⟩
    rw [v2]
    refine HC h11 rs o11 Q11 (fun i' j' h1 h2 => ?_) f11
    rw [hrs i' j' h1 h2]
    by_cases hd : k.toNat < i' /\ k.toNat < j' /\ i' < i.toNat
    · rw [if_pos hd, if_pos ⟨hd.1, hd.2.1⟩]
    · rw [if_neg hd, if_neg (by omega)]
set_option maxHeartbeats 4000000 in
theorem k_determinant {S : Nat -> Prop} {h : Heap} {s : Sl} {xss : List (List Int)} (M : RdR S h s xss) (Q : Sq xss.length xss) (hn : xss.length ≤ 7) (hb : Small xss.length (matL xss)) : Ret Try.prog 88 #[s.v] h (VI (det xss.length (matL xss))) := by
  intro K HK
  have sn := M.len
  refine v88 s h K ?_
  have no_ : ∀ {x : Heap}, Fr (fun k => h.size ≤ k) h x -> Fr No h x := fun f => f.mono fun k hk hk2 => absurd hk2 (by omega)
  refine eop_lit rIss (fun k => h.size ≤ k) (fun _ h => h) 0 (by omega) [] rfl rfl fun a0 h1 n1 c1 o1 f1 m1 _ => ⟨a0, rfl, .nil, ?_⟩
  have z1 := f1.size
  have o1' : OwX h1 (fun k => h.size ≤ k) a0 [] := ⟨[], rfl, o1, fun i h1 => by simp at h1, fun i j h1 => by simp at h1, fun i h1 => by simp at h1⟩
  refine ⟨fun m a i h' => 0 ≤ i /\ i + m = (xss.length : Int) /\ OwX h' (fun k => h.size ≤ k) a (xss.take i.toNat) /\ Fr (fun k => h.size ≤ k) h h', ⟨xss.length, Int.le_refl _, by omega, o1', f1.of_no⟩, ?_⟩
  rintro m a i h2 ⟨i0, i1, o2, f2⟩ hL2
  have M2 := M.no (no_ f2)
  refine ⟨fun e => ?_, fun e => ?_⟩
  · have hi := M.lt e
    obtain ⟨si, ci, ri⟩ := M2.get i0 hi
    have rl := Q.row i.toNat (by omega)
    refine ⟨M2.inb i0 hi, si, ci, k_Clone ri (by omega) _ fun t h3 o3 f3 => ⟨t, rfl, .nil, ?_⟩⟩
    have z3 := f3.size
    refine eop_putR (lo := h.size) (m := h2.size) (OwR.toIv o2 |>.no f3) (o3.mono fun k _ hk => hk.1) f2.size z3 .nil (fun p hp => by simp at hp) (by rw [List.length_take]; omega) _ fun t2 h5 o5 f5 V5 => ?_
    rw [M.succ i0 hi]
    refine ⟨m - 1, by omega, by omega, by omega, ?_, (f2.trans f3.of_no).trans f5⟩
    rw [take_snoc _ i0 hi]
    exact o5
  · have hi := M.ge e
    rw [List.take_of_length_le (by omega)] at o2
    generalize hN : xss.length = n at *
    refine ⟨fun m sg last k h' => 0 ≤ k /\ k + m = (n : Int) /\ (∃ rows O, OwX h' (fun q => h.size ≤ q) a rows /\ Sq n rows /\ Small n O /\ PM sg /\ sg * det n O = det n (matL xss) /\ last ≠ 0 /\ Bar n k.toNat last O (fun i j => matL rows (k.toNat + i) (k.toNat + j)) /\ (k = (n : Int) -> last = det n O)) /\ Fr (fun q => h.size ≤ q) h h', ⟨n, Int.le_refl _, by omega, ⟨xss, matL xss, o2, Q, hb, .inl rfl, by rw [Int.one_mul], by omega, ?_, ?_⟩, f2⟩, ?_⟩
    · have := Bar.start n (matL xss)
      simpa using this
    · intro h0
      rw [show n = 0 by omega]
      rfl
    rintro m2 sg last k h6 ⟨k0, k1, ⟨rows, O, o6, Q6, S6, hsg, hdet, hl, B6, hlast⟩, f6⟩ hL6
    have ln := Q6.len
    refine ⟨fun e2 => ?_, fun e2 => ?_⟩
    · have hk : k < (n : Int) := by have := M.lt e2; omega
      refine ⟨fun m3 p h' => h' = h6 /\ k ≤ p /\ p + m3 = (n : Int) /\ ∀ q : Nat, k.toNat ≤ q -> q < p.toNat -> matL rows q k.toNat = 0, ⟨(n - k.toNat), rfl, Int.le_refl _, by omega, fun q h1 h2 => by omega⟩, ?_⟩
      rintro m3 p h7 ⟨rfl, p0, p1, hz⟩ hL7
      have R7 := OwR.rd o6
      have none_ : p = (n : Int) -> K (VI 0) h7 := fun ep => by
        have := B6.none (by omega) hl fun i hi => by
          (try simp only)
          rw [Nat.add_zero]
          exact hz _ (by omega) (by omega)
        rw [this, Int.mul_zero] at hdet
        rw [← hdet] at HK
        exact HK h7 (no_ f6)
      refine ⟨fun e3 => ?_, fun e3 => ?_⟩
      · have hp : p < (n : Int) := by have := M.lt e3; omega
        obtain ⟨sp, cp, rp⟩ := R7.get (i := p) (by omega) (by omega)
        have lp := Q6.row p.toNat (by omega)
        have ep : matL rows p.toNat k.toNat = (rows[p.toNat]'(by omega))[k.toNat]'(by omega) := matL_get (by omega) (by omega)
        refine ⟨R7.inb (by omega) (by omega), sp, cp, rp.inb k0 (by omega), _, rp.get k0 (by omega), fun e4 => ?_, fun e4 => ⟨fun e5 => ?_, fun e5 => ?_⟩⟩
        · simp only [decide_eq_true_eq] at e4
          refine ⟨m3 - 1, by omega, rfl, ?_, ?_, ?_⟩
          · rw [w64_eq _ (by omega) (by omega)]; omega
          · rw [w64_eq _ (by omega) (by omega)]; omega
          · intro q h1 h2
            rw [w64_eq _ (by omega) (by omega)] at h2
            by_cases hq : q < p.toNat
            · exact hz q h1 hq
            · rw [show q = p.toNat by omega, ep]; exact e4
        · simp only [decide_eq_true_eq] at e5; omega
        · simp only [decide_eq_false_iff_not] at e4
          refine ⟨fun x h' => PM x /\ ∃ rows' O', OwX h' (fun q => h.size ≤ q) a rows' /\ Sq n rows' /\ Small n O' /\ x * det n O' = det n (matL xss) /\ Bar n k.toNat last O' (fun i j => matL rows' (k.toNat + i) (k.toNat + j)) /\ matL rows' k.toNat k.toNat ≠ 0 /\ Fr (fun q => h.size ≤ q) h h', ⟨fun e6 => ?_, fun e6 => ?_⟩, ?_⟩
          · simp only [Bool.not_eq_true', decide_eq_false_iff_not] at e6
            obtain ⟨sk, sp', w1, w2, w3, w4, w5, w6, w7, w8, w9⟩ := OwR.swap o6 (i := p) (j := k) (by omega) (by omega) k0 (by omega) e6
            refine ⟨w4, sp', w2, w3, sk, w1, w3, w5, .nil, ?_⟩
            rintro h8 rfl _
            refine ⟨w4, w6, .nil, ?_⟩
            rintro h9 rfl _
            refine ⟨?_, swL rows p.toNat k.toNat, fun i => O (swA k.toNat p.toNat i), w7, swL_sq Q6 (by omega) (by omega), fun i j hi hj => S6 _ _ (by unfold swA; split <;> (try split) <;> omega) hj, ?_, ?_, ?_, f6.trans (OwR.ownF o6 w8)⟩
            · exact hsg.neg
            · rw [det_swap O (by omega) (by omega) (by omega), ← hdet]
              rw [hsg.neg_eq, Int.neg_mul_neg]
            · have := B6.swap (p := p.toNat - k.toNat) (by omega)
              rw [show k.toNat + (p.toNat - k.toNat) = p.toNat by omega] at this
              rw [swL_mat (by omega) (by omega)]
              refine cast (congrArg (Bar n k.toNat last _) ?_) this
              funext i j
              (try simp only)
              congr 1
              unfold swA
              by_cases h1 : i = 0
              · rw [if_pos h1, if_neg (by omega), if_pos (by omega)]; omega
              · rw [if_neg h1]
                by_cases h2 : i = p.toNat - k.toNat
                · rw [if_pos h2, if_pos (by omega)]; rfl
                · rw [if_neg h2, if_neg (by omega), if_neg (by omega)]
            · rw [swL_mat (by omega) (by omega)]
              (try simp only)
              rw [show swA p.toNat k.toNat k.toNat = p.toNat by unfold swA; rw [if_neg (by omega), if_pos rfl], ep]
              exact e4
          · simp only [Bool.not_eq_false', decide_eq_true_eq] at e6
            refine ⟨hsg, rows, O, o6, Q6, S6, hdet, B6, ?_, f6⟩
            rw [← ep, e6] at e4
            exact e4
          · rintro x h10 ⟨hx, rows', O', o10, Q10, S10, hdet', B10, hkk, f10⟩ hL10
            have ln' := Q10.len
            have k1w : w64 (k + 1) = k + 1 := w64_eq _ (by omega) (by omega)
            rw [k1w]
            refine dt_loop o10 Q10 S10 hn hl B10 k0 hk sn (fun v h' => ∃ m : Nat, m < m2 /\ 0 ≤ k + 1 /\ k + 1 + m = (n : Int) /\ (∃ rows O, OwX h' (fun q => h.size ≤ q) a rows /\ Sq n rows /\ Small n O /\ PM x /\ x * det n O = det n (matL xss) /\ v ≠ 0 /\ Bar n (k + 1).toNat v O (fun i j => matL rows ((k + 1).toNat + i) ((k + 1).toNat + j)) /\ (k + 1 = (n : Int) -> v = det n O)) /\ Fr (fun q => h.size ≤ q) h h') fun h11 rs o11 Q11 hrs f11 => ?_
            refine ⟨m2 - 1, by omega, by omega, by omega, ⟨rs, O', o11, Q11, S10, hx, hdet', hkk, ?_, ?_⟩, f10.trans f11⟩
            · rw [show (k + 1).toNat = k.toNat + 1 by omega]
              exact stp_next B10 hl hkk fun i' j' h1 h2 h3 h4 => by rw [hrs i' j' h2 h4, if_pos ⟨h1, h3⟩]
            · intro hk1
              have := B10.last (by omega)
              (try simp only at this)
              rw [Nat.add_zero] at this
              exact this
      · have hp : p = (n : Int) := by have := M.ge e3; omega
        exact ⟨fun _ => none_ hp, fun e5 => by simp only [decide_eq_false_iff_not] at e5; omega⟩
    · have hk : k = (n : Int) := by have := M.ge e2; omega
      have hd : sg * last = det n (matL xss) := by rw [hlast hk]; exact hdet
      have D0 := abs_le (Nat.le_trans (det_bound hb) (Nat.le_trans (dbN_le hn) (show dbN 7 ≤ 50400000000 by rw [dbN7]; exact Nat.le_refl _)))
      rw [hd, w64_eq _ (by clear HK; omega) (by clear HK; omega)]
      exact HK h6 (no_ f6)
theorem occ_append (x : Int) : ∀ a b : List Int, occ x (a ++ b) = occ x a + occ x b
  | [], b => by simp [occ]
  | y :: a, b => by rw [List.cons_append, occ, occ, occ_append x a b]; omega
theorem occ_bound (x : Int) : ∀ l : List Int, 0 ≤ occ x l /\ occ x l ≤ l.length
  | [] => by simp [occ]
  | y :: l => by
    have := occ_bound x l
    rw [occ, List.length_cons]
    split <;> omega
theorem RdR.tl2 {S : Nat -> Prop} {h : Heap} {s : Sl} {xss : List (List Int)} (H : RdR S h s xss) (h1 : 1 ≤ xss.length) : RdR S h (s.cut 1 1 s.n s.c) xss.tail := by
  obtain ⟨ss, e, h2, h3⟩ := H.out
  have sn := H.len
  have c := RdV.cut h2 (l := 1) (m := s.n) (by omega) (Nat.le_refl _)
  have ec : ((ss.map Sl.v).drop (1 * 1)).take ((s.n - 1) * 1) = ss.tail.map Sl.v := by
    rw [List.take_of_length_le (by simp; omega)]
    cases ss <;> rfl
  rw [ec] at c
  refine ⟨ss.tail, by simp [e], c, fun i a b => ?_⟩
  have := h3 (i + 1) (by simp at a; omega) (by simp at b; omega)
  simpa using this
theorem eop_erase {L : List (Nat × List Value)} {S : Nat -> Prop} {h : Heap} {s : Sl} {xs : List Int} (R : RdI S h s xs) {k : Int} (k0 : 0 ≤ k) (k1 : k < (xs.length : Int)) (hb : xs.length ≤ 1000000) (hL : Vars h L) (C : Sl -> Heap -> Prop) (HC : ∀ t h', OwI h' (fun q => h.size ≤ q) t (xs.eraseIdx k.toNat) -> Fr No h h' -> Vars h' L -> C t h') :
    pop Try.prog (Instr.sliceAt tIs s.v none (some (VI k)) none) fun rv => ∃ a : Sl, rv = a.v /\ pop Try.prog (Instr.sliceAt tIs s.v (some (VI (w64 (k + 1)))) none none) fun rv => ∃ b : Sl, rv = b.v /\ callM Try.prog 121 #[a.v] h fun rv h1 => ∃ c : Sl, rv = c.v /\ Vars h1 L /\ eop Try.prog (appS tIs tIs tIs c.v b.v) h1 fun rv2 h2 => ∃ d : Sl, rv2 = d.v /\ Vars h2 L /\ C d h2 := by
  have sn := RdI.len R
  have sc := RdV.cap R
  have kw : w64 (k + 1) = k + 1 := w64_eq _ (by omega) (by omega)
  rw [kw]
  refine pop_cut_h rIs .i64 k0 (by omega) ⟨_, rfl, pop_cut_l rIs .i64 (by omega) (by omega) ⟨_, rfl, ?_⟩⟩
  have r1 := RdI.cut R (l := 0) (m := k.toNat) (Nat.zero_le _) (by omega)
  have r2 := RdI.cut R (l := (k + 1).toNat) (m := s.n) (by omega) (by omega)
  rw [List.drop_zero, Nat.sub_zero] at r1
  rw [List.take_of_length_le (by rw [List.length_drop]; omega)] at r2
  refine k_l1Own r1 (by rw [List.length_take]; omega) _ fun c h1 o1 f1 => ⟨c, rfl, hL.of_no f1, ?_⟩
  have cn : c.n = (xs.take k.toNat).length := by have := o1.len; simp at this; simp; omega
  have dn : (s.cut 1 (k + 1).toNat s.n s.c).n = s.n - (k + 1).toNat := rfl
  have z1 := f1.size
  have pv : ((xs.drop (k + 1).toNat).map VI).all plainV = true := by rw [List.all_map, List.all_eq_true]; intro x _; rfl
  refine eop_append rIs (o1.mono (F' := fun q => h.size ≤ q) fun q _ hq => hq.1) (fun q hq => by omega) (RdV.no r2 f1) pv (by rw [cn, dn, List.length_take]; omega) fun d h2 hd o2 f2 m2 => ⟨d, rfl, ?_, ?_⟩
  · exact (hL.of_no f1).fr f2 fun p hp ho => by
      have := (hL.mem p hp).lt
      have := (Ow.foot o1 ho).1.1
      omega
  · rw [← List.map_append] at o2
    refine HC d h2 ?_ ((f1.of_no.trans (f2.mono fun q _ hq => (Ow.foot o1 hq).1)).mono fun q hq hq2 => absurd hq2.1 (by omega)) ?_
    · rw [List.eraseIdx_eq_take_drop_succ, show k.toNat + 1 = (k + 1).toNat by omega]
      exact o2
    · exact (hL.of_no f1).fr f2 fun p hp ho => by
        have := (hL.mem p hp).lt
        have := (Ow.foot o1 ho).1.1
        omega
theorem mat_rest {xss : List (List Int)} {n k : Nat} (Q : Sq (n + 1) xss) (hk : k < n + 1) : Sq n (xss.tail.map fun r => r.eraseIdx k) /\ ∀ i j, i < n -> j < n -> matL (xss.tail.map fun r => r.eraseIdx k) i j = matL xss (i + 1) (skp k j) := by
  have ln := Q.len
  have hr : ∀ i (h : i < xss.tail.length), xss.tail[i] = xss[i + 1]'(by rw [List.length_tail] at h; omega) := fun i h => by rw [List.getElem_tail]
  refine ⟨⟨by simp; omega, fun i hi => ?_⟩, fun i j hi hj => ?_⟩
  · rw [List.length_map] at hi
    rw [List.getElem_map, hr i hi, List.length_eraseIdx, Q.row]
    rw [if_pos hk]
    omega
  · have hi' : i < xss.tail.length := by rw [List.length_tail]; omega
    have h1 : i + 1 < xss.length := by omega
    have e2 := Q.row (i + 1) h1
    have hs : skp k j < (xss[i + 1]'h1).length := by unfold skp; split <;> omega
    rw [matL_get h1 hs, matL_get (by rw [List.length_map]; exact hi') (by rw [List.getElem_map, hr i hi', List.length_eraseIdx, e2, if_pos hk]; omega)]
    have : ((xss.tail.map fun r => r.eraseIdx k)[i]'(by rw [List.length_map]; exact hi')) = (xss[i + 1]'h1).eraseIdx k := by rw [List.getElem_map, hr i hi']
    have e3 : ((xss.tail.map fun r => r.eraseIdx k)[i]'(by rw [List.length_map]; exact hi'))[j]? = (xss[i + 1]'h1)[skp k j]? := by
      rw [this, List.getElem?_eraseIdx]
      unfold skp
      split <;> rfl
    rw [List.getElem?_eq_getElem (by rw [List.getElem_map, hr i hi', List.length_eraseIdx, e2, if_pos hk]; omega), List.getElem?_eq_getElem hs] at e3
    exact Option.some.inj e3
theorem sgn_w (k : Nat) : w64 (0 - sgn k) = sgn (k + 1) := by
  rw [sgn_succ]
  unfold sgn
  split <;> rfl
theorem det_part {n : Nat} {A : Mat} (h : ∀ i j, i < n + 1 -> j < n + 1 -> (A i j).natAbs ≤ 10) {t : Nat} (ht : t ≤ n + 1) : (sumZ (fun k => sgn k * A 0 k * det n (fun i j => A (i + 1) (skp k j))) t).natAbs ≤ dbN (n + 1) := by
  have := sumZ_bound (f := fun k => sgn k * A 0 k * det n (fun i j => A (i + 1) (skp k j))) (b := 10 * dbN n) (n := t) fun k hk => by
    (try simp only)
    rw [Int.natAbs_mul, Int.natAbs_mul, sgn_abs, Nat.one_mul]
    exact Nat.mul_le_mul (h 0 k (by omega) (by omega)) (det_bound fun i j hi hj => h (i + 1) (skp k j) (by omega) (by unfold skp; split <;> omega))
  rw [dbN, Nat.mul_assoc]
  exact Nat.le_trans this (Nat.mul_le_mul_right _ ht)
theorem k_trDet : ∀ (n : Nat) {S : Nat -> Prop} {h : Heap} {s : Sl} {xss : List (List Int)} (M : RdR S h s xss) (Q : Sq n xss) (hn : n ≤ 7) (hb : Small n (matL xss)), Ret Try.prog 91 #[s.v] h (VI (det n (matL xss)))
  | 0, S, h, s, xss, M, Q, _, _ => by
    intro K HK
    have sn := M.len
    have ln := Q.len
    refine v91 s h K ⟨fun _ => HK h (Fr.refl _ _), fun e => ?_⟩
    simp only [decide_eq_false_iff_not] at e
    omega
  | n + 1, S, h, s, xss, M, Q, hn, hb => by
    intro K HK
    have sn := M.len
    have ln := Q.len
    refine v91 s h K ⟨fun e => ?_, fun _ => ?_⟩
    · simp only [decide_eq_true_eq] at e
      omega
    obtain ⟨s0, c0, r0⟩ := M.get (i := 0) (Int.le_refl _) (by omega)
    have l0 := Q.row 0 (by omega)
    have r0 : RdI S h s0 (xss[0]'(by omega)) := r0
    have s0n := RdI.len r0
    refine ⟨M.inb (Int.le_refl _) (by omega), s0, c0, ?_⟩
    have pb : ∀ t, t ≤ n + 1 -> (sumZ (fun k => sgn k * matL xss 0 k * det n (fun i j => matL xss (i + 1) (skp k j))) t).natAbs ≤ 50400000000 := fun t ht => Nat.le_trans (det_part hb ht) (Nat.le_trans (dbN_le (show n + 1 ≤ 7 by omega)) (by rw [dbN7]; exact Nat.le_refl _))
    refine ⟨fun m sm sg t h' => 0 ≤ t /\ t + m = ((n + 1 : Nat) : Int) /\ sm = sumZ (fun k => sgn k * matL xss 0 k * det n (fun i j => matL xss (i + 1) (skp k j))) t.toNat /\ sg = sgn t.toNat /\ Fr No h h', ⟨n + 1, Int.le_refl _, by omega, rfl, rfl, Fr.refl _ _⟩, ?_⟩
    rintro m sm sg t h1 ⟨t0, t1, rfl, rfl, f1⟩ hL1
    have M1 := M.no f1
    have r1 := RdI.no r0 f1
    refine ⟨fun e => ?_, fun e => ?_⟩
    · have ht := r1.lt e
      have htn : t.toNat < n + 1 := by omega
      have e00 : (xss[0]'(by omega))[t.toNat]'(by omega) = matL xss 0 t.toNat := (matL_get (by omega) (by omega)).symm
      have hx := abs_le (hb 0 t.toNat (by omega) htn)
      have tw : w64 (t + 1) = t + 1 := w64_eq _ (by omega) (by omega)
      have nxt : ∀ (x : Int) h', x = sumZ (fun k => sgn k * matL xss 0 k * det n (fun i j => matL xss (i + 1) (skp k j))) (t.toNat + 1) -> Fr No h h' -> ∃ m' : Nat, m' < m /\ 0 ≤ w64 (t + 1) /\ w64 (t + 1) + m' = ((n + 1 : Nat) : Int) /\ x = sumZ (fun k => sgn k * matL xss 0 k * det n (fun i j => matL xss (i + 1) (skp k j))) (w64 (t + 1)).toNat /\ w64 (0 - sgn t.toNat) = sgn (w64 (t + 1)).toNat /\ Fr No h h' := fun x h' hx f => by
        rw [tw, show (t + 1).toNat = t.toNat + 1 by omega]
        exact ⟨m - 1, by omega, by omega, by omega, hx, sgn_w _, f⟩
      refine ⟨r1.inb t0 ht, _, r1.get t0 ht, fun x h' => x = sumZ (fun k => sgn k * matL xss 0 k * det n (fun i j => matL xss (i + 1) (skp k j))) (t.toNat + 1) /\ Fr No h h', ⟨fun e2 => ?_, fun e2 => ?_⟩, fun x h' hx hL' => nxt x h' hx.1 hx.2⟩
      · rw [e00]
        refine pop_cut_l rIss .i64 (show (0 : Int) ≤ 1 by omega) (by omega) ⟨_, rfl, ?_⟩
        have T1 := RdR.tl2 M1 (by omega)
        have tln : xss.tail.length = n := by rw [List.length_tail]; omega
        have T1n : (s.cut 1 1 s.n s.c).n = n := by rw [T1.len, tln]
        have no_ : ∀ {x : Heap}, Fr (fun k => h1.size ≤ k) h1 x -> Fr No h1 x := fun f => f.mono fun k hk hk2 => absurd hk2 (by omega)
        refine ⟨fun m2 r j h' => 0 ≤ j /\ j + m2 = (n : Int) /\ OwX h' (fun q => h1.size ≤ q) r ((xss.tail.take j.toNat).map fun l => l.eraseIdx t.toNat) /\ Fr (fun q => h1.size ≤ q) h1 h', ⟨n, Int.le_refl _, by omega, OwR.nil _ _ _ _, Fr.refl _ _⟩, ?_⟩
        rintro m2 r j h2 ⟨j0, j1, o2, f2⟩ hL2
        have T2 := T1.no (no_ f2)
        refine ⟨fun e3 => ?_, fun e3 => ?_⟩
        · have hj := T2.lt e3
          obtain ⟨sj, cj, rj⟩ := T2.get j0 hj
          have lj : (xss.tail[j.toNat]'(by omega)).length = n + 1 := by rw [List.getElem_tail]; exact Q.row _ (by omega)
          refine ⟨T2.inb j0 hj, sj, cj, eop_erase rj t0 (by omega) (by omega) .nil _ fun d h4 o4 f4 V4 => ?_⟩
          have z4 := f4.size
          refine eop_putR (lo := h1.size) (m := h2.size) (OwR.toIv o2 |>.no f4) o4 f2.size z4 .nil (fun p hp => by simp at hp) (by rw [List.length_map, List.length_take]; omega) _ fun t2 h5 o5 f5 V5 => ?_
          rw [w64_eq (j + 1) (by omega) (by omega)]
          refine ⟨m2 - 1, by omega, by omega, by omega, ?_, (f2.trans f4.of_no).trans f5⟩
          rw [take_snoc _ j0 hj, List.map_append, List.map_cons, List.map_nil]
          exact o5
        · have hj := T2.ge e3
          rw [List.take_of_length_le (by omega)] at o2
          obtain ⟨Qr, er⟩ := mat_rest Q htn
          have hbr : Small n (matL (xss.tail.map fun r => r.eraseIdx t.toNat)) := fun i j hi hj => by rw [er i j hi hj]; exact hb _ _ (by omega) (by unfold skp; split <;> omega)
          refine k_trDet n (OwR.rd o2) Qr (by omega) hbr _ fun h7 f7 => ⟨_, rfl, .nil, ?_, f1.no_trans ((no_ f2).no_trans f7)⟩
          rw [det_congr er]
          rw [sumZ]
          have b1 := abs_le (pb t.toNat (by omega))
          have b2 := abs_le (pb (t.toNat + 1) (by omega))
          rw [sumZ] at b2
          have b3 : -10 ≤ sgn t.toNat * matL xss 0 t.toNat /\ sgn t.toNat * matL xss 0 t.toNat ≤ 10 := by
            unfold sgn
            split <;> omega
          rw [w64_eq (sgn t.toNat * matL xss 0 t.toNat) (by omega) (by omega)]
          generalize sgn t.toNat * matL xss 0 t.toNat * det n (fun i j => matL xss (i + 1) (skp t.toNat j)) = y at b2 ⊢
          generalize sumZ (fun k => sgn k * matL xss 0 k * det n (fun i j => matL xss (i + 1) (skp k j))) t.toNat = z at b1 b2 ⊢
          rw [w64_eq y (by omega) (by omega), w64_eq (z + y) (by omega) (by omega)]
      · rw [e00] at e2
        simp only [Bool.not_eq_false', decide_eq_true_eq] at e2
        refine ⟨?_, f1⟩
        rw [sumZ, e2]
        simp
    · have ht := r1.ge e
      have : t.toNat = n + 1 := by omega
      rw [this]
      exact HK h1 f1
theorem sumZ_first (f : Nat -> Int) : ∀ n, sumZ f (n + 1) = f 0 + sumZ (fun k => f (k + 1)) n
  | 0 => by simp [sumZ]
  | n + 1 => by rw [sumZ, sumZ_first f n, sumZ]; omega
theorem sumZ_sw (f : Nat -> Int) {a : Nat} : ∀ {n : Nat}, a + 1 < n -> sumZ (fun k => f (swA a (a + 1) k)) n = sumZ f n
  | n + 2, h => by
    by_cases e : a = n
    · subst e
      have h1 : sumZ (fun k => f (swA a (a + 1) k)) a = sumZ f a := sumZ_congr fun k hk => by
        (try simp only)
        unfold swA
        rw [if_neg (by omega), if_neg (by omega)]
      have h2 : swA a (a + 1) a = a + 1 := by unfold swA; rw [if_pos rfl]
      have h3 : swA a (a + 1) (a + 1) = a := by unfold swA; rw [if_neg (by omega), if_pos rfl]
      rw [sumZ, sumZ, sumZ, sumZ, h1, h2, h3]
      omega
    · have ih := sumZ_sw f (show a + 1 < n + 1 by omega)
      show sumZ (fun k => f (swA a (a + 1) k)) (n + 1) + f (swA a (a + 1) (n + 1)) = sumZ f (n + 1) + f (n + 1)
      rw [ih]
      have h2 : swA a (a + 1) (n + 1) = n + 1 := by unfold swA; rw [if_neg (by omega), if_neg (by omega)]
      rw [h2]
theorem det_cswap : ∀ {n a : Nat} (C : Mat), a + 1 < n -> det n (fun i c => C i (swA a (a + 1) c)) = -det n C
  | n + 1, a, C, h => by
    rw [det, det]
    have key : ∀ k, k < n + 1 -> (sgn k * C 0 (swA a (a + 1) k) * det n (fun i j => C (i + 1) (swA a (a + 1) (skp k j)))) = -(fun k => sgn k * C 0 k * det n (fun i j => C (i + 1) (skp k j))) (swA a (a + 1) k) := fun k hk => by
      simp only
      by_cases e1 : k = a
      · subst e1
        have s1 : swA k (k + 1) k = k + 1 := by unfold swA; rw [if_pos rfl]
        rw [s1, sgn_succ]
        have : (fun i j => C (i + 1) (swA k (k + 1) (skp k j))) = fun i j => C (i + 1) (skp (k + 1) j) := by
          funext i j
          congr 1
          unfold swA skp
          by_cases x : j < k
          · rw [if_pos x, if_neg (by omega), if_neg (by omega), if_pos (by omega)]
          · rw [if_neg x, if_neg (by omega)]
            by_cases y : j = k
            · rw [if_pos (by omega), if_pos (by omega)]; exact y.symm
            · rw [if_neg (by omega), if_neg (by omega)]
        rw [this, Int.neg_mul, Int.neg_mul, Int.neg_neg]
      by_cases e2 : k = a + 1
      · subst e2
        have s1 : swA a (a + 1) (a + 1) = a := by unfold swA; rw [if_neg (by omega), if_pos rfl]
        rw [s1, sgn_succ]
        have : (fun i j => C (i + 1) (swA a (a + 1) (skp (a + 1) j))) = fun i j => C (i + 1) (skp a j) := by
          funext i j
          congr 1
          unfold swA skp
          by_cases x : j < a
          · rw [if_pos (show j < a + 1 by omega), if_pos x, if_neg (by omega), if_neg (by omega)]
          · rw [if_neg x]
            by_cases y : j = a
            · rw [if_pos (show j < a + 1 by omega), if_pos y]; omega
            · rw [if_neg (show ¬ j < a + 1 by omega), if_neg (by omega), if_neg (by omega)]
        rw [this, Int.neg_mul, Int.neg_mul]
      have s1 : swA a (a + 1) k = k := by unfold swA; rw [if_neg e1, if_neg e2]
      rw [s1, ← Int.mul_neg]
      congr 1
      by_cases l : k < a
      · obtain ⟨b, rfl⟩ : ∃ b, a = b + 1 := ⟨a - 1, by omega⟩
        rw [← det_cswap (n := n) (a := b) (fun i j => C (i + 1) (skp k j)) (by omega)]
        congr 1
        funext i j
        congr 1
        unfold swA skp
        (repeat' split) <;> omega
      · rw [← det_cswap (n := n) (a := a) (fun i j => C (i + 1) (skp k j)) (by omega)]
        congr 1
        funext i j
        congr 1
        unfold swA skp
        (repeat' split) <;> omega
    have e := sumZ_congr key
    rw [e, sumZ_neg, sumZ_sw (fun k => sgn k * C 0 k * det n (fun i j => C (i + 1) (skp k j))) h]
def frN (j c : Nat) : Nat := if c = 0 then j else if c ≤ j then c - 1 else c
theorem det_front : ∀ {n j : Nat} (C : Mat), j < n -> det n (fun i c => C i (frN j c)) = sgn j * det n C
  | n, 0, C, h => by
    have : (fun i c => C i (frN 0 c)) = C := by
      funext i c
      congr 1
      unfold frN
      by_cases e : c = 0
      · rw [if_pos e]; exact e.symm
      · rw [if_neg e, if_neg (by omega)]
    rw [this]
    show det n C = 1 * det n C
    rw [Int.one_mul]
  | n, j + 1, C, h => by
    have : (fun i c => C i (frN (j + 1) c)) = fun i c => (fun i c => C i (swA j (j + 1) c)) i (frN j c) := by
      funext i c
      (try simp only)
      congr 1
      unfold frN swA
      by_cases e : c = 0
      · rw [if_pos e, if_pos e, if_pos rfl]
      · rw [if_neg e, if_neg e]
        by_cases l : c ≤ j
        · rw [if_pos (by omega), if_pos l, if_neg (by omega), if_neg (by omega)]
        · rw [if_neg l]
          by_cases z : c = j + 1
          · rw [if_pos (by omega), if_neg (by omega), if_pos z]; omega
          · rw [if_neg (by omega), if_neg (by omega), if_neg z]
    rw [this, det_front (fun i c => C i (swA j (j + 1) c)) (by omega), det_cswap C h, sgn_succ, Int.mul_neg, Int.neg_mul]
def colS (A : Mat) (j : Nat) (r : Nat -> Int) : Mat := fun i k => if k = j then r i else A i k
theorem sgn_sq (j : Nat) : sgn j * sgn j = 1 := by unfold sgn; split <;> rfl
theorem cramer {n : Nat} (A : Mat) (r : Nat -> Int) {i : Nat} (hi : i < n) : sumZ (fun j => A i j * det n (colS A j r)) n = det n A * r i := by
  have hz : det (n + 1) (fun a b => (fun (x : Nat) (y : Nat) => match y with | 0 => r x | y + 1 => A x y) (match a with | 0 => i | a + 1 => a) b) = 0 :=
    det_rows (i := 0) (j := i + 1) _ (by omega) (by omega) (by omega) rfl
  rw [det, sumZ_first] at hz
  have h0 : sgn 0 * (fun (x : Nat) (y : Nat) => match y with | 0 => r x | y + 1 => A x y) i 0 * det n (fun a b => (fun (x : Nat) (y : Nat) => match y with | 0 => r x | y + 1 => A x y) a (skp 0 b)) = r i * det n A := by
    show 1 * r i * det n _ = _
    rw [Int.one_mul]
    rfl
  have hs : ∀ j, j < n -> sgn (j + 1) * A i j * det n (fun a b => (fun (x : Nat) (y : Nat) => match y with | 0 => r x | y + 1 => A x y) a (skp (j + 1) b)) = -(A i j * det n (colS A j r)) := fun j hj => by
    have e : (fun a b => (fun (x : Nat) (y : Nat) => match y with | 0 => r x | y + 1 => A x y) a (skp (j + 1) b)) = fun a b => colS A j r a (frN j b) := by
      funext a b
      cases b with
      | zero => simp [skp, frN, colS]
      | succ b =>
        (try simp only)
        by_cases l : b + 1 ≤ j
        · have s1 : skp (j + 1) (b + 1) = b + 1 := by unfold skp; rw [if_pos (by omega)]
          have s2 : frN j (b + 1) = b := by unfold frN; rw [if_neg (by omega), if_pos l]; rfl
          rw [s1, s2]
          unfold colS
          rw [if_neg (by omega)]
        · have s1 : skp (j + 1) (b + 1) = b + 2 := by unfold skp; rw [if_neg (by omega)]
          have s2 : frN j (b + 1) = b + 1 := by unfold frN; rw [if_neg (by omega), if_neg l]
          rw [s1, s2]
          unfold colS
          rw [if_neg (by omega)]
    rw [e, det_front (colS A j r) hj, sgn_succ, Int.neg_mul, Int.neg_mul]
    congr 1
    rw [Int.mul_assoc, Int.mul_left_comm (A i j), ← Int.mul_assoc, sgn_sq, Int.one_mul]
  have e2 : sumZ (fun j => sgn (j + 1) * A i j * det n (fun a b => (fun (x : Nat) (y : Nat) => match y with | 0 => r x | y + 1 => A x y) a (skp (j + 1) b))) n = -sumZ (fun j => A i j * det n (colS A j r)) n := by
    rw [← sumZ_neg]
    exact sumZ_congr hs
  have e3 : r i * det n A + -sumZ (fun j => A i j * det n (colS A j r)) n = 0 := by
    rw [← h0, ← e2]
    exact hz
  rw [Int.mul_comm (det n A)]
  omega
def innB (a b : Int) (p : Nat) : Bool := !decide ((p : Int) = a) && !decide ((p : Int) = b)
theorem innB_t {a b : Int} {p : Nat} : innB a b p = true ↔ (p : Int) ≠ a /\ (p : Int) ≠ b := by unfold innB; simp
def inn (n : Nat) (a b : Int) : List Nat := (List.range n).filter (innB a b)
theorem mem_inn {n : Nat} {a b : Int} {p : Nat} : p ∈ inn n a b ↔ p < n /\ (p : Int) ≠ a /\ (p : Int) ≠ b := by
  unfold inn
  rw [List.mem_filter, List.mem_range, innB_t]
theorem inn_nd (n : Nat) (a b : Int) : (inn n a b).Nodup := List.Pairwise.filter _ List.nodup_range
def hiTs (g : List (List Int)) (a b : Int) : Tn := (inn g.length a b).map fun p : Nat => ((p : Int), g.getD p [])
def endB (g : List (List Int)) (a b : Int) : Bool := (List.range g.length).all fun p : Nat => !(decide ((farP g p).getD a.toNat 0 < 0) && decide ((farP g p).getD b.toNat 0 < 0)) && !(innB a b p && decide ((g.getD p []).length = 0))
def goalB (g : List (List Int)) (a b : Int) : Bool := graphB g && inR 0 ((g.length : Int) - 1) a && inR 0 ((g.length : Int) - 1) b && !decide (a = b)
def canB (g : List (List Int)) (a b : Int) : Bool := goalB g a b && endB g a b
structure Can (g : List (List Int)) (a b : Int) : Prop where
  graph : graphB g = true
  a0 : 0 ≤ a
  a1 : a < (g.length : Int)
  b0 : 0 ≤ b
  b1 : b < (g.length : Int)
  ne : a ≠ b
  far : ∀ p : Nat, p < g.length -> 0 ≤ (farP g p).getD a.toNat 0 ∨ 0 ≤ (farP g p).getD b.toNat 0
  out : ∀ p : Nat, p < g.length -> (p : Int) ≠ a -> (p : Int) ≠ b -> (g.getD p []).length ≠ 0
theorem goal_o {g : List (List Int)} {a b : Int} (h : goalB g a b = true) : graphB g = true /\ (0 ≤ a /\ a < (g.length : Int)) /\ (0 ≤ b /\ b < (g.length : Int)) /\ a ≠ b := by
  unfold goalB at h
  simp only [Bool.and_eq_true, Bool.not_eq_true', decide_eq_false_iff_not, inR_iff] at h
  exact ⟨h.1.1.1, by omega, by omega, h.2⟩
theorem can_o {g : List (List Int)} {a b : Int} (h : canB g a b = true) : Can g a b := by
  unfold canB at h
  rw [Bool.and_eq_true] at h
  obtain ⟨hg, ⟨a0, a1⟩, ⟨b0, b1⟩, hne⟩ := goal_o h.1
  have he := h.2
  unfold endB at he
  rw [List.all_eq_true] at he
  refine ⟨hg, a0, a1, b0, b1, hne, fun p hp => ?_, fun p hp pa pb hz => ?_⟩
  · have := he p (List.mem_range.2 hp)
    simp only [Bool.and_eq_true, Bool.not_eq_true', Bool.and_eq_false_iff, decide_eq_false_iff_not] at this
    omega
  · have := he p (List.mem_range.2 hp)
    rw [innB_t.2 ⟨pa, pb⟩, decide_eq_true hz] at this
    simp at this
theorem can_i {g : List (List Int)} {a b : Int} (h : Can g a b) : canB g a b = true := by
  unfold canB goalB
  rw [h.graph, inR_iff.2 ⟨h.a0, by have := h.a1; omega⟩, inR_iff.2 ⟨h.b0, by have := h.b1; omega⟩, decide_eq_false h.ne]
  simp only [Bool.and_self, Bool.not_false, Bool.true_and]
  unfold endB
  rw [List.all_eq_true]
  intro p hp
  have hp := List.mem_range.1 hp
  have h1 := h.far p hp
  simp only [Bool.and_eq_true, Bool.not_eq_true', Bool.and_eq_false_iff, decide_eq_false_iff_not]
  refine ⟨by omega, ?_⟩
  cases hi : innB a b p with
  | false => exact .inl rfl
  | true => exact .inr (h.out p hp (innB_t.1 hi).1 (innB_t.1 hi).2)
theorem Can.turn {g : List (List Int)} {a b : Int} (h : Can g a b) : Can g b a := ⟨h.graph, h.b0, h.b1, h.a0, h.a1, fun e => h.ne e.symm, fun p hp => (h.far p hp).symm, fun p hp x y => h.out p hp y x⟩
def sumX (f : Int -> Int) (l : List Int) : Int := (l.map f).sum
theorem sumX_nil (f : Int -> Int) : sumX f [] = 0 := rfl
theorem sumX_cons (f : Int -> Int) (x : Int) (l : List Int) : sumX f (x :: l) = f x + sumX f l := by unfold sumX; rw [List.map_cons, List.sum_cons]
theorem sumX_add (f f' : Int -> Int) : ∀ l, sumX (fun x => f x + f' x) l = sumX f l + sumX f' l
  | [] => rfl
  | x :: l => by rw [sumX_cons, sumX_cons, sumX_cons, sumX_add f f' l]; omega
theorem sumX_mul (c : Int) (f : Int -> Int) : ∀ l, sumX (fun x => c * f x) l = c * sumX f l
  | [] => by rw [sumX_nil, sumX_nil, Int.mul_zero]
  | x :: l => by rw [sumX_cons, sumX_cons, sumX_mul c f l, Int.mul_add]
theorem sumX_const (c : Int) : ∀ l : List Int, sumX (fun _ => c) l = l.length * c
  | [] => by rw [sumX_nil]; simp
  | x :: l => by rw [sumX_cons, sumX_const c l, List.length_cons]; rw [show ((l.length + 1 : Nat) : Int) = (l.length : Int) + 1 by omega, Int.add_mul]; omega
theorem sum_lo {f : Int -> Int} {u : Int} : ∀ l : List Int, (∀ x, x ∈ l -> u ≤ f x) -> (l.length : Int) * u ≤ sumX f l /\ (sumX f l ≤ l.length * u -> ∀ x, x ∈ l -> f x = u)
  | [], _ => ⟨by rw [sumX_nil]; simp, fun _ x hx => by simp at hx⟩
  | x :: l, h => by
    obtain ⟨h1, h2⟩ := sum_lo l fun y hy => h y (List.mem_cons_of_mem _ hy)
    have h0 := h x List.mem_cons_self
    rw [sumX_cons, List.length_cons, show ((l.length + 1 : Nat) : Int) = (l.length : Int) + 1 by omega, Int.add_mul, Int.one_mul]
    refine ⟨by omega, fun hle y hy => ?_⟩
    rcases List.mem_cons.1 hy with rfl | hy
    · omega
    · exact h2 (by omega) y hy
theorem min_at (f : Int -> Int) : ∀ n : Nat, 0 < n -> ∃ p : Nat, p < n /\ ∀ q : Nat, q < n -> f p ≤ f q
  | 1, _ => ⟨0, by omega, fun q hq => by rw [show q = 0 by omega]; exact Int.le_refl _⟩
  | n + 2, _ => by
    obtain ⟨p, hp, hq⟩ := min_at f (n + 1) (by omega)
    by_cases h : f p ≤ f ((n + 1 : Nat) : Int)
    · refine ⟨p, by omega, fun q h2 => ?_⟩
      by_cases e : q = n + 1
      · rw [e]; exact h
      · exact hq q (by omega)
    · refine ⟨n + 1, by omega, fun q h2 => ?_⟩
      by_cases e : q = n + 1
      · rw [e]; exact Int.le_refl _
      · have := hq q (by omega); omega
theorem Can.low {g : List (List Int)} {a b : Int} (C : Can g a b) (f : Int -> Int) (ha : 0 ≤ f a) (hb : 0 ≤ f b) (H : ∀ p : Nat, p < g.length -> (p : Int) ≠ a -> (p : Int) ≠ b -> sumX f (g.getD p []) ≤ (g.getD p []).length * f p) : ∀ p : Nat, p < g.length -> 0 ≤ f p := fun p0 hp0 => by
  obtain ⟨p, hp, hm⟩ := min_at f g.length (by omega)
  refine Classical.byContradiction fun hn => ?_
  have hu : f p < 0 := by have := hm p0 hp0; omega
  have key : ∀ (k : Nat) (q : Int), Way g p k q -> f q = f p := by
    intro k
    induction k with
    | zero => intro q hq; rw [← show (p : Int) = q from hq]
    | succ k ih =>
      rintro q ⟨x, hx, hq⟩
      have xr := Way.rng C.graph (show (0 : Int) ≤ p by omega) (by omega) hx
      have ex := ih x hx
      have xe : ((x.toNat : Nat) : Int) = x := by omega
      have hle := H x.toNat (by omega) (by rw [xe]; intro e; rw [e] at ex; omega) (by rw [xe]; intro e; rw [e] at ex; omega)
      rw [xe, ex] at hle
      refine (sum_lo (u := f p) _ fun y hy => ?_).2 hle q hq
      have hy' := hy
      rw [getD_get (by omega)] at hy'
      have yr := (graph_mem C.graph (List.getElem_mem (show x.toNat < g.length by omega))).2 y hy'
      have := hm y.toNat (by omega)
      rw [show ((y.toNat : Nat) : Int) = y by omega] at this
      exact this
  rcases C.far p hp with h | h
  · have := key _ _ (far_way (p := (p : Int)) C.graph (by omega) (by omega) C.a0 C.a1 h)
    omega
  · have := key _ _ (far_way (p := (p : Int)) C.graph (by omega) (by omega) C.b0 C.b1 h)
    omega
theorem Way.fst {g : List (List Int)} {p : Int} : ∀ {k : Nat} {s : Int}, Way g p (k + 1) s -> ∃ e, e ∈ g.getD p.toNat [] /\ Way g e k s
  | 0, s, h => by
    obtain ⟨x, hx, hs⟩ := h
    rw [← show p = x from hx] at hs
    exact ⟨s, hs, rfl⟩
  | k + 1, s, h => by
    obtain ⟨x, hx, hs⟩ := h
    obtain ⟨e, he, hw⟩ := Way.fst hx
    exact ⟨e, he, x, hw, hs⟩
def dstG (g : List (List Int)) (a b p : Int) : Nat := (if (farP g p).getD a.toNat 0 < 0 then (farP g p).getD b.toNat 0 else if (farP g p).getD b.toNat 0 < 0 then (farP g p).getD a.toNat 0 else min ((farP g p).getD a.toNat 0) ((farP g p).getD b.toNat 0)).toNat
theorem Can.dst {g : List (List Int)} {a b : Int} (C : Can g a b) {p : Nat} (hp : p < g.length) : (Way g p (dstG g a b p) a ∨ Way g p (dstG g a b p) b) /\ ∀ k, Way g p k a ∨ Way g p k b -> dstG g a b p ≤ k := by
  have p0 : (0 : Int) ≤ p := by omega
  have p1 : (p : Int) < (g.length : Int) := by omega
  have wa := far_way (p := (p : Int)) (q := a) C.graph p0 p1 C.a0 C.a1
  have wb := far_way (p := (p : Int)) (q := b) C.graph p0 p1 C.b0 C.b1
  have hf := C.far p hp
  have la : ∀ k, Way g p k a -> _ := fun k h => far_le C.graph p0 p1 h
  have lb : ∀ k, Way g p k b -> _ := fun k h => far_le C.graph p0 p1 h
  unfold dstG
  generalize (farP g (p : Int)).getD a.toNat 0 = x at *
  generalize (farP g (p : Int)).getD b.toNat 0 = y at *
  refine ⟨?_, fun k hk => ?_⟩
  · split
    · exact .inr (wb (by omega))
    · split
      · exact .inl (wa (by omega))
      · by_cases h : x ≤ y
        · rw [Int.min_eq_left h]; exact .inl (wa (by omega))
        · rw [Int.min_eq_right (by omega)]; exact .inr (wb (by omega))
  · rcases hk with h | h
    · have := la k h
      rw [if_neg (by omega)]
      split <;> omega
    · have := lb k h
      split
      · omega
      · rw [if_neg (by omega)]; omega
theorem Can.nearer {g : List (List Int)} {a b : Int} (C : Can g a b) {p : Nat} (hp : p < g.length) (pa : (p : Int) ≠ a) (pb : (p : Int) ≠ b) : ∃ e, e ∈ g.getD p [] /\ dstG g a b e < dstG g a b p := by
  obtain ⟨hw, _⟩ := C.dst hp
  have hz : dstG g a b p ≠ 0 := fun h => by
    rw [h] at hw
    rcases hw with h | h
    · exact pa h
    · exact pb h
  obtain ⟨m, hm⟩ : ∃ m, dstG g a b p = m + 1 := ⟨dstG g a b p - 1, by omega⟩
  rw [hm] at hw ⊢
  have key : ∀ s, Way g p (m + 1) s -> s = a ∨ s = b -> ∃ e, e ∈ g.getD p [] /\ dstG g a b e < m + 1 := fun s h hs => by
    obtain ⟨e, he, hv⟩ := Way.fst h
    rw [show ((p : Int)).toNat = p from rfl] at he
    refine ⟨e, he, ?_⟩
    rw [getD_get hp] at he
    have er := (graph_mem C.graph (List.getElem_mem hp)).2 e he
    have := (C.dst (p := e.toNat) (by omega)).2 m
    rw [show ((e.toNat : Nat) : Int) = e by omega] at this
    have := this (by rcases hs with rfl | rfl; exact .inl hv; exact .inr hv)
    omega
  rcases hw with h | h
  · exact key a h (.inl rfl)
  · exact key b h (.inr rfl)
theorem prod_choice {α β : Type} (f : α -> List β) (c : α -> β) : ∀ l : List α, (∀ x, x ∈ l -> c x ∈ f x) -> l.map c ∈ prodL (l.map f)
  | [], _ => List.mem_singleton.2 rfl
  | x :: l, h => by
    rw [List.map_cons, List.map_cons, prodL, List.mem_flatMap]
    exact ⟨c x, h x List.mem_cons_self, List.mem_map.2 ⟨_, prod_choice f c l fun y hy => h y (List.mem_cons_of_mem _ hy), rfl⟩⟩
theorem prod_len {α : Type} : ∀ (l : List (List α)) (m : Nat), (∀ x, x ∈ l -> x.length ≤ m) -> (prodL l).length ≤ m ^ l.length
  | [], m, _ => by simp [prodL]
  | x :: l, m, h => by
    have ih := prod_len l m fun y hy => h y (List.mem_cons_of_mem _ hy)
    have hx := h x List.mem_cons_self
    rw [prodL, List.length_flatMap, List.length_cons, Nat.pow_succ]
    have : (x.map fun a => ((prodL l).map (a :: ·)).length) = x.map fun _ => (prodL l).length := List.map_congr_left fun a _ => by rw [List.length_map]
    rw [this, List.map_const', List.sum_replicate_nat]
    rw [Nat.mul_comm (m ^ l.length)]
    exact Nat.mul_le_mul hx ih
theorem zip_map2 {α β γ : Type} (f : α -> β) (c : α -> γ) : ∀ l : List α, (l.map f).zip (l.map c) = l.map fun x => (f x, c x)
  | [] => rfl
  | x :: l => by rw [List.map_cons, List.map_cons, List.map_cons, List.zip_cons_cons, zip_map2 f c l]
def hiD (g : List (List Int)) (a b : Int) : Int := det (inn g.length a b).length (lapM (hiTs g a b))
theorem hiTs_len (g : List (List Int)) (a b : Int) : (hiTs g a b).length = (inn g.length a b).length := by unfold hiTs; rw [List.length_map]
theorem hiTs_nd (g : List (List Int)) (a b : Int) : ((hiTs g a b).map (·.1)).Nodup := by
  unfold hiTs
  rw [List.map_map]
  refine List.Pairwise.map _ (fun x y h e => h ?_) (inn_nd g.length a b)
  simp only [Function.comp] at e
  omega
theorem hiD_cnt (g : List (List Int)) (a b : Int) : hiD g a b = (((prodL ((hiTs g a b).map (·.2))).countP fun c => okT (inn g.length a b).length (((hiTs g a b).map (·.1)).zip c) : Nat) : Int) := by
  unfold hiD
  rw [det_lap _ _ (hiTs_len g a b) (hiTs_nd g a b), cnt_prod _ _ (hiTs_len g a b)]
theorem Can.pos {g : List (List Int)} {a b : Int} (C : Can g a b) : 0 < hiD g a b := by
  rw [hiD_cnt]
  have step : ∀ p : Nat, ∃ e : Int, p ∈ inn g.length a b -> e ∈ g.getD p [] /\ dstG g a b e < dstG g a b p := fun p => by
    by_cases hp : p ∈ inn g.length a b
    · obtain ⟨h1, h2, h3⟩ := mem_inn.1 hp
      obtain ⟨e, he⟩ := C.nearer h1 h2 h3
      exact ⟨e, fun _ => he⟩
    · exact ⟨0, fun h => absurd h hp⟩
  let f : Nat -> Int := fun p => Classical.choose (step p)
  have hf : ∀ p : Nat, p ∈ inn g.length a b -> f p ∈ g.getD p [] /\ dstG g a b (f p) < dstG g a b p := fun p => Classical.choose_spec (step p)
  have hc : (inn g.length a b).map f ∈ prodL ((hiTs g a b).map (·.2)) := by
    unfold hiTs
    rw [List.map_map]
    exact prod_choice _ _ _ fun p hp => (hf p hp).1
  have hk : okT (inn g.length a b).length (((hiTs g a b).map (·.1)).zip ((inn g.length a b).map f)) = true := by
    unfold hiTs
    rw [List.map_map, zip_map2]
    refine (ok_rank _ _ (by rw [List.length_map]) ?_).2 ⟨fun x => dstG g a b x, fun t ht _ => ?_⟩
    · have := hiTs_nd g a b
      unfold hiTs at this
      rw [List.map_map] at this ⊢
      exact this
    · obtain ⟨p, hp, rfl⟩ := List.mem_map.1 ht
      exact (hf p hp).2
  have : 0 < (prodL ((hiTs g a b).map (·.2))).countP fun c => okT (inn g.length a b).length (((hiTs g a b).map (·.1)).zip c) := List.countP_pos_iff.2 ⟨_, hc, hk⟩
  omega
theorem inn_len {n : Nat} {a b : Int} (h0 : 0 ≤ a) (h1 : a < (n : Int)) (k0 : 0 ≤ b) (k1 : b < (n : Int)) (hne : a ≠ b) : (inn n a b).length + 2 = n := by
  have key : ∀ m : Nat, (inn m a b).length + ((if a < (m : Int) then 1 else 0) + (if b < (m : Int) then 1 else 0)) = m := by
    intro m
    induction m with
    | zero => rw [if_neg (by omega), if_neg (by omega)]; rfl
    | succ m ih =>
      unfold inn at ih ⊢
      rw [List.range_succ, List.filter_append, List.length_append]
      by_cases e1 : (m : Int) = a
      · rw [List.filter_cons_of_neg (by rw [innB_t]; exact fun h => h.1 e1), List.filter_nil, List.length_nil]
        by_cases e2 : b < (m : Int)
        · rw [if_neg (by omega), if_pos e2] at ih
          rw [if_pos (by omega), if_pos (by omega)]; omega
        · rw [if_neg (by omega), if_neg e2] at ih
          rw [if_pos (by omega), if_neg (by omega)]; omega
      · by_cases e2 : (m : Int) = b
        · rw [List.filter_cons_of_neg (by rw [innB_t]; exact fun h => h.2 e2), List.filter_nil, List.length_nil]
          by_cases e3 : a < (m : Int)
          · rw [if_pos e3, if_neg (by omega)] at ih
            rw [if_pos (by omega), if_pos (by omega)]; omega
          · rw [if_neg e3, if_neg (by omega)] at ih
            rw [if_neg (by omega), if_pos (by omega)]; omega
        · rw [List.filter_cons_of_pos (innB_t.2 ⟨e1, e2⟩), List.filter_nil, List.length_cons, List.length_nil]
          rw [show (if a < ((m + 1 : Nat) : Int) then 1 else 0) = (if a < (m : Int) then 1 else 0) by split <;> split <;> omega, show (if b < ((m + 1 : Nat) : Int) then 1 else 0) = (if b < (m : Int) then 1 else 0) by split <;> split <;> omega]
          omega
  have := key n
  rw [if_pos h1, if_pos k1] at this
  omega
theorem Can.den {g : List (List Int)} {a b : Int} (C : Can g a b) : 1 ≤ hiD g a b /\ hiD g a b ≤ 15625 := by
  refine ⟨C.pos, ?_⟩
  rw [hiD_cnt]
  have hl := inn_len C.a0 C.a1 C.b0 C.b1 C.ne
  have gl := graph_len C.graph
  have h1 := List.countP_le_length (p := fun c => okT (inn g.length a b).length (((hiTs g a b).map (·.1)).zip c)) (l := prodL ((hiTs g a b).map (·.2)))
  have h2 := prod_len ((hiTs g a b).map (·.2)) 5 fun x hx => by
    unfold hiTs at hx
    rw [List.map_map] at hx
    obtain ⟨p, hp, rfl⟩ := List.mem_map.1 hx
    have hp := (mem_inn.1 hp).1
    show (g.getD p []).length ≤ 5
    rw [getD_get hp]
    exact (graph_mem C.graph (List.getElem_mem hp)).1
  rw [List.length_map, hiTs_len] at h2
  have h3 : 5 ^ (inn g.length a b).length ≤ 5 ^ 6 := Nat.pow_le_pow_right (by omega) (by omega)
  have h4 : (5 : Nat) ^ 6 = 15625 := rfl
  omega
def hiR (g : List (List Int)) (a b : Int) (own : Int -> Int) (A B : Int) (i : Nat) : Int := own ((inn g.length a b).getD i 0 : Nat) + A * occ a (g.getD ((inn g.length a b).getD i 0) []) + B * occ b (g.getD ((inn g.length a b).getD i 0) [])
def hiC (g : List (List Int)) (a b : Int) (own : Int -> Int) (A B : Int) (j : Nat) : Int := det (inn g.length a b).length (colS (lapM (hiTs g a b)) j (hiR g a b own A B))
def hiX (g : List (List Int)) (a b : Int) (own : Int -> Int) (A B : Int) (q : Int) : Int := if q = a then A * hiD g a b else if q = b then B * hiD g a b else hiC g a b own A B ((inn g.length a b).idxOf q.toNat)
theorem sumZ_pick (x : Nat -> Int) (L : Int) : ∀ {i m : Nat}, i < m -> sumZ (fun j => (if i = j then L else 0) * x j) m = L * x i
  | i, m + 1, h => by
    rw [sumZ]
    by_cases e : i = m
    · subst e
      rw [sumZ_zero fun j hj => by rw [if_neg (show ¬ i = j by omega), Int.zero_mul]]
      rw [if_pos rfl, Int.zero_add]
    · rw [sumZ_pick x L (show i < m by omega), if_neg e, Int.zero_mul, Int.add_zero]
theorem hiTs_get {g : List (List Int)} {a b : Int} {j : Nat} (hj : j < (inn g.length a b).length) : nmT (hiTs g a b) j = ((inn g.length a b)[j] : Nat) /\ exT (hiTs g a b) j = g.getD (inn g.length a b)[j] [] := by
  unfold nmT exT hiTs
  rw [List.getD_eq_getElem?_getD, List.getElem?_eq_getElem (by rw [List.length_map]; exact hj), List.getElem_map]
  exact ⟨rfl, rfl⟩
theorem inn_idx {n : Nat} {a b : Int} {j : Nat} (hj : j < (inn n a b).length) : (inn n a b).idxOf (inn n a b)[j] = j := (inn_nd n a b).idxOf_getElem j hj
theorem hi_sum {g : List (List Int)} {a b : Int} (own : Int -> Int) (A B : Int) (hne : a ≠ b) : ∀ l : List Int, (∀ x, x ∈ l -> 0 ≤ x /\ x < (g.length : Int)) -> sumX (hiX g a b own A B) l = A * hiD g a b * occ a l + B * hiD g a b * occ b l + sumZ (fun j => occ (nmT (hiTs g a b) j) l * hiC g a b own A B j) (inn g.length a b).length
  | [], _ => by
    rw [sumX_nil, sumZ_zero fun j _ => by rw [occ, Int.zero_mul]]
    simp [occ]
  | y :: l, h => by
    have ih := hi_sum own A B hne l fun x hx => h x (List.mem_cons_of_mem _ hx)
    have hy := h y List.mem_cons_self
    rw [sumX_cons, ih, occ, occ]
    have e1 : sumZ (fun j => occ (nmT (hiTs g a b) j) (y :: l) * hiC g a b own A B j) (inn g.length a b).length = sumZ (fun j => (if y = nmT (hiTs g a b) j then 1 else 0) * hiC g a b own A B j) (inn g.length a b).length + sumZ (fun j => occ (nmT (hiTs g a b) j) l * hiC g a b own A B j) (inn g.length a b).length := by
      rw [← sumZ_add]
      exact sumZ_congr fun j _ => by (try simp only); rw [occ, Int.add_mul]
    rw [e1]
    by_cases ea : y = a
    · have e2 : sumZ (fun j => (if y = nmT (hiTs g a b) j then 1 else 0) * hiC g a b own A B j) (inn g.length a b).length = 0 := sumZ_zero fun j hj => by
        (try simp only)
        rw [if_neg, Int.zero_mul]
        rw [(hiTs_get hj).1]
        have := (mem_inn.1 (List.getElem_mem hj)).2.1
        omega
      rw [e2]
      unfold hiX
      rw [if_pos ea, if_pos ea, if_neg (by omega), Int.zero_add (occ b l), Int.mul_add, Int.mul_one]
      omega
    · by_cases eb : y = b
      · have e2 : sumZ (fun j => (if y = nmT (hiTs g a b) j then 1 else 0) * hiC g a b own A B j) (inn g.length a b).length = 0 := sumZ_zero fun j hj => by
          (try simp only)
          rw [if_neg, Int.zero_mul]
          rw [(hiTs_get hj).1]
          have := (mem_inn.1 (List.getElem_mem hj)).2.2
          omega
        rw [e2]
        unfold hiX
        rw [if_neg ea, if_pos eb, if_neg ea, if_pos eb, Int.zero_add (occ a l), Int.mul_add (B * hiD g a b), Int.mul_one]
        omega
      · have hm : y.toNat ∈ inn g.length a b := mem_inn.2 ⟨by omega, by omega, by omega⟩
        have hi := List.idxOf_lt_length_iff.2 hm
        have e2 : sumZ (fun j => (if y = nmT (hiTs g a b) j then 1 else 0) * hiC g a b own A B j) (inn g.length a b).length = hiC g a b own A B ((inn g.length a b).idxOf y.toNat) := by
          have e3 := sumZ_pick (hiC g a b own A B) 1 hi
          rw [Int.one_mul] at e3
          rw [← e3]
          refine sumZ_congr fun j hj => ?_
          (try simp only)
          congr 1
          rw [(hiTs_get hj).1]
          by_cases e4 : (inn g.length a b).idxOf y.toNat = j
          · rw [if_pos e4, if_pos]
            subst e4
            rw [List.getElem_idxOf]
            omega
          · rw [if_neg e4, if_neg]
            intro e5
            apply e4
            rw [show y.toNat = (inn g.length a b)[j] by omega]
            exact inn_idx hj
        rw [e2]
        unfold hiX
        rw [if_neg ea, if_neg eb, if_neg ea, if_neg eb, Int.zero_add (occ a l), Int.zero_add (occ b l)]
        omega
theorem Can.bal {g : List (List Int)} {a b : Int} (C : Can g a b) (own : Int -> Int) (A B : Int) {p : Nat} (hp : p < g.length) (pa : (p : Int) ≠ a) (pb : (p : Int) ≠ b) : ((g.getD p []).length : Int) * hiX g a b own A B p = sumX (hiX g a b own A B) (g.getD p []) + own p * hiD g a b := by
  have hm : p ∈ inn g.length a b := mem_inn.2 ⟨hp, pa, pb⟩
  have hi := List.idxOf_lt_length_iff.2 hm
  have hr : ∀ x, x ∈ g.getD p [] -> 0 ≤ x /\ x < (g.length : Int) := fun x hx => by
    rw [getD_get hp] at hx
    exact (graph_mem C.graph (List.getElem_mem hp)).2 x hx
  have hc := cramer (lapM (hiTs g a b)) (hiR g a b own A B) hi
  have hg : (inn g.length a b)[(inn g.length a b).idxOf p] = p := List.getElem_idxOf hi
  have e1 : sumZ (fun j => lapM (hiTs g a b) ((inn g.length a b).idxOf p) j * det (inn g.length a b).length (colS (lapM (hiTs g a b)) j (hiR g a b own A B))) (inn g.length a b).length = ((g.getD p []).length : Int) * hiC g a b own A B ((inn g.length a b).idxOf p) + -sumZ (fun j => occ (nmT (hiTs g a b) j) (g.getD p []) * hiC g a b own A B j) (inn g.length a b).length := by
    rw [← sumZ_neg, ← sumZ_pick (hiC g a b own A B) _ hi, ← sumZ_add]
    refine sumZ_congr fun j hj => ?_
    (try simp only)
    unfold lapM
    rw [(hiTs_get hi).2, hg, Int.sub_mul, Int.sub_eq_add_neg]
    rfl
  have e2 : hiR g a b own A B ((inn g.length a b).idxOf p) = own p + A * occ a (g.getD p []) + B * occ b (g.getD p []) := by
    unfold hiR
    rw [show (inn g.length a b).getD ((inn g.length a b).idxOf p) 0 = p by rw [List.getD_eq_getElem?_getD, List.getElem?_eq_getElem hi, Option.getD_some, hg]]
  rw [e1, e2] at hc
  rw [hi_sum own A B C.ne _ hr]
  have e3 : hiX g a b own A B p = hiC g a b own A B ((inn g.length a b).idxOf p) := by
    unfold hiX
    rw [if_neg pa, if_neg pb]
    rfl
  rw [e3]
  have e4 : det (inn g.length a b).length (lapM (hiTs g a b)) = hiD g a b := rfl
  rw [e4, Int.mul_add, Int.mul_add] at hc
  have e5 : hiD g a b * own p = own p * hiD g a b := Int.mul_comm _ _
  have e6 : hiD g a b * (A * occ a (g.getD p [])) = A * hiD g a b * occ a (g.getD p []) := by rw [← Int.mul_assoc, Int.mul_comm (hiD g a b)]
  have e7 : hiD g a b * (B * occ b (g.getD p [])) = B * hiD g a b * occ b (g.getD p []) := by rw [← Int.mul_assoc, Int.mul_comm (hiD g a b)]
  rw [e5, e6, e7] at hc
  omega
def chN (g : List (List Int)) (a b q : Int) : Int := hiX g a b (fun _ => 0) 1 0 q
def stN (g : List (List Int)) (a b q : Int) : Int := hiX g a b (fun p => ((g.getD p.toNat []).length : Int)) 0 0 q
theorem chN_a (g : List (List Int)) (a b : Int) : chN g a b a = hiD g a b := by unfold chN hiX; rw [if_pos rfl, Int.one_mul]
theorem chN_b (g : List (List Int)) {a b : Int} (h : a ≠ b) : chN g a b b = 0 := by unfold chN hiX; rw [if_neg fun e => h e.symm, if_pos rfl, Int.zero_mul]
theorem Can.ch {g : List (List Int)} {a b : Int} (C : Can g a b) {p : Nat} (hp : p < g.length) (pa : (p : Int) ≠ a) (pb : (p : Int) ≠ b) : ((g.getD p []).length : Int) * chN g a b p = sumX (chN g a b) (g.getD p []) := by
  have := C.bal (fun _ => 0) 1 0 hp pa pb
  simp only [Int.zero_mul, Int.add_zero] at this
  exact this
theorem Can.ch_rng {g : List (List Int)} {a b : Int} (C : Can g a b) {p : Nat} (hp : p < g.length) : 0 ≤ chN g a b p /\ chN g a b p ≤ hiD g a b := by
  have hd := C.pos
  refine ⟨C.low (chN g a b) (by rw [chN_a]; omega) (by rw [chN_b g C.ne]; omega) (fun p hp pa pb => by rw [C.ch hp pa pb]; exact Int.le_refl _) p hp, ?_⟩
  have := C.low (fun q => hiD g a b + -1 * chN g a b q) (by (try simp only); rw [chN_a]; omega) (by (try simp only); rw [chN_b g C.ne]; omega) (fun p hp pa pb => by
    (try simp only)
    rw [sumX_add, sumX_const, sumX_mul, ← C.ch hp pa pb, Int.mul_add]
    rw [Int.mul_left_comm]
    exact Int.le_refl _) p hp
  (try simp only at this)
  omega
theorem Can.st {g : List (List Int)} {a b : Int} (C : Can g a b) {p : Nat} (hp : p < g.length) (pa : (p : Int) ≠ a) (pb : (p : Int) ≠ b) : ((g.getD p []).length : Int) * stN g a b p = sumX (stN g a b) (g.getD p []) + ((g.getD p []).length : Int) * hiD g a b := C.bal (fun p => ((g.getD p.toNat []).length : Int)) 0 0 hp pa pb
theorem stN_goal (g : List (List Int)) (a b q : Int) (h : q = a ∨ q = b) : stN g a b q = 0 := by
  unfold stN hiX
  split
  · rw [Int.zero_mul]
  · rw [if_pos (by omega), Int.zero_mul]
theorem Can.st_rng {g : List (List Int)} {a b : Int} (C : Can g a b) {p : Nat} (hp : p < g.length) : 0 ≤ stN g a b p /\ ((p : Int) ≠ a -> (p : Int) ≠ b -> hiD g a b ≤ stN g a b p) := by
  have hd := C.pos
  have h0 := C.low (stN g a b) (by rw [stN_goal g a b a (.inl rfl)]; omega) (by rw [stN_goal g a b b (.inr rfl)]; omega) fun p hp pa pb => by
    rw [C.st hp pa pb]
    have := Int.mul_nonneg (show (0 : Int) ≤ ((g.getD p []).length : Int) by omega) (show 0 ≤ hiD g a b by omega)
    omega
  refine ⟨h0 p hp, fun pa pb => ?_⟩
  have h1 := C.st hp pa pb
  have h2 : 0 ≤ sumX (stN g a b) (g.getD p []) := by
    have := (sum_lo (f := stN g a b) (u := 0) (g.getD p []) fun x hx => by
      rw [getD_get hp] at hx
      have xr := (graph_mem C.graph (List.getElem_mem hp)).2 x hx
      have := h0 x.toNat (by omega)
      rw [show ((x.toNat : Nat) : Int) = x by omega] at this
      exact this).1
    simpa using this
  have hl := C.out p hp pa pb
  have h3 : ((g.getD p []).length : Int) * hiD g a b ≤ ((g.getD p []).length : Int) * stN g a b p := by omega
  exact Int.le_of_mul_le_mul_left h3 (by omega)
@[reducible] def tR : TypeId := 36
@[reducible] def tRs : TypeId := 29
theorem rRs : rowC Try.prog tRs = some (tR, 2, 16, [VI 0, VI 0]) := by kernel_rfl
theorem natAbs_max {x : Int} (h : -9223372036854775808 < x) (h' : x < 9223372036854775808) : max x (w64 (0 - x)) = (x.natAbs : Int) := by
  rw [w64_eq _ (by omega) (by omega)]
  by_cases e : 0 ≤ x
  · rw [Int.max_eq_left (by omega)]; omega
  · rw [Int.max_eq_right (by omega)]; omega
theorem tmod_nn (m k : Nat) : Int.tmod (m : Int) (k : Int) = ((m % k : Nat) : Int) := by rw [Int.ofNat_tmod]
def ratP (x d : Int) : Int × Int := (x / (Int.gcd x d : Int), d / (Int.gcd x d : Int))
theorem gcd_pos {x d : Int} (h : 0 < d) : 0 < Int.gcd x d := Int.gcd_pos_of_ne_zero_right _ (by omega)
theorem ratP_mul {x d : Int} : (Int.gcd x d : Int) * (ratP x d).1 = x /\ (Int.gcd x d : Int) * (ratP x d).2 = d := ⟨Int.mul_ediv_cancel' (Int.gcd_dvd_left ..), Int.mul_ediv_cancel' (Int.gcd_dvd_right ..)⟩
theorem ratP_td {x d : Int} : Int.tdiv x (Int.gcd x d : Int) = (ratP x d).1 /\ Int.tdiv d (Int.gcd x d : Int) = (ratP x d).2 := ⟨Int.tdiv_eq_ediv_of_dvd (Int.gcd_dvd_left ..), Int.tdiv_eq_ediv_of_dvd (Int.gcd_dvd_right ..)⟩
theorem le_of_gmul {g x y : Int} (hg : 0 < g) (h : g * x = y) : x.natAbs ≤ y.natAbs := by
  rw [← h, Int.natAbs_mul]
  exact Nat.le_mul_of_pos_left _ (by omega)
theorem ratP_abs {x d : Int} (h : 0 < d) : (ratP x d).1.natAbs ≤ x.natAbs /\ (ratP x d).2.natAbs ≤ d.natAbs := by
  have hg := gcd_pos (x := x) h
  have hm := ratP_mul (x := x) (d := d)
  exact ⟨le_of_gmul (by omega) hm.1, le_of_gmul (by omega) hm.2⟩
theorem ratP_pos {x d : Int} (h : 0 < d) : 0 < (ratP x d).2 := by
  have hg := gcd_pos (x := x) h
  have hm := (ratP_mul (x := x) (d := d)).2
  refine Classical.byContradiction fun hn => ?_
  have := Int.mul_nonpos_of_nonneg_of_nonpos (a := (Int.gcd x d : Int)) (b := (ratP x d).2) (by omega) (by omega)
  omega
theorem k_gcd (a b : Int) (ha : -9223372036854775808 < a /\ a < 9223372036854775808) (hb : -9223372036854775808 < b /\ b < 9223372036854775808) (h : Heap) : Ret Try.prog 112 #[VI a, VI b] h (VI (Int.gcd a b)) := by
  intro K HK
  refine v112 a b h K (pop_max _ _ _ _ ⟨_, rfl, pop_max _ _ _ _ ⟨_, rfl, ?_⟩⟩)
  rw [natAbs_max ha.1 ha.2, natAbs_max hb.1 hb.2]
  refine ⟨fun n x y h' => ∃ m : Nat, x = m /\ y = n /\ Nat.gcd m n = Int.gcd a b /\ Fr No h h', ⟨b.natAbs, a.natAbs, rfl, rfl, rfl, Fr.refl _ _⟩, ?_⟩
  rintro n x y h1 ⟨m, rfl, rfl, hg, f1⟩ hL1
  refine ⟨fun e => ?_, fun e => ?_⟩
  · have e := not_t e
    simp only [decide_eq_false_iff_not] at e
    refine ⟨e, m % n, Nat.mod_lt _ (by omega), n, rfl, tmod_nn m n, ?_, f1⟩
    rw [← hg, Nat.gcd_comm m n, Nat.gcd_rec n m, Nat.gcd_comm]
  · have e := not_f e
    simp only [decide_eq_true_eq] at e
    have : n = 0 := by omega
    subst this
    rw [Nat.gcd_zero_right] at hg
    rw [hg]
    exact HK h1 f1
theorem k_ratio (x d : Int) (hx : -9223372036854775808 < x /\ x < 9223372036854775808) (hd : 0 < d) (hd2 : d < 9223372036854775808) (h : Heap) : Ret Try.prog 60 #[VI x, VI d] h (.agg #[VI (ratP x d).1, VI (ratP x d).2]) := by
  intro K HK
  refine v60 x d h K fun b1 h1 hb1 f1 hL1 => ?_
  have f1 := f1.in_nil
  refine k_gcd x d hx ⟨by omega, hd2⟩ h1 _ fun h2 f2 => ⟨_, rfl, hL1.of_no f2, ?_⟩
  refine ⟨fun y h' => y = (Int.gcd x d : Int) /\ Fr No h h', ⟨fun e => by simp only [decide_eq_true_eq] at e; omega, fun _ => ⟨rfl, f1.no_trans f2⟩⟩, ?_⟩
  rintro y h3 ⟨rfl, f3⟩ hL3
  have hg := gcd_pos (x := x) hd
  have ht := ratP_td (x := x) (d := d)
  have hb := ratP_abs (x := x) hd
  rw [ht.1, ht.2, w64_eq _ (by omega) (by omega), w64_eq _ (by omega) (by omega)]
  refine ⟨by omega, by omega, fun h4 f4 hL4 => HK h4 (f3.fresh f4 fun k hk => ?_)⟩
  simp only [In, List.mem_cons, List.not_mem_nil, or_false] at hk
  omega
theorem k_l1Most (a b : Int) (h : Heap) (K : Value -> Heap -> Prop) (HK : K (VI (max a b)) h) : callM Try.prog 126 #[VI a, VI b] h K := by
  refine v126 a b h K ⟨fun e => ?_, fun e => ?_⟩
  · simp only [decide_eq_true_eq] at e
    rw [Int.max_eq_left (by omega)] at HK
    exact HK
  · simp only [decide_eq_false_iff_not] at e
    rw [Int.max_eq_right (by omega)] at HK
    exact HK
theorem k_l1Abs (a : Int) (ha : -9223372036854775808 < a) (ha' : a < 9223372036854775808) (h : Heap) (K : Value -> Heap -> Prop) (HK : K (VI a.natAbs) h) : callM Try.prog 85 #[VI a] h K :=
  v85 a h K (k_l1Most _ _ _ _ ⟨_, rfl, .nil, by rw [natAbs_max ha ha']; exact HK⟩)
theorem k_hiRatio (x d : Int) (hx : -9223372036854775808 < x /\ x < 9223372036854775808) (hd : 0 < d) (hd2 : d < 9223372036854775808) (h : Heap) : Ret Try.prog 74 #[VI x, VI d] h (.agg #[VI (ratP x d).1, VI (ratP x d).2]) := by
  intro K HK
  refine v74 x d h K fun b1 h1 hb1 f1 hL1 => ?_
  have f1 := f1.in_nil
  refine ⟨fun y z h' => y = x /\ z = d /\ Fr No h h', ⟨fun e => by simp only [decide_eq_true_eq] at e; omega, fun _ => ⟨rfl, rfl, f1⟩⟩, ?_⟩
  rintro y z h2 ⟨rfl, rfl, f2⟩ hL2
  refine k_l1Abs y hx.1 hx.2 h2 _ ⟨_, rfl, hL2, ?_⟩
  refine ⟨fun n p q h' => ∃ m : Nat, p = m /\ q = n /\ Nat.gcd m n = Int.gcd y z /\ Fr No h h', ⟨z.natAbs, y.natAbs, rfl, by omega, rfl, f2⟩, ?_⟩
  rintro n p q h3 ⟨m, rfl, rfl, hg, f3⟩ hL3
  refine ⟨fun e => ?_, fun e => ?_⟩
  · simp only [decide_eq_true_eq] at e
    refine ⟨by omega, m % n, Nat.mod_lt _ (by omega), n, rfl, tmod_nn m n, ?_, f3⟩
    rw [← hg, Nat.gcd_comm m n, Nat.gcd_rec n m, Nat.gcd_comm]
  · simp only [decide_eq_false_iff_not] at e
    have : n = 0 := by omega
    subst this
    rw [Nat.gcd_zero_right] at hg
    rw [hg]
    have hg := gcd_pos (x := y) hd
    have ht := ratP_td (x := y) (d := z)
    have hb := ratP_abs (x := y) hd
    rw [ht.1, ht.2, w64_eq _ (by omega) (by omega), w64_eq _ (by omega) (by omega)]
    refine ⟨by omega, by omega, fun h4 f4 hL4 => HK h4 (f3.fresh f4 fun k hk => ?_)⟩
    simp only [In, List.mem_cons, List.not_mem_nil, or_false] at hk
    omega
theorem k_size (a : Int) (ha : -9223372036854775808 < a) (ha' : a < 9223372036854775808) (h : Heap) (K : Value -> Heap -> Prop) (HK : K (VI a.natAbs) h) : callM Try.prog 84 #[VI a] h K :=
  v84 a h K (pop_max _ _ _ _ ⟨_, rfl, by rw [natAbs_max ha ha']; exact HK⟩)
def endQ (g : List (List Int)) (a b : Int) (p : Nat) : Bool := !(decide ((farP g p).getD a.toNat 0 < 0) && decide ((farP g p).getD b.toNat 0 < 0)) && !(innB a b p && decide ((g.getD p []).length = 0))
theorem endB_no {g : List (List Int)} {a b : Int} {p : Nat} (hp : p < g.length) (h : endQ g a b p = false) : endB g a b = false := List.all_eq_false.2 ⟨p, List.mem_range.2 hp, by unfold endQ at h; rw [h]; decide⟩
theorem endB_yes {g : List (List Int)} {a b : Int} (h : ∀ p, p < g.length -> endQ g a b p = true) : endB g a b = true := List.all_eq_true.2 fun p hp => h p (List.mem_range.1 hp)
theorem can_tail {S : Nat -> Prop} {h : Heap} {t : Sl} {far : List Int} (R : RdI S h t far) {b : Int} (b0 : 0 ≤ b) (b1 : b < (far.length : Int)) {x p a l : Int} {KF KN : Prop} (hF : (!(decide (x < 0) && decide (far.getD b.toNat 0 < 0)) && !((!decide (p = a) && !decide (p = b)) && decide (l = 0))) = false -> KF) (hN : (!(decide (x < 0) && decide (far.getD b.toNat 0 < 0)) && !((!decide (p = a) && !decide (p = b)) && decide (l = 0))) = true -> KN) :
    ((decide (x < 0)) = true -> InB t b /\ ∃ y : Int, hcell h (Sl.at t b 1) = some (VI y) /\ ((decide (y < 0)) = true -> KF) /\ ((decide (y < 0)) = false -> ((!decide (p = a)) = true -> ((!decide (p = b)) = true -> ((decide (l = 0)) = true -> KF) /\ ((decide (l = 0)) = false -> KN)) /\ ((!decide (p = b)) = false -> KN)) /\ ((!decide (p = a)) = false -> KN))) ∧
    ((decide (x < 0)) = false -> ((!decide (p = a)) = true -> ((!decide (p = b)) = true -> ((decide (l = 0)) = true -> KF) /\ ((decide (l = 0)) = false -> KN)) /\ ((!decide (p = b)) = false -> KN)) /\ ((!decide (p = a)) = false -> KN)) := by
  refine ⟨fun e1 => ⟨R.inb b0 b1, _, R.get b0 b1, fun e2 => hF ?_, fun e2 => ⟨fun e3 => ⟨fun e4 => ⟨fun e5 => hF ?_, fun e5 => hN ?_⟩, fun e4 => hN ?_⟩, fun e3 => hN ?_⟩⟩, fun e1 => ⟨fun e3 => ⟨fun e4 => ⟨fun e5 => hF ?_, fun e5 => hN ?_⟩, fun e4 => hN ?_⟩, fun e3 => hN ?_⟩⟩
  all_goals (try rw [← getD_getI (by omega)] at e2)
  all_goals (rw [e1]; (try rw [e2]); (try rw [e3]); (try rw [e4]); (try rw [e5]); first | rfl | simp)
theorem k_canEnd {S : Nat -> Prop} {h : Heap} {g : Sl} {xss : List (List Int)} (G : RdR S h g xss) (a b : Int) : Ret Try.prog 58 #[.agg #[g.v], VI a, VI b] h (VB (canB xss a b)) := by
  intro K HK
  unfold canB at HK
  refine v58 g a b h K fun b1 h1 hb1 f1 hL1 => ?_
  have f1 := f1.in_nil
  refine eop_lit rIs (fun k => h1.size ≤ k) (fun _ h => h) 2 (by omega) [VI a, VI b] rfl rfl fun t h2 n2 c2 o2 f2 m2 _ => ⟨t, rfl, hL1.of_no f2, ?_⟩
  have o2 : RdI (fun k => h1.size ≤ k) h2 t [a, b] := o2.rdF
  have f12 := f1.no_trans f2
  have hL2 := hL1.of_no f2
  refine k_has (G.no f12) o2 _ fun h3 f3 => ⟨_, rfl, hL2.of_no f3, fun e => ?_, fun e => ?_⟩
  all_goals simp only [List.all_cons, List.all_nil, Bool.and_true] at e
  all_goals have f13 := f12.no_trans f3
  · have e := not_t e
    have : goalB xss a b = false := by unfold goalB; rw [Bool.and_assoc (graphB xss), e]; rfl
    rw [this, Bool.false_and] at HK
    exact HK h3 f13
  have e := not_f e
  refine ⟨fun e2 => ?_, fun e2 => ?_⟩
  · have : goalB xss a b = false := by unfold goalB; rw [e2, Bool.not_true, Bool.and_false]
    rw [this, Bool.false_and] at HK
    exact HK h3 f13
  have hgo : goalB xss a b = true := by unfold goalB; rw [Bool.and_assoc (graphB xss), e, e2]; rfl
  obtain ⟨hg, ⟨a0, a1⟩, ⟨b0, b1⟩, hne⟩ := goal_o hgo
  rw [hgo, Bool.true_and] at HK
  refine ⟨fun n i h' => 0 ≤ i /\ i + n = (xss.length : Int) /\ (∀ q : Nat, (q : Int) < i -> endQ xss a b q = true) /\ Fr No h h', ⟨xss.length, by omega, by omega, fun q hq => by omega, f13⟩, ?_⟩
  rintro n i h4 ⟨i0, i1, i2, f4⟩ hL4
  have G4 := G.no f4
  refine ⟨fun e3 => ?_, fun e3 => ?_⟩
  · have hi := G4.lt e3
    have ei : ((i.toNat : Nat) : Int) = i := by omega
    obtain ⟨si, ci, ri⟩ := G4.get i0 hi
    have eg : xss.getD i.toNat [] = xss[i.toNat]'(by omega) := getD_get (by omega)
    have ln := ri.len
    refine ⟨G4.inb i0 hi, si, ci, k_lengths G4 hg i0 hi _ fun t h5 o5 hl f5 => ⟨t, rfl, hL4.of_no f5, ?_⟩⟩
    have r5 : RdI _ h5 t _ := Ow.rdF o5
    have f45 := f4.no_trans f5
    have key : ∀ v, (!(decide ((farP xss i)[a.toNat]'(by omega) < 0) && decide ((farP xss i).getD b.toNat 0 < 0)) && !((!decide (i = a) && !decide (i = b)) && decide ((si.n : Int) = 0))) = v -> endQ xss a b i.toNat = v := fun v hv => by
      rw [← hv]
      unfold endQ innB
      rw [ei, eg, getD_getI (show a.toNat < (farP xss i).length by omega), show decide ((xss[i.toNat]'(by omega)).length = 0) = decide ((si.n : Int) = 0) from decide_eq_decide.2 ⟨fun _ => by omega, fun _ => by omega⟩]
    refine ⟨r5.inb a0 (by omega), _, r5.get a0 (by omega), can_tail r5 b0 (by omega) (fun hq => ?_) fun hq => ?_⟩
    · rw [endB_no (by omega) (key _ hq)] at HK
      exact HK h5 f45
    · rw [G4.succ i0 hi]
      refine ⟨n - 1, by omega, by omega, by omega, fun q h2 => ?_, f45⟩
      by_cases h3 : (q : Int) < i
      · exact i2 q h3
      · rw [show q = i.toNat by omega]; exact key _ hq
  · have hi := G4.ge e3
    rw [endB_yes fun p hp => i2 p (by omega)] at HK
    exact HK h4 f4
theorem k_hiGoals {S : Nat -> Prop} {h : Heap} {g : Sl} {xss : List (List Int)} (G : RdR S h g xss) (a b : Int) : Ret Try.prog 64 #[.agg #[g.v], VI a, VI b] h (VB (goalB xss a b)) := by
  intro K HK
  refine v64 g a b h K fun b1 h1 hb1 f1 hL1 => ?_
  have f1 := f1.in_nil
  refine k_spec_grPlace (G.no f1) a _ fun h2 f2 => ⟨_, rfl, hL1.of_no f2, fun e => ?_, fun e => ?_⟩
  · refine k_spec_grPlace (G.no (f1.no_trans f2)) b _ fun h3 f3 => ⟨_, rfl, (hL1.of_no f2).of_no f3, fun e2 => ?_, fun e2 => ?_⟩
    · unfold goalB at HK
      rw [e] at HK
      rw [Bool.and_eq_true] at e2
      rw [e2.2] at HK
      exact HK h3 ((f1.no_trans f2).no_trans f3)
    · unfold goalB at HK
      rw [Bool.and_eq_true] at e
      rw [e.1, Bool.true_and] at e2
      rw [e2, Bool.and_false, Bool.false_and] at HK
      exact HK h3 ((f1.no_trans f2).no_trans f3)
  · unfold goalB at HK
    rw [e] at HK
    exact HK h2 (f1.no_trans f2)
theorem k_hiCan {S : Nat -> Prop} {h : Heap} {g : Sl} {xss : List (List Int)} (G : RdR S h g xss) {a b : Int} (hgo : goalB xss a b = true) : Ret Try.prog 65 #[.agg #[g.v], VI a, VI b] h (VB (endB xss a b)) := by
  intro K HK
  obtain ⟨hg, ⟨a0, a1⟩, ⟨b0, b1⟩, hne⟩ := goal_o hgo
  refine v65 g a b h K fun b1 h1 hb1 f1 hL1 => ?_
  have f1 := f1.in_nil
  refine ⟨fun n i h' => 0 ≤ i /\ i + n = (xss.length : Int) /\ (∀ q : Nat, (q : Int) < i -> endQ xss a b q = true) /\ Fr No h h', ⟨xss.length, by omega, by omega, fun q hq => by omega, f1⟩, ?_⟩
  rintro n i h4 ⟨i0, i1, i2, f4⟩ hL4
  have G4 := G.no f4
  refine ⟨fun e3 => ?_, fun e3 => ?_⟩
  · have hi := G4.lt e3
    have ei : ((i.toNat : Nat) : Int) = i := by omega
    obtain ⟨si, ci, ri⟩ := G4.get i0 hi
    have eg : xss.getD i.toNat [] = xss[i.toNat]'(by omega) := getD_get (by omega)
    have ln := ri.len
    refine ⟨G4.inb i0 hi, si, ci, k_grFar G4 hg i0 hi _ fun t h5 o5 hl f5 => ⟨t, rfl, hL4.of_no f5, ?_⟩⟩
    have r5 : RdI _ h5 t _ := Ow.rdF o5
    have f45 := f4.no_trans f5
    have key : ∀ v, (!(decide ((farP xss i)[a.toNat]'(by omega) < 0) && decide ((farP xss i).getD b.toNat 0 < 0)) && !((!decide (i = a) && !decide (i = b)) && decide ((si.n : Int) = 0))) = v -> endQ xss a b i.toNat = v := fun v hv => by
      rw [← hv]
      unfold endQ innB
      rw [ei, eg, getD_getI (show a.toNat < (farP xss i).length by omega), show decide ((xss[i.toNat]'(by omega)).length = 0) = decide ((si.n : Int) = 0) from decide_eq_decide.2 ⟨fun _ => by omega, fun _ => by omega⟩]
    refine ⟨r5.inb a0 (by omega), _, r5.get a0 (by omega), can_tail r5 b0 (by omega) (fun hq => ?_) fun hq => ?_⟩
    · rw [endB_no (by omega) (key _ hq)] at HK
      exact HK h5 f45
    · rw [G4.succ i0 hi]
      refine ⟨n - 1, by omega, by omega, by omega, fun q h2 => ?_, f45⟩
      by_cases h3 : (q : Int) < i
      · exact i2 q h3
      · rw [show q = i.toNat by omega]; exact key _ hq
  · have hi := G4.ge e3
    rw [endB_yes fun p hp => i2 p (by omega)] at HK
    exact HK h4 f4
theorem k_hiGood {S : Nat -> Prop} {h : Heap} {g : Sl} {xss : List (List Int)} (G : RdR S h g xss) (a b : Int) : Ret Try.prog 61 #[.agg #[g.v], VI a, VI b] h (VB (canB xss a b)) := by
  intro K HK
  unfold canB at HK
  refine v61 g a b h K fun b1 h1 hb1 f1 hL1 => ?_
  have f1 := f1.in_nil
  refine k_hiGoals (G.no f1) a b _ fun h2 f2 => ⟨_, rfl, hL1.of_no f2, fun e => ?_, fun e => ?_⟩
  · rw [e, Bool.true_and] at HK
    exact k_hiCan (G.no (f1.no_trans f2)) e _ fun h3 f3 => ⟨_, rfl, (hL1.of_no f2).of_no f3, HK h3 ((f1.no_trans f2).no_trans f3)⟩
  · rw [e, Bool.false_and] at HK
    exact HK h2 (f1.no_trans f2)
def hiRow (ps : List Nat) (p : Nat) (l : List Int) (L : Int) : List Int := ps.map fun q : Nat => (if q = p then L else 0) - occ q l
theorem hiRow_len (ps : List Nat) (p : Nat) (l : List Int) (L : Int) : (hiRow ps p l L).length = ps.length := by unfold hiRow; rw [List.length_map]
theorem hiRow_get {ps : List Nat} {p : Nat} {l : List Int} {L : Int} {j : Nat} (h : j < (hiRow ps p l L).length) : (hiRow ps p l L)[j] = (if ps[j]'(by rw [hiRow_len] at h; exact h) = p then L else 0) - occ (ps[j]'(by rw [hiRow_len] at h; exact h) : Nat) l := by simp [hiRow]
theorem hiRow_zero (ps : List Nat) (p : Nat) : hiRow ps p [] 0 = List.replicate ps.length 0 := by
  apply List.ext_getElem (by rw [hiRow_len, List.length_replicate])
  intro j h1 h2
  rw [hiRow_get h1, List.getElem_replicate, occ]
  split <;> rfl
theorem nd_get {ps : List Nat} (nd : ps.Nodup) {i j : Nat} (hi : i < ps.length) (hj : j < ps.length) (h : ps[i] = ps[j]) : i = j := by
  have hp := List.pairwise_iff_getElem.1 nd
  rcases Nat.lt_trichotomy i j with a | a | a
  · exact absurd h (hp i j hi hj a)
  · exact a
  · exact absurd h.symm (hp j i hj hi a)
theorem hiRow_less {ps : List Nat} (nd : ps.Nodup) {p : Nat} {l : List Int} {L x : Int} {i : Nat} (hi : i < ps.length) (e : ((ps[i] : Nat) : Int) = x) : hiRow ps p (l ++ [x]) L = (hiRow ps p l L).set i ((hiRow ps p l L).getD i 0 - 1) := by
  have hl : i < (hiRow ps p l L).length := by rw [hiRow_len]; exact hi
  have hd := getD_getI hl
  rw [hiRow_get hl] at hd
  rw [hd]
  apply List.ext_getElem (by rw [List.length_set, hiRow_len, hiRow_len])
  intro j h1 h2
  have hj : j < (hiRow ps p l L).length := by rw [hiRow_len] at h1 ⊢; exact h1
  have hj' : j < ps.length := by rw [hiRow_len] at hj; exact hj
  rw [hiRow_get h1, List.getElem_set, occ_append, hiRow_get hj]
  simp only [occ]
  by_cases c : i = j
  · subst c
    rw [if_pos (show i = i from rfl), if_pos (show x = ((ps[i] : Nat) : Int) from e.symm)]; omega
  · rw [if_neg (show ¬ i = j from c), if_neg (show ¬ x = ((ps[j] : Nat) : Int) from fun h => c (nd_get nd hi hj' (by omega)))]; omega
theorem hiRow_skip {ps : List Nat} {p : Nat} {l : List Int} {L x : Int} (h : ∀ q, q ∈ ps -> ((q : Nat) : Int) ≠ x) : hiRow ps p (l ++ [x]) L = hiRow ps p l L := by
  unfold hiRow
  refine List.map_congr_left fun q hq => ?_
  have hz : (if x = (q : Int) then (1 : Int) else 0) = 0 := if_neg fun e => h q hq e.symm
  rw [occ_append]
  simp only [occ]
  rw [hz]; omega
theorem hiRow_own {ps : List Nat} (nd : ps.Nodup) {l : List Int} {L : Int} {i : Nat} (hi : i < ps.length) : hiRow ps ps[i] l L = (hiRow ps ps[i] l 0).set i ((hiRow ps ps[i] l 0).getD i 0 + L) := by
  have hl : i < (hiRow ps ps[i] l 0).length := by rw [hiRow_len]; exact hi
  have hd := getD_getI hl
  rw [hiRow_get hl] at hd
  rw [hd]
  apply List.ext_getElem (by rw [List.length_set, hiRow_len, hiRow_len])
  intro j h1 h2
  have hj : j < (hiRow ps ps[i] l 0).length := by rw [hiRow_len] at h1 ⊢; exact h1
  have hj' : j < ps.length := by rw [hiRow_len] at hj; exact hj
  rw [hiRow_get h1, List.getElem_set, hiRow_get hj]
  by_cases c : i = j
  · subst c
    rw [if_pos rfl, if_pos rfl, if_pos rfl]; omega
  · rw [if_neg c, if_neg fun h => c (nd_get nd hi hj' h.symm), if_neg fun h => c (nd_get nd hi hj' h.symm)]
def hiM (g : List (List Int)) (a b : Int) : List (List Int) := (inn g.length a b).map fun p => hiRow (inn g.length a b) p (g.getD p []) (g.getD p []).length
def hiRt (g : List (List Int)) (a b : Int) (own : Int -> Int) (A B : Int) (p : Nat) : Int := own p + A * occ a (g.getD p []) + B * occ b (g.getD p [])
def hiRL (g : List (List Int)) (a b : Int) (own : Int -> Int) (A B : Int) : List Int := (inn g.length a b).map (hiRt g a b own A B)
theorem hiM_sq (g : List (List Int)) (a b : Int) : (hiM g a b).length = (inn g.length a b).length /\ Sq (inn g.length a b).length (hiM g a b) := by
  have e : (hiM g a b).length = (inn g.length a b).length := by unfold hiM; rw [List.length_map]
  refine ⟨e, e, fun i hi => ?_⟩
  rw [show (hiM g a b)[i] = _ from List.getElem_map _, hiRow_len]
theorem hiM_mat (g : List (List Int)) (a b : Int) {i j : Nat} (hi : i < (inn g.length a b).length) (hj : j < (inn g.length a b).length) : matL (hiM g a b) i j = lapM (hiTs g a b) i j := by
  have hr : i < (hiM g a b).length := by rw [(hiM_sq g a b).1]; exact hi
  have er : (hiM g a b)[i] = hiRow (inn g.length a b) (inn g.length a b)[i] (g.getD (inn g.length a b)[i] []) (g.getD (inn g.length a b)[i] []).length := List.getElem_map _
  unfold matL lapM
  rw [getD_get hr, er, getD_getI (by rw [hiRow_len]; exact hj), hiRow_get (by rw [hiRow_len]; exact hj), (hiTs_get hi).2, (hiTs_get hj).1]
  congr 1
  by_cases e : i = j
  · subst e; rw [if_pos rfl, if_pos rfl]
  · rw [if_neg e, if_neg fun h => e (nd_get (inn_nd _ _ _) hi hj h.symm)]
theorem hiM_small {g : List (List Int)} (hg : graphB g = true) (a b : Int) : Small (inn g.length a b).length (matL (hiM g a b)) := fun i j hi hj => by
  rw [hiM_mat g a b hi hj]
  unfold lapM
  rw [(hiTs_get hi).2]
  have hp := (mem_inn.1 (List.getElem_mem hi)).1
  have hb : (g.getD (inn g.length a b)[i] []).length ≤ 5 := by rw [getD_get hp]; exact (graph_mem hg (List.getElem_mem hp)).1
  have := occ_bound (nmT (hiTs g a b) j) (g.getD (inn g.length a b)[i] [])
  split <;> omega
theorem hiM_det (g : List (List Int)) (a b : Int) : det (inn g.length a b).length (matL (hiM g a b)) = hiD g a b := det_congr fun i j hi hj => hiM_mat g a b hi hj
theorem hiRL_len (g : List (List Int)) (a b : Int) (own : Int -> Int) (A B : Int) : (hiRL g a b own A B).length = (inn g.length a b).length := by unfold hiRL; rw [List.length_map]
theorem hiRL_get (g : List (List Int)) (a b : Int) (own : Int -> Int) (A B : Int) {i : Nat} (hi : i < (inn g.length a b).length) : (hiRL g a b own A B).getD i 0 = hiR g a b own A B i := by
  rw [getD_getI (by rw [hiRL_len]; exact hi)]
  refine (show (hiRL g a b own A B)[i]'(by rw [hiRL_len]; exact hi) = hiRt g a b own A B (inn g.length a b)[i] from List.getElem_map _).trans ?_
  have e1 : (inn g.length a b).getD i 0 = (inn g.length a b)[i] := by rw [List.getD_eq_getElem?_getD, List.getElem?_eq_getElem hi, Option.getD_some]
  unfold hiR hiRt
  rw [e1]
theorem hiC_eq (g : List (List Int)) (a b : Int) (own : Int -> Int) (A B : Int) (k : Nat) : det (inn g.length a b).length (colS (matL (hiM g a b)) k fun i => (hiRL g a b own A B).getD i 0) = hiC g a b own A B k := by
  refine det_congr fun i j hi hj => ?_
  unfold colS
  split
  · exact hiRL_get g a b own A B hi
  · exact hiM_mat g a b hi hj
def putC (rows : List (List Int)) (k : Nat) (r : List Int) : List (List Int) := rows.zipIdx.map fun t => t.1.set k (r.getD t.2 0)
theorem putC_len (rows : List (List Int)) (k : Nat) (r : List Int) : (putC rows k r).length = rows.length := by unfold putC; rw [List.length_map, List.length_zipIdx]
theorem putC_get {rows : List (List Int)} {k : Nat} {r : List Int} {i : Nat} (hi : i < rows.length) : (putC rows k r)[i]'(by rw [putC_len]; exact hi) = rows[i].set k (r.getD i 0) := by
  refine (List.getElem_map (l := rows.zipIdx) _ (h := by rw [List.length_map, List.length_zipIdx]; exact hi)).trans ?_
  rw [List.getElem_zipIdx]
  (try simp only [Nat.zero_add])
theorem putC_sq {n : Nat} {rows : List (List Int)} (Q : Sq n rows) (k : Nat) (r : List Int) : Sq n (putC rows k r) := ⟨by rw [putC_len]; exact Q.len, fun i hi => by
  rw [putC_len] at hi
  rw [putC_get hi, List.length_set]
  exact Q.row i hi⟩
theorem putC_mat {n : Nat} {rows : List (List Int)} (Q : Sq n rows) {k : Nat} {r : List Int} {i j : Nat} (hi : i < n) (hj : j < n) : matL (putC rows k r) i j = colS (matL rows) k (fun i => r.getD i 0) i j := by
  have hl := Q.len
  have hi' : i < rows.length := by omega
  have hr := Q.row i hi'
  have h1 : i < (putC rows k r).length := by rw [putC_len]; exact hi'
  have h2 : j < ((putC rows k r)[i]'h1).length := by rw [putC_get hi', List.length_set, hr]; exact hj
  rw [matL_get h1 h2]
  have : ((putC rows k r)[i]'h1)[j]'h2 = (rows[i].set k (r.getD i 0))[j]'(by rw [List.length_set, hr]; exact hj) := by congr 1; exact putC_get hi'
  rw [this, List.getElem_set]
  unfold colS
  by_cases e : k = j
  · rw [if_pos e, if_pos e.symm]
  · rw [if_neg e, if_neg fun h => e h.symm, matL_get hi' (by rw [hr]; exact hj)]
theorem putC_small {n : Nat} {rows : List (List Int)} (Q : Sq n rows) (S : Small n (matL rows)) {k : Nat} {r : List Int} (hr : ∀ i, i < n -> (r.getD i 0).natAbs ≤ 10) : Small n (matL (putC rows k r)) := fun i j hi hj => by
  rw [putC_mat Q hi hj]
  unfold colS
  split
  · exact hr i hi
  · exact S i j hi hj
theorem putC_det {n : Nat} {rows : List (List Int)} (Q : Sq n rows) (k : Nat) (r : List Int) : det n (matL (putC rows k r)) = det n (colS (matL rows) k fun i => r.getD i 0) := det_congr fun i j hi hj => putC_mat Q hi hj
theorem putC_snoc {rows : List (List Int)} {k : Nat} {r : List Int} {i : Nat} (hi : i < rows.length) : (putC rows k r).take (i + 1) = (putC rows k r).take i ++ [rows[i].set k (r.getD i 0)] := by
  rw [List.take_succ_eq_append_getElem (by rw [putC_len]; exact hi), putC_get hi]
def outP (g : List (List Int)) (a b : Int) (own : Int -> Int) (A B : Int) (k : Nat) : List Int := (List.range g.length).map fun q : Nat => if (q : Int) = a then A * hiD g a b else if (q : Int) = b then B * hiD g a b else if (inn g.length a b).idxOf q < k then hiC g a b own A B ((inn g.length a b).idxOf q) else 0
theorem outP_len (g : List (List Int)) (a b : Int) (own : Int -> Int) (A B : Int) (k : Nat) : (outP g a b own A B k).length = g.length := by unfold outP; rw [List.length_map, List.length_range]
theorem outP_get {g : List (List Int)} {a b : Int} {own : Int -> Int} {A B : Int} {k q : Nat} (h : q < (outP g a b own A B k).length) : (outP g a b own A B k)[q] = if (q : Int) = a then A * hiD g a b else if (q : Int) = b then B * hiD g a b else if (inn g.length a b).idxOf q < k then hiC g a b own A B ((inn g.length a b).idxOf q) else 0 := by
  refine (List.getElem_map (l := List.range g.length) _ (h := h)).trans ?_
  rw [List.getElem_range]
theorem outP_zero {g : List (List Int)} {a b : Int} (own : Int -> Int) (A B : Int) (a0 : 0 ≤ a) (b0 : 0 ≤ b) (hne : a ≠ b) : outP g a b own A B 0 = ((List.replicate g.length 0).set a.toNat (A * hiD g a b)).set b.toNat (B * hiD g a b) := by
  apply List.ext_getElem (by rw [outP_len, List.length_set, List.length_set, List.length_replicate])
  intro q h1 h2
  rw [outP_get h1, List.getElem_set, List.getElem_set, List.getElem_replicate]
  by_cases ea : (q : Int) = a
  · rw [if_pos ea, if_neg (by omega), if_pos (by omega)]
  · rw [if_neg ea]
    by_cases eb : (q : Int) = b
    · rw [if_pos eb, if_pos (by omega)]
    · rw [if_neg eb, if_neg (by omega), if_neg (by omega), if_neg (by omega)]
theorem outP_step {g : List (List Int)} {a b : Int} (own : Int -> Int) (A B : Int) {k : Nat} (hk : k < (inn g.length a b).length) : outP g a b own A B (k + 1) = (outP g a b own A B k).set ((inn g.length a b)[k]) (hiC g a b own A B k) := by
  apply List.ext_getElem (by rw [outP_len, List.length_set, outP_len])
  intro q h1 h2
  have h3 : q < (outP g a b own A B k).length := by rw [List.length_set] at h2; exact h2
  have hm := mem_inn.1 (List.getElem_mem hk)
  rw [outP_get h1, List.getElem_set, outP_get h3]
  by_cases e : (inn g.length a b)[k] = q
  · rw [if_pos e, if_neg (by omega), if_neg (by omega)]
    subst e
    rw [inn_idx hk, if_pos (by omega)]
  · rw [if_neg e]
    by_cases ea : (q : Int) = a
    · rw [if_pos ea, if_pos ea]
    · rw [if_neg ea, if_neg ea]
      by_cases eb : (q : Int) = b
      · rw [if_pos eb, if_pos eb]
      · rw [if_neg eb, if_neg eb]
        have hq : q ∈ inn g.length a b := mem_inn.2 ⟨by rw [outP_len] at h3; exact h3, ea, eb⟩
        have hi := List.idxOf_lt_length_iff.2 hq
        by_cases l : (inn g.length a b).idxOf q < k
        · rw [if_pos l, if_pos (by omega)]
        · rw [if_neg l, if_neg]
          intro h
          apply e
          have : (inn g.length a b).idxOf q = k := by omega
          subst this
          exact List.getElem_idxOf hi
def outL (g : List (List Int)) (a b : Int) (own : Int -> Int) (A B : Int) : List Int := (List.range g.length).map fun q : Nat => hiX g a b own A B q
theorem outL_len (g : List (List Int)) (a b : Int) (own : Int -> Int) (A B : Int) : (outL g a b own A B).length = g.length := by unfold outL; rw [List.length_map, List.length_range]
theorem outL_get {g : List (List Int)} {a b : Int} {own : Int -> Int} {A B : Int} {q : Nat} (h : q < (outL g a b own A B).length) : (outL g a b own A B)[q] = hiX g a b own A B q := by
  refine (List.getElem_map (l := List.range g.length) _ (h := h)).trans ?_
  rw [List.getElem_range]
theorem outP_all (g : List (List Int)) (a b : Int) (own : Int -> Int) (A B : Int) : outP g a b own A B (inn g.length a b).length = outL g a b own A B := by
  apply List.ext_getElem (by rw [outP_len, outL_len])
  intro q h1 h2
  rw [outP_get h1, outL_get h2]
  unfold hiX
  by_cases ea : (q : Int) = a
  · rw [if_pos ea, if_pos ea]
  · rw [if_neg ea, if_neg ea]
    by_cases eb : (q : Int) = b
    · rw [if_pos eb, if_pos eb]
    · rw [if_neg eb, if_neg eb, if_pos]
      · rfl
      · exact List.idxOf_lt_length_iff.2 (mem_inn.2 ⟨by rw [outP_len] at h1; exact h1, ea, eb⟩)
theorem hiC_bound {g : List (List Int)} (hg : graphB g = true) {a b : Int} {own : Int -> Int} {A B : Int} (hn : (inn g.length a b).length ≤ 7) (hr : ∀ i, i < (inn g.length a b).length -> (hiR g a b own A B i).natAbs ≤ 10) (k : Nat) : (hiC g a b own A B k).natAbs ≤ 50400000000 := by
  rw [← hiC_eq, ← putC_det (hiM_sq g a b).2]
  refine Nat.le_trans (det_bound (putC_small (hiM_sq g a b).2 (hiM_small hg a b) fun i hi => by rw [hiRL_get g a b own A B hi]; exact hr i hi)) ?_
  exact Nat.le_trans (dbN_le hn) (by rw [dbN7]; exact Nat.le_refl _)
theorem inn_take {n : Nat} {a b : Int} {i : Nat} (hi : (i : Nat) < n) : inn (i + 1) a b = if innB a b i then inn i a b ++ [i] else inn i a b := by
  unfold inn
  rw [List.range_succ, List.filter_append]
  cases h : innB a b i with
  | true => rw [if_pos rfl, List.filter_cons_of_pos h, List.filter_nil]
  | false => rw [if_neg (by decide), List.filter_cons_of_neg (by rw [h]; decide), List.filter_nil, List.append_nil]
theorem psI_get {ps : List Nat} {i : Nat} (h : i < (ps.map fun p : Nat => (p : Int)).length) : (ps.map fun p : Nat => (p : Int))[i] = ((ps[i]'(by rw [List.length_map] at h; exact h) : Nat) : Int) := List.getElem_map _
theorem occ_snoc (x y : Int) (l : List Int) : occ x (l ++ [y]) = occ x l + (if y = x then 1 else 0) := by rw [occ_append]; simp only [occ]; omega
theorem sv_occ {l : List Int} {a : Int} (h : l.length ≤ 5) (j : Nat) : 0 ≤ occ a (l.take j) /\ occ a (l.take j) ≤ 5 := by
  have := occ_bound a (l.take j)
  rw [List.length_take] at this
  omega
theorem sv_sum {A o : Int} (hA : A = 0 ∨ A = 1) (h0 : 0 ≤ o) (h5 : o ≤ 5) : 0 ≤ A * o /\ A * o ≤ 5 := by
  rcases hA with rfl | rfl <;> omega
set_option maxHeartbeats 4000000 in
theorem sv_fin {h h8 : Heap} {g mat rt inner : Sl} {xss : List (List Int)} {a b : Int} (C : Can xss a b) {own : Int -> Int} {A B : Int} (hA : A = 0 ∨ A = 1) (hB : B = 0 ∨ B = 1) (hr : ∀ i, i < (inn xss.length a b).length -> (hiR xss a b own A B i).natAbs ≤ 10) (gn : g.n = xss.length) {b1 : Nat} (g8 : Fr No h h8) (hL8 : Vars h8 [(b1, [g.v])])
    (M8 : RdR (fun k => k < h8.size) h8 mat (hiM xss a b)) (R8 : RdI (fun k => k < h8.size) h8 rt (hiRL xss a b own A B)) (I8 : RdI (fun k => k < h8.size) h8 inner ((inn xss.length a b).map fun p : Nat => (p : Int))) (K : Value -> Heap -> Prop) (HK : ∀ t h', OwI h' (Iv h.size h'.size) t (outL xss a b own A B) -> Fr No h h' -> K (.tuple #[t.v, VI (hiD xss a b)]) h') :
  callM Try.prog 88 #[(Sl.v mat)] h8 fun rv_15 h_22 => ∃ t120_1 : Int, rv_15 = (VI t120_1) /\ Vars h_22 [(b1, [(Sl.v g)])] ∧
  eop Try.prog (Instr.makeSlice tIs (VI (g.n : Int)) (VI (g.n : Int))) h_22 fun rv_16 h_23 => ∃ t124_1 : Sl, rv_16 = (Sl.v t124_1) /\ Vars h_23 [(b1, [(Sl.v g)])] ∧
  InB t124_1 a ∧
  Writable h_23 (Sl.at t124_1 a 1) /\ Vars (hset h_23 (Sl.at t124_1 a 1) (VI (w64 (A * t120_1)))) [(b1, [(Sl.v g)])] ∧
  ∀ h_24 : Heap, h_24 = hset h_23 (Sl.at t124_1 a 1) (VI (w64 (A * t120_1))) -> Vars h_24 [(b1, [(Sl.v g)])] →
  InB t124_1 b ∧
  Writable h_24 (Sl.at t124_1 b 1) /\ Vars (hset h_24 (Sl.at t124_1 b 1) (VI (w64 (B * t120_1)))) [(b1, [(Sl.v g)])] ∧
  ∀ h_25 : Heap, h_25 = hset h_24 (Sl.at t124_1 b 1) (VI (w64 (B * t120_1))) -> Vars h_25 [(b1, [(Sl.v g)])] →
  ∃ J_5 : Nat -> Int -> Heap -> Prop, (∃ n0 : Nat, J_5 n0 0 h_25) ∧
  ∀ (n_5 : Nat) (t139_1 : Int) (h_26 : Heap), J_5 n_5 t139_1 h_26 -> Vars h_26 [(b1, [(Sl.v g)])] →
  ((decide (t139_1 < (inner.n : Int))) = true →
  InB inner t139_1 ∧
  ∃ t143_1 : Int, hcell h_26 (Sl.at inner t139_1 1) = some (VI t143_1) ∧
  eop Try.prog (Instr.buildSlice tIss 0 #[]) h_26 fun rv_17 h_27 => ∃ t144_1 : Sl, rv_17 = (Sl.v t144_1) /\ Vars h_27 [(b1, [(Sl.v g)])] ∧
  ∃ J_6 : Nat -> Sl -> Int -> Heap -> Prop, (∃ n0 : Nat, J_6 n0 t144_1 0 h_27) ∧
  ∀ (n_6 : Nat) (other28_1 : Sl) (t147_1 : Int) (h_28 : Heap), J_6 n_6 other28_1 t147_1 h_28 -> Vars h_28 [(b1, [(Sl.v g)])] →
  ((decide (t147_1 < (mat.n : Int))) = true →
  InB mat t147_1 ∧
  ∃ t151_1 : Sl, hcell h_28 (Sl.at mat t147_1 1) = some (Sl.v t151_1) ∧
  callM Try.prog 117 #[(Sl.v t151_1)] h_28 fun rv_18 h_29 => ∃ t153_1 : Sl, rv_18 = (Sl.v t153_1) /\ Vars h_29 [(b1, [(Sl.v g)])] ∧
  InB rt t147_1 ∧
  ∃ t159_1 : Int, hcell h_29 (Sl.at rt t147_1 1) = some (VI t159_1) ∧
  InB t153_1 t139_1 ∧
  Writable h_29 (Sl.at t153_1 t139_1 1) /\ Vars (hset h_29 (Sl.at t153_1 t139_1 1) (VI t159_1)) [(b1, [(Sl.v g)])] ∧
  ∀ h_30 : Heap, h_30 = hset h_29 (Sl.at t153_1 t139_1 1) (VI t159_1) -> Vars h_30 [(b1, [(Sl.v g)])] →
  eop Try.prog (Instr.buildSlice tIss 1 #[(0, (Sl.v t153_1))]) h_30 fun rv_19 h_31 => ∃ t163_1 : Sl, rv_19 = (Sl.v t163_1) /\ Vars h_31 [(b1, [(Sl.v g)])] ∧
  eop Try.prog (appS tIss tIss tIss (Sl.v other28_1) (Sl.v t163_1)) h_31 fun rv_20 h_32 => ∃ t164_1 : Sl, rv_20 = (Sl.v t164_1) /\ Vars h_32 [(b1, [(Sl.v g)])] ∧
  ∃ m : Nat, m < n_6 /\ J_6 m t164_1 (w64 (t147_1 + 1)) h_32) ∧
  ((decide (t147_1 < (mat.n : Int))) = false →
  callM Try.prog 88 #[(Sl.v other28_1)] h_28 fun rv_21 h_33 => ∃ t169_1 : Int, rv_21 = (VI t169_1) /\ Vars h_33 [(b1, [(Sl.v g)])] ∧
  InB t124_1 t143_1 ∧
  Writable h_33 (Sl.at t124_1 t143_1 1) /\ Vars (hset h_33 (Sl.at t124_1 t143_1 1) (VI t169_1)) [(b1, [(Sl.v g)])] ∧
  ∀ h_34 : Heap, h_34 = hset h_33 (Sl.at t124_1 t143_1 1) (VI t169_1) -> Vars h_34 [(b1, [(Sl.v g)])] →
  ∃ m : Nat, m < n_5 /\ J_5 m (w64 (t139_1 + 1)) h_34)) ∧
  ((decide (t139_1 < (inner.n : Int))) = false →
  K (Value.tuple #[(Sl.v t124_1), (VI t120_1)]) h_26) := by
  have hg := C.graph
  have gl := graph_len hg
  have il := inn_len C.a0 C.a1 C.b0 C.b1 C.ne
  have l1 : b1 < h8.size := hL8.head.lt
  have offL : ∀ {F : Nat -> Prop}, (∀ k, F k -> h8.size ≤ k) -> ∀ p, p ∈ [(b1, [g.v])] -> ¬ F p.1 := fun hF p hp hk => by
    simp only [List.mem_cons, List.not_mem_nil, or_false] at hp
    subst hp
    have := hF _ hk
    (try simp only at this)
    omega
  have hpn : ∀ q, q ∈ inn xss.length a b -> q < xss.length := fun q hq => (mem_inn.1 hq).1
  have hQ := (hiM_sq xss a b).2
  have hS := hiM_small hg a b
  have hDe := hiM_det xss a b
  have hCe := hiC_eq xss a b own A B
  have hz0 := outP_zero (g := xss) own A B C.a0 C.b0 C.ne
  have hst := fun k hk => outP_step (g := xss) (a := a) (b := b) own A B (k := k) hk
  have hall := outP_all xss a b own A B
  have hRb : ∀ i, i < (inn xss.length a b).length -> ((hiRL xss a b own A B).getD i 0).natAbs ≤ 10 := fun i hi => by rw [hiRL_get xss a b own A B hi]; exact hr i hi
  have dn := C.den
  have ml := (hiM_sq xss a b).1
  have rl := hiRL_len xss a b own A B
  generalize inn xss.length a b = ps at *
  have psl : (ps.map fun p : Nat => (p : Int)).length = ps.length := List.length_map _
  have hQ' : Sq (hiM xss a b).length (hiM xss a b) := by rw [ml]; exact hQ
  have hS' : Small (hiM xss a b).length (matL (hiM xss a b)) := by rw [ml]; exact hS
  refine k_determinant M8 hQ' (by omega) hS' _ fun h22 f22 => ⟨_, rfl, hL8.of_no f22, ?_⟩
  rw [ml, hDe]
  have z22 := f22.size
  refine eop_make rIs (fun k => h22.size ≤ k) (fun _ h => h) .i64 .i64 g.n g.n (Nat.le_refl _) (by omega) fun t h23 n23 c23 o23 f23 m23 _ => ⟨t, rfl, (hL8.of_no f22).of_no f23, ?_⟩
  have z23 := f23.size
  have hL23 := (hL8.of_no f22).of_no f23
  have o23 : OwI h23 (Iv h22.size h23.size) t (List.replicate xss.length 0) := by
    have e : (List.replicate g.n [VI 0]).flatten = (List.replicate xss.length (0 : Int)).map VI := by rw [gn]; simp [List.flatten_replicate_singleton]
    rw [e] at o23; exact Ow.toIv o23
  have offT : ∀ p, p ∈ [(b1, [g.v])] -> ¬ Iv h22.size h23.size p.1 := offL fun k hk => by have := hk.1; omega
  refine int_set o23 C.a0 (by rw [List.length_replicate]; exact C.a1) hL23 offT _ fun h24 o24 f24 V24 => ?_
  refine int_set o24 C.b0 (by rw [List.length_set, List.length_replicate]; exact C.b1) V24 offT _ fun h25 o25 f25 V25 => ?_
  have wd : ∀ X : Int, X = 0 ∨ X = 1 -> w64 (X * hiD xss a b) = X * hiD xss a b := fun X hX => w64_eq _ (by rcases hX with rfl | rfl <;> omega) (by rcases hX with rfl | rfl <;> omega)
  rw [wd A hA, wd B hB, ← hz0] at o25
  have f2325 := f24.trans f25
  have M23 : RdR (fun k => k < h22.size) h23 mat (hiM xss a b) := ((M8.no f22).no f23).mono fun k hk => by omega
  have R23 : RdI (fun k => k < h22.size) h23 rt (hiRL xss a b own A B) := ((R8.no f22).no f23).mono fun k hk => by omega
  have I23 : RdI (fun k => k < h22.size) h23 inner (ps.map fun p : Nat => (p : Int)) := ((I8.no f22).no f23).mono fun k hk => by omega
  refine ⟨fun m k h' => 0 ≤ k /\ k + m = (ps.length : Int) /\ OwI h' (Iv h22.size h23.size) t (outP xss a b own A B k.toNat) /\ Fr (fun q => h22.size ≤ q) h23 h', ⟨ps.length, Int.le_refl _, by omega, o25, f2325.mono fun q _ hq => hq.1⟩, ?_⟩
  rintro m3 k h26 ⟨k0, k1, o26, f26⟩ hL26
  have z26 := f26.size
  have g26 : Fr No h h26 := (((g8.no_trans f22).no_trans f23)).fresh f26 fun q hq => by have := g8.size; omega
  have lowN : ∀ {T : Nat -> Prop} {x y : Heap}, Fr T x y -> (∀ q, T q -> h22.size ≤ q) -> ∀ q, q < h22.size -> ¬ T q := fun _ hT q hq hk => by have := hT q hk; omega
  have M26 := M23.fr f26 (lowN f26 fun q hq => hq)
  have R26 := R23.fr f26 (lowN f26 fun q hq => hq)
  have I26 := I23.fr f26 (lowN f26 fun q hq => hq)
  refine ⟨fun e3 => ?_, fun e3 => ?_⟩
  · have hk := I26.lt e3
    have hk' : k.toNat < ps.length := by omega
    have cI := I26.get k0 hk
    rw [psI_get] at cI
    have hpm := List.getElem_mem hk'
    have hq1 := hpn _ hpm
    have hstk := hst k.toNat hk'
    refine ⟨I26.inb k0 hk, _, cI, ?_⟩
    refine eop_lit rIss (fun q => h26.size ≤ q) (fun _ h => h) 0 (by omega) [] rfl rfl fun ot h27 n27 c27 o27 f27 m27 _ => ⟨ot, rfl, hL26.of_no f27, ?_⟩
    have o27' : OwX h27 (fun q => h26.size ≤ q) ot [] := ⟨[], rfl, o27, fun i h1 => by simp at h1, fun i j h1 => by simp at h1, fun i h1 => by simp at h1⟩
    refine ⟨fun m x i h' => 0 ≤ i /\ i + m = (ps.length : Int) /\ OwX h' (fun q => h26.size ≤ q) x ((putC (hiM xss a b) k.toNat (hiRL xss a b own A B)).take i.toNat) /\ Fr (fun q => h26.size ≤ q) h26 h', ⟨ps.length, Int.le_refl _, by omega, o27', f27.of_no⟩, ?_⟩
    rintro m4 x i h28 ⟨i0, i1, o28, f28⟩ hL28
    have z28 := f28.size
    have M28 := M26.fr f28 (lowN f28 fun q hq => by omega)
    have R28 := R26.fr f28 (lowN f28 fun q hq => by omega)
    refine ⟨fun e4 => ?_, fun e4 => ?_⟩
    · have hi := M28.lt e4
      obtain ⟨si, ci, ri⟩ := M28.get i0 hi
      have rowl := hQ'.row i.toNat (by omega)
      refine ⟨M28.inb i0 hi, si, ci, k_Clone ri (by omega) _ fun t2 h29 o29 f29 => ⟨t2, rfl, hL28.of_no f29, ?_⟩⟩
      have R29 := R28.no f29
      have z29 := f29.size
      refine ⟨R29.inb i0 (by omega), _, R29.get i0 (by omega), int_set (o29.mono (F' := fun q => h28.size ≤ q) fun q _ hq => hq.1) k0 (by omega) (hL28.of_no f29) (offL fun q hq => by omega) _ fun h30 o30 f30 V30 => ?_⟩
      have z30 := f30.size
      refine eop_putR (lo := h26.size) (m := h28.size) (OwR.fr (OwR.toIv o28) (f29.of_no.trans f30) fun q _ hq hq2 => by have := hq.2; omega) o30 z28 (by omega) V30 (fun p hp => by simp only [List.mem_cons, List.not_mem_nil, or_false] at hp; subst hp; show b1 < h26.size; omega) (by rw [List.length_take]; omega) _ fun t3 h32 o32 f32 V32 => ?_
      rw [M28.succ i0 hi]
      refine ⟨m4 - 1, by omega, by omega, by omega, ?_, ((f28.trans f29.of_no).trans (f30.mono fun q _ hq => by omega)).trans f32⟩
      rw [show (i + 1).toNat = i.toNat + 1 by omega, putC_snoc (by omega), getD_getI (by omega)]
      exact o32
    · have hi := M28.ge e4
      have pl := putC_len (hiM xss a b) k.toNat (hiRL xss a b own A B)
      rw [List.take_of_length_le (by omega)] at o28
      have Qp := putC_sq hQ k.toNat (hiRL xss a b own A B)
      have Sp := putC_small hQ hS (k := k.toNat) hRb
      have dp := putC_det hQ k.toNat (hiRL xss a b own A B)
      rw [hCe] at dp
      refine k_determinant (OwR.rd o28) (by rw [pl, ml]; exact Qp) (by omega) (by rw [pl, ml]; exact Sp) _ fun h33 f33 => ⟨_, rfl, hL28.of_no f33, ?_⟩
      rw [pl, ml, dp]
      have f2633 := f28.trans f33.of_no
      have o33 : OwI h33 (Iv h22.size h23.size) t (outP xss a b own A B k.toNat) := o26.fr f2633 fun q hq hq2 => by have := (o26.foot hq).1.2; omega
      refine int_set o33 (i := ((ps[k.toNat]'hk' : Nat) : Int)) (by omega) (by rw [outP_len]; omega) (hL28.of_no f33) offT _ fun h34 o34 f34 V34 => ?_
      rw [I26.succ k0 hk]
      refine ⟨m3 - 1, by omega, by omega, by omega, ?_, (f26.trans (f2633.mono fun q _ hq => by omega)).trans (f34.mono fun q _ hq => hq.1)⟩
      rw [show (k + 1).toNat = k.toNat + 1 by omega, hstk]
      simp only [Int.toNat_natCast] at o34
      exact o34
  · have hk := I26.ge e3
    rw [show k.toNat = ps.length by omega, hall] at o26
    exact HK t h26 (o26.mono fun q _ hq => ⟨by have := hq.1; have := g8.size; omega, by have := hq.2; omega⟩) g26
set_option maxHeartbeats 4000000 in
theorem k_solved {S : Nat -> Prop} {h : Heap} {g : Sl} {xss : List (List Int)} (G : RdR S h g xss) {a b : Int} (C : Can xss a b) (ow : Value) (own : Int -> Int) {A B : Int} (hA : A = 0 ∨ A = 1) (hB : B = 0 ∨ B = 1) (hw : ∀ p : Nat, 0 ≤ own p /\ own p ≤ 5) (hr : ∀ i, i < (inn xss.length a b).length -> (hiR xss a b own A B i).natAbs ≤ 10)
    (hO : ∀ (p : Nat) (h' : Heap) (K' : Value -> Heap -> Prop), p < xss.length -> Fr No h h' -> K' (VI (own p)) h' -> callV Try.prog ow [VI p] h' K') (K : Value -> Heap -> Prop) (HK : ∀ t h', OwI h' (Iv h.size h'.size) t (outL xss a b own A B) -> Fr No h h' -> K (.tuple #[t.v, VI (hiD xss a b)]) h') : callM Try.prog 66 #[.agg #[g.v], VI a, VI b, ow, VI A, VI B] h K := by
  have hg := C.graph
  have gl := graph_len hg
  have hne := C.ne
  have il := inn_len C.a0 C.a1 C.b0 C.b1 C.ne
  refine v66 g a b ow A B h K fun b1 h1 hb1 f1 hL1 => ?_
  have f1 := f1.in_nil
  have z1 := f1.size
  have l1 : b1 < h1.size := hL1.head.lt
  have offL : ∀ {F : Nat -> Prop}, (∀ k, F k -> h1.size ≤ k) -> ∀ p, p ∈ [(b1, [g.v])] -> ¬ F p.1 := fun hF p hp hk => by
    simp only [List.mem_cons, List.not_mem_nil, or_false] at hp
    subst hp
    have := hF _ hk
    (try simp only at this)
    omega
  refine eop_lit rIs (fun k => h1.size ≤ k) (fun _ h => h) 0 (by omega) [] rfl rfl fun u h2 n2 c2 o2 f2 m2 _ => ⟨u, rfl, hL1.of_no f2, ?_⟩
  refine ⟨fun m x p h' => 0 ≤ p /\ p + m = (xss.length : Int) /\ OwI h' (fun k => h1.size ≤ k) x ((inn p.toNat a b).map fun p : Nat => (p : Int)) /\ Fr (fun k => h1.size ≤ k) h1 h', ⟨xss.length, Int.le_refl _, by omega, o2, f2.of_no⟩, ?_⟩
  rintro m inner p h3 ⟨p0, p1, o3, f3⟩ hL3
  have g3 := f1.fresh f3 fun k hk => by omega
  have gn := G.len
  refine ⟨fun e => ?_, fun e => ?_⟩
  · have hp := G.lt e
    have eit := inn_take (a := a) (b := b) (show p.toNat < p.toNat + 1 by omega)
    rw [G.succ p0 hp]
    have next : innB a b p.toNat = false -> ∃ m' : Nat, m' < m /\ 0 ≤ p + 1 /\ p + 1 + m' = (xss.length : Int) /\ OwI h3 (fun k => h1.size ≤ k) inner ((inn (p + 1).toNat a b).map fun p : Nat => (p : Int)) /\ Fr (fun k => h1.size ≤ k) h1 h3 := fun hi => by
      rw [show (p + 1).toNat = p.toNat + 1 by omega, eit, hi]
      exact ⟨m - 1, by omega, by omega, by omega, o3, f3⟩
    refine ⟨fun e2 => ⟨fun e3 => ?_, fun e3 => next ?_⟩, fun e2 => next ?_⟩
    · have e2 := not_t e2
      have e3 := not_t e3
      simp only [decide_eq_false_iff_not] at e2 e3
      have hi : innB a b p.toNat = true := innB_t.2 ⟨by omega, by omega⟩
      refine eop_put (lo := h1.size) o3 f3.size hL3 (fun p hp => by simp only [List.mem_cons, List.not_mem_nil, or_false] at hp; subst hp; exact l1) (by rw [List.length_map]; unfold inn; have := List.length_filter_le (innB a b) (List.range p.toNat); rw [List.length_range] at this; omega) _ fun t h4 o4 f4 V4 => ?_
      refine ⟨m - 1, by omega, by omega, by omega, ?_, f3.trans f4⟩
      rw [show (p + 1).toNat = p.toNat + 1 by omega, eit, hi, if_pos rfl, List.map_append, List.map_cons, List.map_nil, Int.toNat_of_nonneg p0]
      exact o4
    · have e3 := not_f e3
      simp only [decide_eq_true_eq] at e3
      exact Bool.eq_false_iff.2 fun h => (innB_t.1 h).2 (by omega)
    · have e2 := not_f e2
      simp only [decide_eq_true_eq] at e2
      exact Bool.eq_false_iff.2 fun h => (innB_t.1 h).1 (by omega)
  have hp := G.ge e
  rw [show p.toNat = xss.length by omega] at o3
  have rI : RdI (fun k => k < h3.size) h3 inner ((inn xss.length a b).map fun p : Nat => (p : Int)) := RdI.low o3.rdF
  have hps : ∀ q, q ∈ inn xss.length a b -> (q : Int) ≠ a /\ (q : Int) ≠ b := fun q hq => (mem_inn.1 hq).2
  have hpn : ∀ q, q ∈ inn xss.length a b -> q < xss.length := fun q hq => (mem_inn.1 hq).1
  have hMg : ∀ (i : Nat) (h : i < (inn xss.length a b).length), (hiM xss a b).getD i [] = hiRow (inn xss.length a b) (inn xss.length a b)[i] (xss.getD (inn xss.length a b)[i] []) (xss.getD (inn xss.length a b)[i] []).length := fun i h => (getD_get (by rw [(hiM_sq xss a b).1]; exact h)).trans (List.getElem_map _)
  have hRg : ∀ (i : Nat) (h : i < (inn xss.length a b).length), (hiRL xss a b own A B).getD i 0 = hiRt xss a b own A B (inn xss.length a b)[i] := fun i h => (getD_getI (by rw [hiRL_len]; exact h)).trans (List.getElem_map _)
  have dn := C.den
  have ml := (hiM_sq xss a b).1
  have rl := hiRL_len xss a b own A B
  have hr' : ∀ i, i < (inn xss.length a b).length -> (hiR xss a b own A B i).natAbs ≤ 10 := hr
  clear hr
  generalize hps' : inn xss.length a b = ps at hps hpn hMg hRg il ml rl o3 rI
  have nd : ps.Nodup := by rw [← hps']; exact inn_nd _ _ _
  have z3 := f3.size
  refine eop_lit rIss (fun k => h3.size ≤ k) (fun _ h => h) 0 (by omega) [] rfl rfl fun m0 h6 n6 c6 o6 f6 m6 _ => ⟨m0, rfl, hL3.of_no f6, ?_⟩
  refine eop_lit rIs (fun k => h6.size ≤ k) (fun _ h => h) 0 (by omega) [] rfl rfl fun r0 h7 n7 c7 o7 f7 m7 _ => ⟨r0, rfl, (hL3.of_no f6).of_no f7, ?_⟩
  have z6 := f6.size
  have z7 := f7.size
  refine ⟨fun m mat rt i h' => 0 ≤ i /\ i + m = (ps.length : Int) /\ OwX h' (fun k => h3.size ≤ k /\ ¬ rt.own k) mat ((hiM xss a b).take i.toNat) /\ OwI h' (fun k => h3.size ≤ k) rt ((hiRL xss a b own A B).take i.toNat) /\ Fr (fun k => h3.size ≤ k) h3 h', ⟨ps.length, Int.le_refl _, by omega, ⟨[], rfl, (o6.no f7).mono fun k hk hF => ⟨hF, fun hr => ?_⟩, fun i h1 => by simp at h1, fun i j h1 => by simp at h1, fun i h1 => by simp at h1⟩, o7.mono fun k _ hk => by omega, f6.of_no.trans f7.of_no⟩, ?_⟩
  · have h1 := (o6.foot hk).2
    have h2 := (o7.foot hr).1
    (try simp only at h2)
    omega
  rintro m mat rt i h8 ⟨i0, i1, om, or', f8⟩ hL8
  have g8 := (g3.fresh f8 fun k hk => by have := g3.size; omega)
  have z8 := f8.size
  have rI8 := rI.fr f8 fun k hk hk2 => by omega
  have psl : (ps.map fun p : Nat => (p : Int)).length = ps.length := List.length_map _
  refine ⟨fun e2 => ?_, fun e2 => ?_⟩
  · have hi := rI8.lt e2
    have hi' : i.toNat < ps.length := by omega
    have cI := rI8.get i0 hi
    rw [psI_get] at cI
    have hpm := List.getElem_mem hi'
    have hq1 := hpn _ hpm
    have hq2 := hps _ hpm
    generalize hP : ps[i.toNat]'hi' = P at cI hpm hq1 hq2
    have mi : mat.n = i.toNat := by have := om.len; rw [List.length_take] at this; omega
    refine ⟨rI8.inb i0 hi, _, cI, ?_⟩
    have inn_n : inner.n = ps.length := by have := rI.len; rw [psl] at this; exact this
    have gm := graph_mem hg (List.getElem_mem hq1)
    have eg : xss.getD P [] = xss[P] := getD_get hq1
    refine ⟨fun x s h' => OwI h' (fun k => h8.size ≤ k) x (List.replicate ps.length 0) /\ s = own P /\ Fr No h8 h', ⟨?_, ?_⟩, ?_⟩
    · refine eop_make rIs (fun k => h8.size ≤ k) (fun _ h => h) .i64 .i64 inner.n inner.n (Nat.le_refl _) (by omega) fun t h9 n9 c9 o9 f9 m9 _ => ⟨t, rfl, hL8.of_no f9, ?_⟩
      refine hO P h9 _ hq1 (g8.no_trans f9) ⟨_, rfl, hL8.of_no f9, ?_, rfl, f9⟩
      have e : (List.replicate inner.n [VI 0]).flatten = (List.replicate ps.length (0 : Int)).map VI := by rw [inn_n]; simp [List.flatten_replicate_singleton]
      rw [e] at o9; exact o9
    · refine hO P h8 _ hq1 g8 ⟨_, rfl, hL8, ?_⟩
      refine eop_make rIs (fun k => h8.size ≤ k) (fun _ h => h) .i64 .i64 inner.n inner.n (Nat.le_refl _) (by omega) fun t h9 n9 c9 o9 f9 m9 _ => ⟨t, rfl, hL8.of_no f9, ?_, rfl, f9⟩
      have e : (List.replicate inner.n [VI 0]).flatten = (List.replicate ps.length (0 : Int)).map VI := by rw [inn_n]; simp [List.flatten_replicate_singleton]
      rw [e] at o9; exact o9
    rintro x s h13 ⟨o13, rfl, f13⟩ hL13
    have G8 := G.no g8
    obtain ⟨sp, cp8, rp8⟩ := G8.get (i := (P : Int)) (by omega) (by omega)
    simp only [Int.toNat_natCast] at rp8
    have ln := rp8.len
    have cpk : ∀ {h' : Heap}, Fr (fun k => h8.size ≤ k) h8 h' -> hcell h' (g.at (P : Int) 1) = some sp.v := fun f => hcell_fr cp8 f (by have := hcell_lt cp8; omega)
    have inb := G8.inb (i := (P : Int)) (by omega) (by omega)
    refine ⟨inb, sp, cpk f13.of_no, ?_⟩
    rw [← hiRow_zero ps P] at o13
    refine ⟨fun m2 s j h' => 0 ≤ j /\ j + m2 = (xss[P].length : Int) /\ s = own P + A * occ a (xss[P].take j.toNat) + B * occ b (xss[P].take j.toNat) /\ OwI h' (fun k => h8.size ≤ k) x (hiRow ps P (xss[P].take j.toNat) 0) /\ Fr (fun k => h8.size ≤ k) h8 h', ⟨xss[P].length, Int.le_refl _, by omega, by simp [occ], by simpa using o13, f13.of_no⟩, ?_⟩
    rintro m2 s j h14 ⟨j0, j1, rfl, o14, f14⟩ hL14
    have rp14 := rp8.low.fr f14 fun k hk hk2 => by omega
    have wP := hw P
    have oa := sv_sum hA (sv_occ gm.1 j.toNat).1 (sv_occ (a := a) gm.1 j.toNat).2
    have ob := sv_sum hB (sv_occ gm.1 j.toNat).1 (sv_occ (a := b) gm.1 j.toNat).2
    have hxl := hiRow_len ps P (xss[P].take j.toNat) 0
    refine ⟨fun e3 => ?_, fun e3 => ?_⟩
    · have hj := rp14.lt e3
      have hv := gm.2 _ (List.getElem_mem (show j.toNat < xss[P].length by omega))
      have hc := rp14.get j0 hj
      have tk : xss[P].take (j + 1).toNat = _ := take_snoc _ j0 hj
      generalize xss[P][j.toNat]'(by omega) = v at hv hc tk
      rw [rp14.succ j0 hj]
      have nxt : ∀ (s' : Int) (h' : Heap), s' = own P + A * occ a (xss[P].take (j + 1).toNat) + B * occ b (xss[P].take (j + 1).toNat) -> OwI h' (fun k => h8.size ≤ k) x (hiRow ps P (xss[P].take (j + 1).toNat) 0) -> Fr (fun k => h8.size ≤ k) h8 h' -> ∃ m' : Nat, m' < m2 /\ 0 ≤ j + 1 /\ j + 1 + m' = (xss[P].length : Int) /\ s' = own P + A * occ a (xss[P].take (j + 1).toNat) + B * occ b (xss[P].take (j + 1).toNat) /\ OwI h' (fun k => h8.size ≤ k) x (hiRow ps P (xss[P].take (j + 1).toNat) 0) /\ Fr (fun k => h8.size ≤ k) h8 h' := fun s' h' a1 a2 a3 => ⟨m2 - 1, by omega, by omega, by omega, a1, a2, a3⟩
      refine ⟨rp14.inb j0 hj, _, hc, fun e4 => ?_, fun e4 => ⟨fun e5 => ?_, fun e5 => ?_⟩⟩
      · simp only [decide_eq_true_eq] at e4
        refine nxt _ _ ?_ ?_ f14
        · rw [tk, occ_snoc, occ_snoc, if_pos e4, if_neg (by omega), w64_eq _ (by omega) (by omega), Int.mul_add, Int.mul_one, Int.add_zero]
          omega
        · rw [tk, hiRow_skip fun q hq => by rw [e4]; exact (hps q hq).1]
          exact o14
      · simp only [decide_eq_true_eq, decide_eq_false_iff_not] at e4 e5
        refine nxt _ _ ?_ ?_ f14
        · rw [tk, occ_snoc, occ_snoc, if_neg e4, if_pos e5, w64_eq _ (by omega) (by omega), Int.mul_add B, Int.mul_one, Int.add_zero]
          omega
        · rw [tk, hiRow_skip fun q hq => by rw [e5]; exact (hps q hq).2]
          exact o14
      · simp only [decide_eq_false_iff_not] at e4 e5
        have rI14 := rI8.fr f14 fun k hk hk2 => by omega
        refine k_IndexI rI14 v _ (fun hn => absurd ?_ hn) fun q hq ev _ => ⟨_, rfl, hL14, ?_⟩
        · rw [List.mem_map]
          exact ⟨v.toNat, by rw [← hps']; exact mem_inn.2 ⟨by omega, by omega, by omega⟩, by omega⟩
        rw [psl] at hq
        rw [getD_getI (by rw [psl]; exact hq), psI_get] at ev
        have R14 := o14.rdF
        have hql : q < (hiRow ps P (xss[P].take j.toNat) 0).length := by rw [hxl]; exact hq
        refine ⟨RdI.inb R14 (by omega) (by omega), _, RdI.get R14 (i := (q : Int)) (by omega) (by omega), int_set (F := fun k => h8.size ≤ k) o14 (i := (q : Int)) (by omega) (by omega) hL14 (offL fun k hk => by omega) _ fun h16 o16 f16 V16 => ?_⟩
        refine nxt _ _ ?_ ?_ (f14.trans f16)
        · rw [tk, occ_snoc, occ_snoc, if_neg e4, if_neg e5, Int.add_zero, Int.add_zero]
        · rw [tk, hiRow_less nd hq ev, getD_getI hql]
          simp only [Int.toNat_natCast] at o16
          have hb : w64 ((hiRow ps P (xss[P].take j.toNat) 0)[q] - 1) = (hiRow ps P (xss[P].take j.toNat) 0)[q] - 1 := by
            rw [hiRow_get]
            have := sv_occ (a := ((ps[q] : Nat) : Int)) gm.1 j.toNat
            exact w64_eq _ (by split <;> omega) (by split <;> omega)
          rw [hb] at o16
          exact o16
    · have hj := rp14.ge e3
      rw [List.take_of_length_le (by omega)] at o14 oa ob hxl
      have R14 := o14.rdF
      have hil : i.toNat < (hiRow ps P xss[P] 0).length := by rw [hxl]; exact hi'
      have mI : (mat.n : Int) = i := by omega
      rw [mI, List.take_of_length_le (by omega)]
      refine ⟨RdI.inb R14 i0 (by omega), _, RdI.get R14 i0 (by omega), inb, sp, cpk f14, int_set (F := fun k => h8.size ≤ k) o14 i0 (by omega) hL14 (offL fun k hk => by omega) _ fun h17 o17 f17 V17 => ?_⟩
      have hrow : (hiRow ps P xss[P] 0).set i.toNat (w64 ((hiRow ps P xss[P] 0)[i.toNat]'hil + (sp.n : Int))) = hiRow ps P (xss.getD P []) (xss.getD P []).length := by
        have h1 := hiRow_own (l := xss[P]) (L := (xss[P].length : Int)) nd hi'
        rw [hP] at h1
        rw [eg, h1, getD_getI hil]
        congr 1
        rw [hiRow_get]
        have := sv_occ (a := ((ps[i.toNat] : Nat) : Int)) gm.1 xss[P].length
        rw [List.take_length] at this
        have := gm.1
        exact (w64_eq _ (by split <;> omega) (by split <;> omega)).trans (by omega)
      rw [hrow] at o17
      have f817 := f14.trans f17
      have z17 := f817.size
      have om17 := OwR.fr om f817 fun k hk _ hk2 => by omega
      have hiM_tk : (hiM xss a b).take (i + 1).toNat = (hiM xss a b).take i.toNat ++ [hiRow ps P (xss.getD P []) (xss.getD P []).length] := by
        rw [show (i + 1).toNat = i.toNat + 1 by omega, List.take_succ_eq_append_getElem (by omega)]
        rw [← getD_get (by omega), hMg i.toNat hi', hP]
      have hiR_tk : (hiRL xss a b own A B).take (i + 1).toNat = (hiRL xss a b own A B).take i.toNat ++ [own P + A * occ a xss[P] + B * occ b xss[P]] := by
        rw [show (i + 1).toNat = i.toNat + 1 by omega, List.take_succ_eq_append_getElem (by omega), ← getD_getI (by omega), hRg i.toNat hi', hP]
        unfold hiRt
        rw [eg]
      have rtl : ∀ {k}, rt.own k -> k < h8.size := fun hk => (or'.foot hk).2
      refine eop_putF (F := fun k => h3.size ≤ k /\ ¬ rt.own k) (m := h8.size) (OwR.fr (om.mono fun k hk hF => (⟨hF, hk⟩ : (h3.size ≤ k /\ ¬ rt.own k) /\ k < h8.size)) f817 fun k _ hk hk2 => by have := hk.2; omega) o17 (fun k hk => ⟨by omega, fun hk2 => by have := rtl hk2; omega⟩) z17 V17 (offL (F := fun k => h3.size ≤ k /\ ¬ rt.own k) fun k hk => by have := hk.1; omega) (by rw [List.length_take]; omega) _ fun t h19 o19 f19 V19 => ?_
      have z19 := f19.size
      have or17 := or'.fr f817 fun k hk hk2 => by have := rtl hk; omega
      have or19 := or17.fr f19 fun k hk hk2 => hk2.2 hk
      refine eop_lit rIs (fun k => h19.size ≤ k) (fun _ h => h) 1 (by omega) [VI (own P + A * occ a xss[P] + B * occ b xss[P])] rfl rfl fun u2 h20 n20 c20 o20 f20 m20 _ => ⟨u2, rfl, V19.of_no f20, ?_⟩
      have z20 := f20.size
      have ru : RdI (fun k => h19.size ≤ k) h20 u2 [own P + A * occ a xss[P] + B * occ b xss[P]] := o20.rdF
      refine eop_append rIs (or19.no f20) (fun k hk => by omega) ru (plainVI _) (by have h1 := RdI.len or19.rdF; have h2 := ru.len; simp at h1 h2; omega) fun y h21 n21 o21 f21 d21 => ⟨y, rfl, (V19.of_no f20).fr f21 (fun q hq hk => offL (F := fun k => h1.size ≤ k) (fun k hk => hk) q hq (by have := (or'.foot hk).1; omega)), ?_⟩
      rw [rI8.succ i0 hi]
      (try simp only)
      rw [hiM_tk, hiR_tk]
      refine ⟨m - 1, by omega, by omega, by omega, ?_, by show Ow _ _ _ _ _ _; rw [List.map_append]; exact o21, ((f8.trans (f817.mono fun k _ hk => by omega)).trans (f19.mono fun k _ hk => hk.1)).trans (f20.of_no.trans (f21.mono fun k _ hk => (or'.foot hk).1))⟩
      refine (OwR.fr (OwR.no (o19.mono fun k hk hF => (⟨hF, hk⟩ : (h3.size ≤ k /\ ¬ rt.own k) /\ k < h19.size)) f20) f21 fun k _ hk hk2 => hk.1.2 hk2).mono fun k _ hF => ⟨hF.1.1, fun hk2 => ?_⟩
      rcases d21 k hk2 with hd | hd
      · exact hF.1.2 hd
      · have := hF.2
        omega
  · have hi := rI8.ge e2
    have hi' : i.toNat = ps.length := by omega
    rw [List.take_of_length_le (by omega)] at om or'
    have M8 : RdR (fun k => k < h8.size) h8 mat (hiM xss a b) := (OwR.rd om).mono fun k hk => hk.2
    have R8 : RdI (fun k => k < h8.size) h8 rt (hiRL xss a b own A B) := RdI.low or'.rdF
    have I8 : RdI (fun k => k < h8.size) h8 inner (ps.map fun p : Nat => (p : Int)) := rI8.mono fun k hk => by omega
    rw [← hps'] at I8
    exact sv_fin C hA hB hr' gn g8 hL8 M8 R8 I8 K HK
theorem mx_zero {full : List Int} {m j : Nat} (h : j < m) (hl : full.length = m) : (full.take j ++ (List.replicate m (0 : Int)).drop j).set j 0 = full.take j ++ (List.replicate m (0 : Int)).drop j := by
  rw [List.set_append_right _ _ (by rw [List.length_take]; omega), List.length_take, show j - min j full.length = 0 by omega, List.drop_replicate]
  obtain ⟨d, hd⟩ : ∃ d, m - j = d + 1 := ⟨m - j - 1, by omega⟩
  rw [hd, List.replicate_succ]
  rfl
set_option maxHeartbeats 4000000 in
theorem k_hiMatrix {S : Nat -> Prop} {h : Heap} {g : Sl} {xss : List (List Int)} (G : RdR S h g xss) (hg : graphB xss = true) (a b : Int) (K : Value -> Heap -> Prop) (HK : ∀ t u h', RdI (fun k => k < h'.size) h' t ((inn xss.length a b).map fun p : Nat => (p : Int)) -> RdR (fun k => k < h'.size) h' u (hiM xss a b) -> Fr No h h' -> K (.tuple #[t.v, u.v]) h') : callM Try.prog 76 #[.agg #[g.v], VI a, VI b] h K := by
  have gl := graph_len hg
  refine v76 g a b h K fun b1 h1 hb1 f1 hL1 => ?_
  have f1 := f1.in_nil
  have z1 := f1.size
  have l1 : b1 < h1.size := hL1.head.lt
  have gn := G.len
  refine ⟨fun m x p h' => 0 ≤ p /\ p + m = (xss.length : Int) /\ OwI h' (fun k => h1.size ≤ k) x ((inn p.toNat a b).map fun p : Nat => (p : Int)) /\ Fr (fun k => h1.size ≤ k) h1 h', ⟨xss.length, Int.le_refl _, by omega, Ow.nil _ _ _ _, Fr.refl _ _⟩, ?_⟩
  rintro m pl p h3 ⟨p0, p1, o3, f3⟩ hL3
  have g3 := f1.fresh f3 fun k hk => by omega
  refine ⟨fun e => ?_, fun e => ?_⟩
  · have hp := G.lt e
    have eit := inn_take (a := a) (b := b) (show p.toNat < p.toNat + 1 by omega)
    rw [G.succ p0 hp]
    have next : innB a b p.toNat = false -> ∃ m' : Nat, m' < m /\ 0 ≤ p + 1 /\ p + 1 + m' = (xss.length : Int) /\ OwI h3 (fun k => h1.size ≤ k) pl ((inn (p + 1).toNat a b).map fun p : Nat => (p : Int)) /\ Fr (fun k => h1.size ≤ k) h1 h3 := fun hi => by
      rw [show (p + 1).toNat = p.toNat + 1 by omega, eit, hi]
      exact ⟨m - 1, by omega, by omega, by omega, o3, f3⟩
    refine ⟨fun e2 => ⟨fun e3 => ?_, fun e3 => next ?_⟩, fun e2 => next ?_⟩
    · have e2 := not_t e2
      have e3 := not_t e3
      simp only [decide_eq_false_iff_not] at e2 e3
      have hi : innB a b p.toNat = true := innB_t.2 ⟨by omega, by omega⟩
      refine eop_put (lo := h1.size) o3 f3.size hL3 (fun p hp => by simp only [List.mem_cons, List.not_mem_nil, or_false] at hp; subst hp; exact l1) (by rw [List.length_map]; unfold inn; have := List.length_filter_le (innB a b) (List.range p.toNat); rw [List.length_range] at this; omega) _ fun t h4 o4 f4 V4 => ?_
      refine ⟨m - 1, by omega, by omega, by omega, ?_, f3.trans f4⟩
      rw [show (p + 1).toNat = p.toNat + 1 by omega, eit, hi, if_pos rfl, List.map_append, List.map_cons, List.map_nil, Int.toNat_of_nonneg p0]
      exact o4
    · have e3 := not_f e3
      simp only [decide_eq_true_eq] at e3
      exact Bool.eq_false_iff.2 fun h => (innB_t.1 h).2 (by omega)
    · have e2 := not_f e2
      simp only [decide_eq_true_eq] at e2
      exact Bool.eq_false_iff.2 fun h => (innB_t.1 h).1 (by omega)
  have hp := G.ge e
  rw [show p.toNat = xss.length by omega] at o3
  have z3 := f3.size
  have rI : RdI (fun k => k < h3.size) h3 pl ((inn xss.length a b).map fun p : Nat => (p : Int)) := RdI.low o3.rdF
  have hpn : ∀ q, q ∈ inn xss.length a b -> q < xss.length := fun q hq => (mem_inn.1 hq).1
  have hMg : ∀ (i : Nat) (h : i < (inn xss.length a b).length), (hiM xss a b).getD i [] = hiRow (inn xss.length a b) (inn xss.length a b)[i] (xss.getD (inn xss.length a b)[i] []) (xss.getD (inn xss.length a b)[i] []).length := fun i h => (getD_get (by rw [(hiM_sq xss a b).1]; exact h)).trans (List.getElem_map _)
  have ml := (hiM_sq xss a b).1
  have ilen : (inn xss.length a b).length ≤ 8 := by unfold inn; have := List.length_filter_le (innB a b) (List.range xss.length); rw [List.length_range] at this; omega
  generalize hps' : inn xss.length a b = ps at hpn hMg ml o3 rI ilen
  have psl : (ps.map fun p : Nat => (p : Int)).length = ps.length := List.length_map _
  have pn : pl.n = ps.length := by have := rI.len; rw [psl] at this; exact this
  refine ⟨fun m x i h' => 0 ≤ i /\ i + m = (ps.length : Int) /\ OwX h' (fun k => h3.size ≤ k) x ((hiM xss a b).take i.toNat) /\ Fr (fun k => h3.size ≤ k) h3 h', ⟨ps.length, Int.le_refl _, by omega, OwR.nil _ _ _ _, Fr.refl _ _⟩, ?_⟩
  rintro m2 x i h5 ⟨i0, i1, o5, f5⟩ hL5
  have z5 := f5.size
  have g5 := g3.fresh f5 fun k hk => by have := g3.size; omega
  have rI5 := rI.fr f5 fun k hk hk2 => by omega
  refine ⟨fun e2 => ?_, fun e2 => ?_⟩
  · have hi := rI5.lt e2
    have hi' : i.toNat < ps.length := by omega
    have cI := rI5.get i0 hi
    rw [psI_get] at cI
    have hq1 := hpn _ (List.getElem_mem hi')
    have hMi := hMg i.toNat hi'
    generalize ps[i.toNat]'hi' = P at cI hq1 hMi
    have gm := graph_mem hg (List.getElem_mem hq1)
    have eg : xss.getD P [] = xss[P] := getD_get hq1
    rw [eg] at hMi
    have G5 := G.no g5
    obtain ⟨sp, cp5, rp5⟩ := G5.get (i := (P : Int)) (by omega) (by omega)
    simp only [Int.toNat_natCast] at rp5
    have ln := rp5.len
    have cpk : ∀ {h' : Heap}, Fr (fun k => h5.size ≤ k) h5 h' -> hcell h' (g.at (P : Int) 1) = some sp.v := fun f => hcell_fr cp5 f (by have := hcell_lt cp5; omega)
    have inb := G5.inb (i := (P : Int)) (by omega) (by omega)
    have fl := hiRow_len ps P xss[P] (xss[P].length : Int)
    have fg : ∀ j (h : j < ps.length), (hiRow ps P xss[P] (xss[P].length : Int))[j]'(by rw [fl]; exact h) = (if ps[j] = P then (xss[P].length : Int) else 0) - occ (ps[j] : Nat) xss[P] := fun j h => hiRow_get _
    generalize hF : hiRow ps P xss[P] (xss[P].length : Int) = F at hMi fl fg
    refine ⟨rI5.inb i0 hi, _, cI, ?_⟩
    refine eop_make rIs (fun k => h5.size ≤ k) (fun _ h => h) .i64 .i64 pl.n pl.n (Nat.le_refl _) (by omega) fun t h6 n6 c6 o6 f6 m6 _ => ⟨t, rfl, hL5.of_no f6, ?_⟩
    have o6 : OwI h6 (fun k => h5.size ≤ k) t (List.replicate ps.length 0) := by
      have e : (List.replicate pl.n [VI 0]).flatten = (List.replicate ps.length (0 : Int)).map VI := by rw [pn]; simp [List.flatten_replicate_singleton]
      rw [e] at o6; exact o6
    have off : ∀ p, p ∈ [(b1, [g.v])] -> ¬ h5.size ≤ p.1 := fun p hp => by
      simp only [List.mem_cons, List.not_mem_nil, or_false] at hp
      subst hp
      show ¬ h5.size ≤ b1
      omega
    refine ⟨fun m j h' => 0 ≤ j /\ j + m = (ps.length : Int) /\ OwI h' (fun k => h5.size ≤ k) t (F.take j.toNat ++ (List.replicate ps.length (0 : Int)).drop j.toNat) /\ Fr (fun k => h5.size ≤ k) h5 h', ⟨ps.length, Int.le_refl _, by omega, by simpa using o6, f6.of_no⟩, ?_⟩
    rintro m3 j h7 ⟨j0, j1, o7, f7⟩ hL7
    have rI7 := rI5.fr f7 fun k hk hk2 => by omega
    have tl : (F.take j.toNat ++ (List.replicate ps.length (0 : Int)).drop j.toNat).length = ps.length := by rw [List.length_append, List.length_take, List.length_drop, List.length_replicate]; omega
    refine ⟨fun e3 => ?_, fun e3 => ?_⟩
    · have hj := rI7.lt e3
      have hj' : j.toNat < ps.length := by omega
      have cJ := rI7.get j0 hj
      rw [psI_get] at cJ
      have hFj := fg j.toNat hj'
      generalize ps[j.toNat]'hj' = Q at cJ hFj
      have mz := mx_zero hj' fl
      generalize hT : F.take j.toNat ++ (List.replicate ps.length (0 : Int)).drop j.toNat = T at o7 tl mz
      have jl : j < (T.length : Int) := by omega
      have cellT : ∀ {v : Int} (h : j.toNat < (T.set j.toNat v).length), (T.set j.toNat v)[j.toNat]'h = v := fun h => by rw [List.getElem_set]; exact if_pos rfl
      refine ⟨rI7.inb j0 hj, _, cJ, ?_⟩
      refine ⟨fun h' => OwI h' (fun k => h5.size ≤ k) t (T.set j.toNat (if Q = P then (xss[P].length : Int) else 0)) /\ Fr (fun k => h5.size ≤ k) h5 h', ⟨fun e4 => ?_, fun e4 => ?_⟩, ?_⟩
      · simp only [decide_eq_true_eq] at e4
        have R7 := o7.rdF
        have hz : T[j.toNat]'(by omega) = 0 := by
          have := cellT (v := 0) (by rw [List.length_set]; omega)
          rw [← this]
          congr 1
          exact mz.symm
        refine ⟨RdI.inb R7 j0 jl, _, RdI.get R7 j0 jl, inb, sp, cpk f7, int_set (F := fun k => h5.size ≤ k) o7 j0 jl hL7 off _ fun h8 o8 f8 V8 => ⟨?_, f7.trans f8⟩⟩
        rw [if_pos (by omega)]
        rw [hz, w64_eq _ (by omega) (by omega), Int.zero_add, ln] at o8
        exact o8
      · simp only [decide_eq_false_iff_not] at e4
        refine ⟨?_, f7⟩
        rw [if_neg (by omega), mz]
        exact o7
      rintro h9 ⟨o9, f9⟩ hL9
      refine ⟨inb, sp, cpk f9, ?_⟩
      refine ⟨fun m q h' => 0 ≤ q /\ q + m = (xss[P].length : Int) /\ OwI h' (fun k => h5.size ≤ k) t (T.set j.toNat ((if Q = P then (xss[P].length : Int) else 0) - occ (Q : Int) (xss[P].take q.toNat))) /\ Fr (fun k => h5.size ≤ k) h5 h', ⟨xss[P].length, Int.le_refl _, by omega, by simpa [occ] using o9, f9⟩, ?_⟩
      rintro m4 q h10 ⟨q0, q1, o10, f10⟩ hL10
      have rp10 := rp5.low.fr f10 fun k hk hk2 => by omega
      refine ⟨fun e5 => ?_, fun e5 => ?_⟩
      · have hq := rp10.lt e5
        have hc := rp10.get q0 hq
        have tk : xss[P].take (q + 1).toNat = _ := take_snoc _ q0 hq
        have so := sv_occ (a := (Q : Int)) gm.1 q.toNat
        generalize xss[P][q.toNat]'(by omega) = v at hc tk
        rw [rp10.succ q0 hq]
        refine ⟨rp10.inb q0 hq, _, hc, fun e6 => ?_, fun e6 => ?_⟩
        · simp only [decide_eq_true_eq] at e6
          have R10 := o10.rdF
          have sl : (T.set j.toNat ((if Q = P then (xss[P].length : Int) else 0) - occ (Q : Int) (xss[P].take q.toNat))).length = T.length := List.length_set
          refine ⟨RdI.inb R10 j0 (by omega), _, RdI.get R10 j0 (by omega), int_set (F := fun k => h5.size ≤ k) o10 j0 (by omega) hL10 off _ fun h11 o11 f11 V11 => ?_⟩
          refine ⟨m4 - 1, by omega, by omega, by omega, ?_, f10.trans f11⟩
          rw [tk, occ_snoc, if_pos e6]
          rw [List.set_set, cellT, w64_eq _ (by split <;> omega) (by split <;> omega)] at o11
          rw [show ∀ x y : Int, x - (y + 1) = x - y - 1 by omega]
          exact o11
        · simp only [decide_eq_false_iff_not] at e6
          refine ⟨m4 - 1, by omega, by omega, by omega, ?_, f10⟩
          rw [tk, occ_snoc, if_neg e6, Int.add_zero]
          exact o10
      · have hq := rp10.ge e5
        rw [List.take_of_length_le (by omega), ← hFj, ← hT] at o10
        have sm := set_mid F (List.replicate ps.length (0 : Int)) j.toNat (by omega) (by rw [List.length_replicate]; omega)
        rw [sm] at o10
        rw [rI7.succ j0 hj]
        refine ⟨m3 - 1, by omega, by omega, by omega, ?_, f10⟩
        rw [show (j + 1).toNat = j.toNat + 1 by omega]
        exact o10
    · have hj := rI7.ge e3
      rw [List.take_of_length_le (by omega), List.drop_eq_nil_of_le (by rw [List.length_replicate]; omega), List.append_nil] at o7
      have z7 := f7.size
      refine eop_putR (lo := h3.size) (m := h5.size) (OwR.fr (OwR.toIv o5) f7 fun k _ hk hk2 => by have := hk.2; omega) o7 z5 z7 hL7 (fun p hp => by simp only [List.mem_cons, List.not_mem_nil, or_false] at hp; subst hp; show b1 < h3.size; omega) (by rw [List.length_take]; omega) _ fun t2 h12 o12 f12 V12 => ?_
      rw [rI5.succ i0 hi]
      refine ⟨m2 - 1, by omega, by omega, by omega, ?_, (f5.trans (f7.mono fun k _ hk => by omega)).trans f12⟩
      rw [show (i + 1).toNat = i.toNat + 1 by omega, List.take_succ_eq_append_getElem (by omega), ← getD_get (by omega), hMi]
      exact o12
  · have hi := rI5.ge e2
    rw [List.take_of_length_le (by omega)] at o5
    rw [hps'] at HK
    exact HK pl x h5 (rI5.mono fun k hk => by omega) ((OwR.rd o5).mono fun k hk => hk.2) g5
def solL (rows : List (List Int)) (r : List Int) : List Int := (List.range rows.length).map fun j => det rows.length (colS (matL rows) j fun i => r.getD i 0)
set_option maxHeartbeats 2000000 in
theorem k_hiSolve {S S2 : Nat -> Prop} {h : Heap} {m r : Sl} {rows : List (List Int)} {rs : List Int} (M : RdR S h m rows) (R : RdI S2 h r rs) (hl : rs.length = rows.length) (Q : Sq rows.length rows) (hn : rows.length ≤ 7) (hb : Small rows.length (matL rows)) (hr : ∀ i, i < rows.length -> (rs.getD i 0).natAbs ≤ 10) (K : Value -> Heap -> Prop) (HK : ∀ t h', RdI (fun k => k < h'.size) h' t (solL rows rs) -> Fr No h h' -> K (.tuple #[t.v, VI (det rows.length (matL rows))]) h') : callM Try.prog 77 #[m.v, r.v] h K := by
  refine v77 m r h K ?_
  refine k_trDet rows.length M Q hn hb _ fun h1 f1 => ⟨_, rfl, .nil, ?_⟩
  have M1 := M.low.no f1
  have R1 := RdI.low R |>.no f1
  have z1 := f1.size
  have sl : (solL rows rs).length = rows.length := by unfold solL; rw [List.length_map, List.length_range]
  refine ⟨fun n x k h' => 0 ≤ k /\ k + n = (rows.length : Int) /\ OwI h' (fun q => h1.size ≤ q) x ((solL rows rs).take k.toNat) /\ Fr (fun q => h1.size ≤ q) h1 h', ⟨rows.length, Int.le_refl _, by omega, Ow.nil _ _ _ _, Fr.refl _ _⟩, ?_⟩
  rintro n x k h2 ⟨k0, k1, o2, f2⟩ hL2
  have M2 := M1.fr f2 fun q hq hq2 => by omega
  have R2 := R1.fr f2 fun q hq hq2 => by omega
  have z2 := f2.size
  refine ⟨fun e => ?_, fun e => ?_⟩
  · have hk := M2.lt e
    refine ⟨fun n x i h' => 0 ≤ i /\ i + n = (rows.length : Int) /\ OwX h' (fun q => h2.size ≤ q) x ((putC rows k.toNat rs).take i.toNat) /\ Fr (fun q => h2.size ≤ q) h2 h', ⟨rows.length, Int.le_refl _, by omega, OwR.nil _ _ _ _, Fr.refl _ _⟩, ?_⟩
    rintro n2 y i h3 ⟨i0, i1, o3, f3⟩ hL3
    have M3 := M2.fr f3 fun q hq hq2 => by omega
    have R3 := R2.fr f3 fun q hq hq2 => by omega
    have z3 := f3.size
    refine ⟨fun e2 => ?_, fun e2 => ?_⟩
    · have hi := M3.lt e2
      obtain ⟨si, ci, ri⟩ := M3.get i0 hi
      have rowl := Q.row i.toNat (by omega)
      refine ⟨M3.inb i0 hi, si, ci, k_l1Own ri (by omega) _ fun t2 h4 o4 f4 => ⟨t2, rfl, .nil, ?_⟩⟩
      have R4 := R3.no f4
      have z4 := f4.size
      refine ⟨R4.inb i0 (by omega), _, R4.get i0 (by omega), int_set (o4.mono (F' := fun q => h3.size ≤ q) fun q _ hq => hq.1) k0 (by omega) .nil (fun p hp => by simp at hp) _ fun h5 o5 f5 V5 => ?_⟩
      have z5 := f5.size
      refine eop_putR (lo := h2.size) (m := h3.size) (OwR.fr (OwR.toIv o3) (f4.of_no.trans f5) fun q _ hq hq2 => by have := hq.2; omega) o5 z3 (by omega) .nil (fun p hp => by simp at hp) (by rw [List.length_take]; omega) _ fun t3 h6 o6 f6 V6 => ?_
      rw [M3.succ i0 hi]
      refine ⟨n2 - 1, by omega, by omega, by omega, ?_, ((f3.trans f4.of_no).trans (f5.mono fun q _ hq => by omega)).trans f6⟩
      rw [show (i + 1).toNat = i.toNat + 1 by omega, putC_snoc (by omega), getD_getI (by omega)]
      exact o6
    · have hi := M3.ge e2
      have pl := putC_len rows k.toNat rs
      rw [List.take_of_length_le (by omega)] at o3
      refine k_trDet rows.length (OwR.rd o3) (putC_sq Q k.toNat rs) hn (putC_small Q hb hr) _ fun h4 f4 => ⟨_, rfl, .nil, ?_⟩
      rw [putC_det Q]
      have f24 := f3.trans f4.of_no
      have z4 := f24.size
      refine eop_put (lo := h1.size) ((Ow.toIv o2).fr f24 (fun q hq hq2 => by have := (o2.foot hq).2; omega) |>.mono fun q _ hq => hq.1) (by omega) .nil (fun p hp => by simp at hp) (by rw [List.length_take]; omega) _ fun t5 h5 o5 f5 V5 => ?_
      rw [M2.succ k0 hk]
      refine ⟨n - 1, by omega, by omega, by omega, ?_, (f2.trans (f24.mono fun q _ hq => by omega)).trans f5⟩
      rw [show (k + 1).toNat = k.toNat + 1 by omega, List.take_succ_eq_append_getElem (by omega)]
      have : (solL rows rs)[k.toNat]'(by omega) = det rows.length (colS (matL rows) k.toNat fun i => rs.getD i 0) := by
        refine (List.getElem_map (l := List.range rows.length) _ (h := by rw [List.length_map, List.length_range]; omega)).trans ?_
        rw [List.getElem_range]
      rw [this]
      exact o5
  · have hk := M2.ge e
    rw [List.take_of_length_le (by omega)] at o2
    exact HK x h2 (RdI.low o2.rdF) (f1.fresh f2 fun q hq => by omega)
abbrev Rat2 := Int × Int
def ratV : List Rat2 -> List Value
  | [] => []
  | r :: l => VI r.1 :: VI r.2 :: ratV l
theorem ratV_len : ∀ l : List Rat2, (ratV l).length = l.length * 2
  | [] => rfl
  | r :: l => by rw [ratV, List.length_cons, List.length_cons, ratV_len l, List.length_cons]; omega
theorem ratV_get : ∀ (l : List Rat2) (i : Nat) (h : i < l.length), (ratV l)[i * 2]? = some (VI l[i].1) /\ (ratV l)[i * 2 + 1]? = some (VI l[i].2)
  | r :: l, 0, _ => ⟨rfl, rfl⟩
  | r :: l, i + 1, h => by
    have := ratV_get l i (by simpa using h)
    rw [ratV, show (i + 1) * 2 = i * 2 + 1 + 1 by omega]
    simpa using this
theorem ratV_set : ∀ (l : List Rat2) (i : Nat) (x y : Int), ((ratV l).set (i * 2) (VI x)).set (i * 2 + 1) (VI y) = ratV (l.set i (x, y))
  | [], i, x, y => by simp [ratV]
  | r :: l, 0, x, y => by simp [ratV]
  | r :: l, i + 1, x, y => by
    rw [ratV, show (i + 1) * 2 = i * 2 + 1 + 1 by omega, List.set_cons_succ, List.set_cons_succ, List.set_cons_succ, List.set_cons_succ, ratV_set l i x y, List.set_cons_succ, ratV]
@[reducible] def OwQ (h : Heap) (F : Nat -> Prop) (s : Sl) (l : List Rat2) : Prop := Ow h F tR 2 s (ratV l)
def RdQ (S : Nat -> Prop) (h : Heap) (s : Sl) (l : List Rat2) : Prop := RdV S h 2 s (ratV l)
theorem RdQ.len {S : Nat -> Prop} {h : Heap} {s : Sl} {l : List Rat2} (H : RdQ S h s l) : s.n = l.length := by
  have := RdV.len H
  rw [ratV_len] at this
  omega
theorem RdQ.get {S : Nat -> Prop} {h : Heap} {s : Sl} {l : List Rat2} (H : RdQ S h s l) {i : Int} (h0 : 0 ≤ i) (h1 : i < (l.length : Int)) : InB s i /\ CellsAt h (s.at i 2) [VI (l[i.toNat]'(by omega)).1, VI (l[i.toNat]'(by omega)).2] := by
  have hl := RdQ.len H
  have hn := ratV_len l
  obtain ⟨g1, g2⟩ := ratV_get l i.toNat (by omega)
  obtain ⟨a, ha, _, c1⟩ := RdV.cell H (i.toNat * 2) (by omega)
  obtain ⟨a', ha', _, c2⟩ := RdV.cell H (i.toNat * 2 + 1) (by omega)
  rw [ha] at ha'
  obtain rfl : a = a' := by simpa using ha'
  rw [List.getElem?_eq_getElem (by omega)] at g1 g2
  rw [Option.some.inj g1] at c1
  rw [Option.some.inj g2] at c2
  refine ⟨⟨by simp [ha], h0, by omega⟩, fun j hj => ?_⟩
  have hat : s.at i 2 = a.add (i.toNat * 2) := by simp [Sl.at, ha]
  rw [hat, add_adds]
  match j, hj with
  | 0, _ => exact c1
  | 1, _ => simpa using c2
theorem RdQ.fr {S T : Nat -> Prop} {h h' : Heap} {s : Sl} {l : List Rat2} (H : RdQ S h s l) (hf : Fr T h h') (hd : ∀ k, S k -> ¬ T k) : RdQ S h' s l := RdV.fr H hf hd
theorem RdQ.no {S : Nat -> Prop} {h h' : Heap} {s : Sl} {l : List Rat2} (H : RdQ S h s l) (hf : Fr No h h') : RdQ S h' s l := RdV.no H hf
theorem RdQ.low {S : Nat -> Prop} {h : Heap} {s : Sl} {l : List Rat2} (H : RdQ S h s l) : RdQ (fun k => k < h.size) h s l := (RdV.lt H).mono fun _ h => h.2
theorem rat_size : sizeC Try.prog tR = some 2 := by kernel_rfl
theorem uop_rat {L : List (Nat × List Value)} {F : Nat -> Prop} {h : Heap} {s : Sl} {l : List Rat2} {i : Int} {x y : Int} (O : OwQ h F s l) (h0 : 0 ≤ i) (h1 : i < (l.length : Int)) (hL : Vars h L) (hoff : ∀ p, p ∈ L -> ¬ F p.1) (R : Heap -> Prop) (HR : ∀ h', OwQ h' F s (l.set i.toNat (x, y)) -> Fr F h h' -> Vars h' L -> R h') : InB s i /\ uop Try.prog (Instr.storeAt tR (Value.pointer (some (Sl.at s i 2))) (Value.agg #[VI x, VI y])) h fun rv h' => Vars h' L /\ R h' := by
  have hn := O.len
  rw [ratV_len] at hn
  have hi : i < (s.n : Int) := by omega
  refine ⟨O.inb h0 hi, ⟨fun w hw => ?_⟩⟩
  subst hw
  obtain ⟨w1, o1, f1⟩ := O.store h0 hi 0 (by omega) (VI x)
  obtain ⟨w2, _, _⟩ := O.store h0 hi 1 (by omega) (VI y)
  obtain ⟨_, o2, f2⟩ := o1.store h0 hi 1 (by omega) (VI y)
  obtain ⟨w', r1, r2, r3⟩ := run_storeAt (P := Try.prog) (sizeC_spec rat_size w) (a := s.at i 2) (v := .agg #[VI x, VI y]) (vs := [VI x, VI y]) rfl rfl (fun v hv => by simp only [List.mem_cons, List.not_mem_nil, or_false] at hv; rcases hv with rfl | rfl <;> rfl) (fun j hj => by
    match j, hj with
    | 0, _ => exact ⟨w1.cell, w1.free⟩
    | 1, _ => exact ⟨w2.cell, w2.free⟩)
  refine ⟨w', r1, r2, ?_⟩
  rw [r3]
  simp only [List.zipIdx_cons, List.zipIdx_nil, List.foldl_cons, List.foldl_nil, Nat.zero_add]
  rw [Nat.add_zero, ratV_set] at o2
  have f : Fr F w.heap _ := (f1.trans f2).mono fun k _ hk => (O.foot hk).1
  have V := hL.fr f hoff
  exact ⟨V, HR _ o2 f V⟩
def o0 : Int -> Int := fun _ => 0
def oL (g : List (List Int)) : Int -> Int := fun p => ((g.getD p.toNat []).length : Int)
theorem ratP_one {d : Int} (h : 0 < d) : ratP d d = (1, 1) := by
  unfold ratP
  rw [Int.gcd_self, show ((d.natAbs : Nat) : Int) = d by omega, Int.ediv_self (by omega)]
theorem ratP_zero {d : Int} (h : 0 < d) : ratP 0 d = (0, 1) := by
  unfold ratP
  rw [Int.gcd_zero_left, show ((d.natAbs : Nat) : Int) = d by omega, Int.ediv_self (by omega), Int.zero_ediv]
def chR (g : List (List Int)) (a b : Int) : List Rat2 := (List.range g.length).map fun q : Nat => ratP (chN g a b q) (hiD g a b)
theorem chR_len (g : List (List Int)) (a b : Int) : (chR g a b).length = g.length := by unfold chR; rw [List.length_map, List.length_range]
theorem chR_get {g : List (List Int)} {a b : Int} {q : Nat} (h : q < (chR g a b).length) : (chR g a b)[q] = ratP (chN g a b q) (hiD g a b) := by
  refine (List.getElem_map (l := List.range g.length) _ (h := h)).trans ?_
  rw [List.getElem_range]
theorem Can.hr0 {g : List (List Int)} {a b : Int} (C : Can g a b) : ∀ i, i < (inn g.length a b).length -> (hiR g a b o0 1 0 i).natAbs ≤ 10 := fun i hi => by
  have e : hiR g a b o0 1 0 i = occ a (g.getD ((inn g.length a b).getD i 0) []) := by
    unfold hiR o0
    omega
  have hp := (mem_inn.1 (List.getElem_mem hi)).1
  have e1 : (inn g.length a b).getD i 0 = (inn g.length a b)[i] := by rw [List.getD_eq_getElem?_getD, List.getElem?_eq_getElem hi, Option.getD_some]
  rw [e, e1, getD_get hp]
  have h1 := occ_bound a g[(inn g.length a b)[i]]
  have h2 := (graph_mem C.graph (List.getElem_mem hp)).1
  omega
theorem oL_rng {g : List (List Int)} (hg : graphB g = true) (p : Nat) : 0 ≤ oL g p /\ oL g p ≤ 5 := by
  unfold oL
  rw [show ((p : Int)).toNat = p from rfl]
  by_cases hp : p < g.length
  · rw [getD_get hp]
    have := (graph_mem hg (List.getElem_mem hp)).1
    omega
  · rw [List.getD_eq_getElem?_getD, List.getElem?_eq_none (by omega)]
    exact ⟨Int.le_refl _, by decide⟩
theorem Can.hrL {g : List (List Int)} {a b : Int} (C : Can g a b) : ∀ i, i < (inn g.length a b).length -> (hiR g a b (oL g) 0 0 i).natAbs ≤ 10 := fun i hi => by
  have e : hiR g a b (oL g) 0 0 i = oL g ((inn g.length a b).getD i 0 : Nat) := by
    unfold hiR
    omega
  rw [e]
  have := oL_rng C.graph ((inn g.length a b).getD i 0)
  omega
theorem Can.x_bound {g : List (List Int)} {a b : Int} (C : Can g a b) {own : Int -> Int} {A B : Int} (hA : A = 0 ∨ A = 1) (hB : B = 0 ∨ B = 1) (hr : ∀ i, i < (inn g.length a b).length -> (hiR g a b own A B i).natAbs ≤ 10) (q : Int) : (hiX g a b own A B q).natAbs ≤ 50400000000 := by
  have hd := C.den
  have gl := graph_len C.graph
  have il := inn_len C.a0 C.a1 C.b0 C.b1 C.ne
  unfold hiX
  split
  · rcases hA with rfl | rfl <;> omega
  · split
    · rcases hB with rfl | rfl <;> omega
    · exact hiC_bound C.graph (by omega) hr _
theorem k_chances {S : Nat -> Prop} {h : Heap} {g : Sl} {xss : List (List Int)} (G : RdR S h g xss) {a b : Int} (C : Can xss a b) (K : Value -> Heap -> Prop) (HK : ∀ t h', OwI h' (Iv h.size h'.size) t (outL xss a b o0 1 0) -> Fr No h h' -> K (.tuple #[t.v, VI (hiD xss a b)]) h') : callM Try.prog 59 #[.agg #[g.v], VI a, VI b] h K := by
  refine v59 g a b h K fun b1 h1 hb1 f1 hL1 => ?_
  have f1 := f1.in_nil
  refine k_solved (G.no f1) C (.func (.func 111) #[] #[]) o0 (.inr rfl) (.inl rfl) (fun p => ⟨Int.le_refl _, by unfold o0; omega⟩) C.hr0 (fun p h' K' _ _ hk => v111 _ _ _ hk) _ fun t h2 o2 f2 => ⟨t, _, rfl, hL1.of_no f2, HK t h2 ?_ (f1.no_trans f2)⟩
  exact o2.mono fun k _ hk => ⟨Nat.le_trans f1.size hk.1, hk.2⟩
def fillQ (n : Nat) (a b : Int) (d : Int) (ps : List Nat) (f : Nat -> Int) (k : Nat) : List Rat2 := (List.range n).map fun q : Nat => if (q : Int) = a then (1, 1) else if (q : Int) = b then (0, 1) else if ps.idxOf q < k then ratP (f (ps.idxOf q)) d else (0, 0)
theorem fillQ_len (n : Nat) (a b : Int) (d : Int) (ps : List Nat) (f : Nat -> Int) (k : Nat) : (fillQ n a b d ps f k).length = n := by unfold fillQ; rw [List.length_map, List.length_range]
theorem fillQ_get {n : Nat} {a b d : Int} {ps : List Nat} {f : Nat -> Int} {k q : Nat} (h : q < (fillQ n a b d ps f k).length) : (fillQ n a b d ps f k)[q] = if (q : Int) = a then (1, 1) else if (q : Int) = b then (0, 1) else if ps.idxOf q < k then ratP (f (ps.idxOf q)) d else (0, 0) := by
  refine (List.getElem_map (l := List.range n) _ (h := h)).trans ?_
  rw [List.getElem_range]
theorem fillQ_zero {n : Nat} {a b : Int} (d : Int) (ps : List Nat) (f : Nat -> Int) (a0 : 0 ≤ a) (b0 : 0 ≤ b) (hne : a ≠ b) : fillQ n a b d ps f 0 = ((List.replicate n ((0, 0) : Rat2)).set a.toNat (1, 1)).set b.toNat (0, 1) := by
  apply List.ext_getElem (by rw [fillQ_len, List.length_set, List.length_set, List.length_replicate])
  intro q h1 h2
  rw [fillQ_get h1, List.getElem_set, List.getElem_set, List.getElem_replicate]
  by_cases ea : (q : Int) = a
  · rw [if_pos ea, if_neg (by omega), if_pos (by omega)]
  · rw [if_neg ea]
    by_cases eb : (q : Int) = b
    · rw [if_pos eb, if_pos (by omega)]
    · rw [if_neg eb, if_neg (by omega), if_neg (by omega), if_neg (by omega)]
theorem fillQ_step {n : Nat} {a b : Int} (d : Int) (f : Nat -> Int) {k : Nat} (hk : k < (inn n a b).length) : fillQ n a b d (inn n a b) f (k + 1) = (fillQ n a b d (inn n a b) f k).set ((inn n a b)[k]) (ratP (f k) d) := by
  apply List.ext_getElem (by rw [fillQ_len, List.length_set, fillQ_len])
  intro q h1 h2
  have h3 : q < (fillQ n a b d (inn n a b) f k).length := by rw [List.length_set] at h2; exact h2
  have hm := mem_inn.1 (List.getElem_mem hk)
  rw [fillQ_get h1, List.getElem_set, fillQ_get h3]
  by_cases e : (inn n a b)[k] = q
  · rw [if_pos e, if_neg (by omega), if_neg (by omega)]
    subst e
    rw [inn_idx hk, if_pos (by omega)]
  · rw [if_neg e]
    by_cases ea : (q : Int) = a
    · rw [if_pos ea, if_pos ea]
    · rw [if_neg ea, if_neg ea]
      by_cases eb : (q : Int) = b
      · rw [if_pos eb, if_pos eb]
      · rw [if_neg eb, if_neg eb]
        have hq : q ∈ inn n a b := mem_inn.2 ⟨by rw [fillQ_len] at h3; exact h3, ea, eb⟩
        have hi := List.idxOf_lt_length_iff.2 hq
        by_cases l : (inn n a b).idxOf q < k
        · rw [if_pos l, if_pos (by omega)]
        · rw [if_neg l, if_neg]
          intro h
          apply e
          have : (inn n a b).idxOf q = k := by omega
          subst this
          exact List.getElem_idxOf hi
theorem fillQ_all {g : List (List Int)} {a b : Int} (hd : 0 < hiD g a b) : fillQ g.length a b (hiD g a b) (inn g.length a b) (hiC g a b o0 1 0) (inn g.length a b).length = chR g a b := by
  apply List.ext_getElem (by rw [fillQ_len, chR_len])
  intro q h1 h2
  rw [fillQ_get h1, chR_get h2]
  unfold chN hiX
  by_cases ea : (q : Int) = a
  · rw [if_pos ea, if_pos ea, Int.one_mul, ratP_one hd]
  · rw [if_neg ea, if_neg ea]
    by_cases eb : (q : Int) = b
    · rw [if_pos eb, if_pos eb, Int.zero_mul, ratP_zero hd]
    · rw [if_neg eb, if_neg eb, if_pos]
      · rfl
      · exact List.idxOf_lt_length_iff.2 (mem_inn.2 ⟨by rw [fillQ_len] at h1; exact h1, ea, eb⟩)
theorem solL_hi (g : List (List Int)) (a b : Int) (own : Int -> Int) (A B : Int) : solL (hiM g a b) (hiRL g a b own A B) = (List.range (inn g.length a b).length).map (hiC g a b own A B) := by
  unfold solL
  rw [(hiM_sq g a b).1]
  exact List.map_congr_left fun k _ => hiC_eq g a b own A B k
set_option maxHeartbeats 4000000 in
theorem k_hiChances {S : Nat -> Prop} {h : Heap} {g : Sl} {xss : List (List Int)} (G : RdR S h g xss) {a b : Int} (C : Can xss a b) (K : Value -> Heap -> Prop) (HK : ∀ t h', RdQ (fun k => k < h'.size) h' t (chR xss a b) -> Fr No h h' -> K t.v h') : callM Try.prog 62 #[.agg #[g.v], VI a, VI b] h K := by
  have hg := C.graph
  have gl := graph_len hg
  have dn := C.den
  have gn := G.len
  have il := inn_len C.a0 C.a1 C.b0 C.b1 C.ne
  refine v62 g a b h K fun b1 h1 hb1 f1 hL1 => ?_
  have f1 := f1.in_nil
  refine k_hiMatrix (G.no f1) hg a b _ fun pl m h2 P2 M2 f2 => ⟨pl, m, rfl, hL1.of_no f2, ?_⟩
  have l1 : b1 < h1.size := hL1.head.lt
  have z2 := f2.size
  have f02 := f1.no_trans f2
  have hpn : ∀ q, q ∈ inn xss.length a b -> q < xss.length := fun q hq => (mem_inn.1 hq).1
  have psl : ((inn xss.length a b).map fun p : Nat => (p : Int)).length = (inn xss.length a b).length := List.length_map _
  have pn : pl.n = (inn xss.length a b).length := by have := P2.len; rw [psl] at this; exact this
  have rl := hiRL_len xss a b o0 1 0
  have ml := (hiM_sq xss a b).1
  have offL : ∀ {F : Nat -> Prop}, (∀ k, F k -> h2.size ≤ k) -> ∀ p, p ∈ [(b1, [g.v])] -> ¬ F p.1 := fun hF p hp hk => by
    simp only [List.mem_cons, List.not_mem_nil, or_false] at hp
    subst hp
    have := hF _ hk
    (try simp only at this)
    omega
  refine ⟨fun m x i h' => 0 ≤ i /\ i + m = ((inn xss.length a b).length : Int) /\ OwI h' (fun k => h2.size ≤ k) x ((hiRL xss a b o0 1 0).take i.toNat) /\ Fr (fun k => h2.size ≤ k) h2 h', ⟨(inn xss.length a b).length, by omega, by omega, Ow.nil _ _ _ _, Fr.refl _ _⟩, ?_⟩
  rintro m1 x i h3 ⟨i0, i1, o3, f3⟩ hL3
  have P3 := P2.fr f3 fun k hk hk2 => by omega
  have M3 := M2.fr f3 fun k hk hk2 => by omega
  have z3 := f3.size
  have f03 := f02.fresh f3 fun k hk => by have := f02.size; omega
  refine ⟨fun e => ?_, fun e => ?_⟩
  · have hi := P3.lt e
    have hi' : i.toNat < (inn xss.length a b).length := by omega
    have cI := P3.get i0 hi
    rw [psI_get] at cI
    have hq1 := hpn _ (List.getElem_mem hi')
    have hRi : (hiRL xss a b o0 1 0)[i.toNat]'(by omega) = hiRt xss a b o0 1 0 (inn xss.length a b)[i.toNat] := List.getElem_map _
    generalize (inn xss.length a b)[i.toNat]'hi' = Q at cI hq1 hRi
    have G3 := G.no f03
    obtain ⟨sp, cp, rp⟩ := G3.get (i := (Q : Int)) (by omega) (by omega)
    simp only [Int.toNat_natCast] at rp
    have gm := graph_mem hg (List.getElem_mem hq1)
    refine ⟨P3.inb i0 hi, _, cI, G3.inb (by omega) (by omega), sp, cp, ?_⟩
    refine ⟨fun m s j h' => 0 ≤ j /\ j + m = (xss[Q].length : Int) /\ s = occ a (xss[Q].take j.toNat) /\ h' = h3, ⟨xss[Q].length, by omega, by omega, rfl, rfl⟩, ?_⟩
    rintro m2 s j h4 ⟨j0, j1, rfl, rfl⟩ hL4
    refine ⟨fun e2 => ?_, fun e2 => ?_⟩
    · have hj := rp.lt e2
      have hc := rp.get j0 hj
      have tk : xss[Q].take (j + 1).toNat = _ := take_snoc _ j0 hj
      have so := sv_occ (a := a) gm.1 j.toNat
      generalize xss[Q][j.toNat]'(by omega) = v at hc tk
      rw [rp.succ j0 hj]
      refine ⟨rp.inb j0 hj, _, hc, fun e3 => ?_, fun e3 => ?_⟩
      · simp only [decide_eq_true_eq] at e3
        refine ⟨m2 - 1, by omega, by omega, by omega, ?_, rfl⟩
        rw [tk, occ_snoc, if_pos e3, w64_eq _ (by omega) (by omega)]
      · simp only [decide_eq_false_iff_not] at e3
        refine ⟨m2 - 1, by omega, by omega, by omega, ?_, rfl⟩
        rw [tk, occ_snoc, if_neg e3, Int.add_zero]
    · have hj := rp.ge e2
      rw [List.take_of_length_le (by omega)]
      refine eop_put (lo := h2.size) o3 z3 hL3 (fun p hp => by simp only [List.mem_cons, List.not_mem_nil, or_false] at hp; subst hp; show b1 < h2.size; omega) (by rw [List.length_take]; omega) _ fun t h5 o5 f5 V5 => ?_
      rw [P3.succ i0 hi]
      refine ⟨m1 - 1, by omega, by omega, by omega, ?_, f3.trans f5⟩
      rw [show (i + 1).toNat = i.toNat + 1 by omega, List.take_succ_eq_append_getElem (by omega), hRi]
      have : hiRt xss a b o0 1 0 Q = occ a xss[Q] := by
        unfold hiRt o0
        rw [getD_get hq1]
        omega
      rw [this]
      exact o5
  · have hi := P3.ge e
    rw [List.take_of_length_le (by omega)] at o3
    have hQ' : Sq (hiM xss a b).length (hiM xss a b) := by rw [ml]; exact (hiM_sq xss a b).2
    have hS' : Small (hiM xss a b).length (matL (hiM xss a b)) := by rw [ml]; exact hiM_small hg a b
    refine k_hiSolve M3 (Ow.rdF o3 : RdI _ h3 x _) (by omega) hQ' (by omega) hS' (fun i hi => by rw [hiRL_get xss a b o0 1 0 (by omega)]; exact C.hr0 i (by omega)) _ fun t h7 S7 f7 => ⟨t, _, rfl, hL3.of_no f7, ?_⟩
    rw [solL_hi] at S7
    rw [ml, hiM_det]
    have z7 := f7.size
    have hL7 := hL3.of_no f7
    refine eop_make rRs (fun k => h7.size ≤ k) (fun _ h => h) .i64 .i64 g.n g.n (Nat.le_refl _) (by omega) fun u h8 n8 c8 o8 f8 m8 _ => ⟨u, rfl, hL7.of_no f8, ?_⟩
    have z8 := f8.size
    have o8' : OwQ h8 (fun k => h7.size ≤ k) u (List.replicate xss.length (0, 0)) := by
      have e : (List.replicate g.n [VI 0, VI 0]).flatten = ratV (List.replicate xss.length (0, 0)) := by
        rw [gn]
        generalize xss.length = n
        induction n with
        | zero => rfl
        | succ n ih => rw [List.replicate_succ, List.flatten_cons, ih, List.replicate_succ, ratV]; rfl
      rw [e] at o8
      exact o8
    have off7 := offL (F := fun k => h7.size ≤ k) fun k hk => by omega
    refine uop_rat (L := [(b1, [g.v])]) (F := fun k => h7.size ≤ k) (x := 1) (y := 1) o8' C.a0 (by rw [List.length_replicate]; exact C.a1) (hL7.of_no f8) off7 _ fun h9 o9 f9 V9 => ?_
    refine uop_rat (L := [(b1, [g.v])]) (F := fun k => h7.size ≤ k) (x := 0) (y := 1) o9 C.b0 (by rw [List.length_set, List.length_replicate]; exact C.b1) V9 off7 _ fun h10 o10 f10 V10 => ?_
    rw [← fillQ_zero (hiD xss a b) (inn xss.length a b) (hiC xss a b o0 1 0) C.a0 C.b0 C.ne] at o10
    refine ⟨fun m k h' => 0 ≤ k /\ k + m = ((inn xss.length a b).length : Int) /\ OwQ h' (fun q => h7.size ≤ q) u (fillQ xss.length a b (hiD xss a b) (inn xss.length a b) (hiC xss a b o0 1 0) k.toNat) /\ Fr (fun q => h7.size ≤ q) h8 h', ⟨(inn xss.length a b).length, by omega, by omega, o10, f9.trans f10⟩, ?_⟩
    rintro m3 k h11 ⟨k0, k1, o11, f11⟩ hL11
    have P11 := ((P3.no f7).no f8).fr f11 fun q hq hq2 => by omega
    have S11 := (S7.no f8).fr f11 fun q hq hq2 => by omega
    refine ⟨fun e3 => ?_, fun e3 => ?_⟩
    · have hk := P11.lt e3
      have hk' : k.toNat < (inn xss.length a b).length := by omega
      have cI := P11.get k0 hk
      rw [psI_get] at cI
      have hq1 := hpn _ (List.getElem_mem hk')
      have hstk := fillQ_step (hiD xss a b) (hiC xss a b o0 1 0) hk'
      have cS := S11.get (i := k) k0 (by rw [List.length_map, List.length_range]; omega)
      have eS : ((List.range (inn xss.length a b).length).map (hiC xss a b o0 1 0))[k.toNat]'(by rw [List.length_map, List.length_range]; omega) = hiC xss a b o0 1 0 k.toNat := by rw [List.getElem_map, List.getElem_range]
      rw [eS] at cS
      have hcb := hiC_bound hg (a := a) (b := b) (by omega) C.hr0 k.toNat
      refine ⟨P11.inb k0 hk, _, cI, S11.inb k0 (by rw [List.length_map, List.length_range]; omega), _, cS, k_hiRatio _ _ (by omega) (by omega) (by omega) h11 _ fun h12 f12 => ⟨_, _, rfl, hL11.of_no f12, ?_⟩⟩
      refine uop_rat (L := [(b1, [g.v])]) (F := fun q => h7.size ≤ q) (o11.no f12) (i := (((inn xss.length a b)[k.toNat]'hk' : Nat) : Int)) (by omega) (by rw [fillQ_len]; omega) (hL11.of_no f12) off7 _ fun h13 o13 f13 V13 => ?_
      rw [P11.succ k0 hk]
      refine ⟨m3 - 1, by omega, by omega, by omega, ?_, f11.trans (f12.of_no.trans f13)⟩
      rw [show (k + 1).toNat = k.toNat + 1 by omega, hstk]
      simp only [Int.toNat_natCast] at o13
      exact o13
    · have hk := P11.ge e3
      rw [show k.toNat = (inn xss.length a b).length by omega, fillQ_all (by omega)] at o11
      exact HK u h11 (RdQ.low o11.rdF) ((f03.no_trans (f7.no_trans f8)).fresh f11 fun q hq => by have := f03.size; omega)
theorem row_put2 {L : List (Nat × List Value)} {F : Nat -> Prop} {h : Heap} {s si : Sl} {xss : List (List Int)} {i : Int} (A : Heap -> Prop) (hA : ∀ h', Fr F h h' -> A h') (O : OwX h F s xss) (hF : ∀ k, h.size ≤ k -> F k) (h0 : 0 ≤ i) (h1 : i < (xss.length : Int)) (c0 : hcell h (s.at i 1) = some si.v) (hL : Vars h L) (hoff : ∀ p, p ∈ L -> ¬ F p.1) (hb : (xss[i.toNat]'(by omega)).length ≤ 1000000) (x : Int) (R : Heap -> Prop) (HR : ∀ h', OwX h' F s (xss.set i.toNat (xss[i.toNat]'(by omega) ++ [x])) -> Fr F h h' -> Vars h' L -> R h') : eop Try.prog (Instr.buildSlice tIs 1 #[(0, VI x)]) h fun rv h1 => ∃ t : Sl, rv = t.v /\ Vars h1 L /\ hcell h1 (s.at i 1) = some si.v /\ A h1 /\ A h1 /\ eop Try.prog (appS tIs tIs tIs si.v t.v) h1 fun rv2 h2 => ∃ t2 : Sl, rv2 = t2.v /\ Vars h2 L /\ A h2 /\ A h2 /\ InB s i /\ Writable h2 (s.at i 1) /\ Vars (hset h2 (s.at i 1) t2.v) L /\ ∀ h3, h3 = hset h2 (s.at i 1) t2.v -> Vars h3 L -> R h3 := by
  have Oi : OwX h (fun k => F k /\ k < h.size) s xss := O.mono fun k hk hk2 => ⟨hk2, hk⟩
  obtain ⟨sj, c1, c2, _⟩ := Oi.inner h0 h1
  have : sj = si := slv_inj (c1.symm.trans c0)
  subst this
  refine eop_lit rIs (fun k => h.size ≤ k) (fun _ h => h) 1 (by omega) [VI x] rfl rfl fun t h9 n9 c9 o9 f9 m9 _ => ⟨t, rfl, hL.of_no f9, hcell_fr c1 f9 (fun h => h), hA _ f9.of_no, hA _ f9.of_no, ?_⟩
  have s9 := f9.size
  have O9 := OwR.no Oi f9
  have c2' : OwI h9 F sj (xss[i.toNat]'(by omega)) := (Ow.no c2 f9).mono fun k _ hk => hk.1
  have on := c2'.rd.len
  have tn := o9.rd.len
  simp only [List.length_map, Nat.mul_one, List.length_cons, List.length_nil] at on tn
  refine eop_append rIs c2' (fun k hk => hF k (by omega)) o9.rd (plainVI [x]) (by omega) fun w h10 n10 o10 f10 d10 => ?_
  have g10 : Fr F h9 h10 := f10.mono fun k _ hk => (c2'.foot hk).1
  have V10 : Vars h10 L := (hL.of_no f9).fr g10 hoff
  have o10' : OwI h10 F w (xss[i.toNat]'(by omega) ++ [x]) := by rw [OwI, List.map_append]; exact o10
  obtain ⟨i11, w11, o11, f11⟩ := O9.outer2 h0 h1 (hcell_fr c1 f9 fun h => h) f10 (F' := F) o10' (fun k _ hk => hk.1) fun k hk => (d10 k hk).imp id fun hk2 hk3 => by have := hk3.2; omega
  have g11 : Fr F h10 _ := (O9.ownF f11).mono fun k _ hk => hk.1
  have V11 := V10.fr g11 hoff
  have a10 := hA _ (f9.of_no.trans g10)
  exact ⟨w, rfl, V10, a10, a10, i11, w11, V11, fun h3 e3 V3 => HR h3 (by rw [e3]; exact o11) (by rw [e3]; exact (f9.of_no.trans g10).trans g11) V3⟩
theorem RdR.tl {S : Nat -> Prop} {h : Heap} {s : Sl} {xss : List (List Int)} (H : RdR S h s xss) (h1 : 1 ≤ xss.length) : RdR S h (s.cut 1 1 s.n s.c) xss.tail := by
  obtain ⟨ss, e, V, R⟩ := H.out
  have sn := V.len
  simp only [List.length_map, Nat.mul_one] at sn
  have hc := RdV.cut V (l := 1) (m := s.n) (by omega) (Nat.le_refl _)
  have e2 : ((ss.map Sl.v).drop (1 * 1)).take ((s.n - 1) * 1) = ss.tail.map Sl.v := by
    cases ss with
    | nil => simp
    | cons x ss =>
      simp only [List.length_cons] at sn
      rw [show s.n - 1 = ss.length by omega]; simp [List.take_of_length_le]
  rw [e2] at hc
  refine ⟨ss.tail, by simp [e], hc, fun i a b => ?_⟩
  have := R (i + 1) (by simp at a; omega) (by simp at b; omega)
  simpa using this
theorem cycL_rows (n : Int) (both : Bool) : ∀ p r, r ∈ cycL' n both p -> r.length ≤ 2
  | 0, r, h => by cases h
  | p + 1, r, h => by
    rw [cycL', List.mem_append] at h
    rcases h with h | h
    · exact cycL_rows n both p r h
    · simp only [List.mem_cons, List.not_mem_nil, or_false] at h
      subst h
      unfold cycR
      cases both <;> simp
theorem rows_set {xss : List (List Int)} {B : Nat} (H : ∀ r, r ∈ xss -> r.length ≤ B) (i : Nat) (hi : i < xss.length) (x : Int) : ∀ r, r ∈ xss.set i (xss[i] ++ [x]) -> r.length ≤ B + 1 := fun r hr => by
  rcases List.mem_or_eq_of_mem_set hr with h | h
  · exact Nat.le_succ_of_le (H r h)
  · subst h
    have := H _ (List.getElem_mem hi)
    simp
    omega
theorem k_drbalanced {a n b : Nat} {h : Heap} {c : Sl} {i sd : Int} (V : IsVar h b [c.v, VI i, .int .u64 sd]) (hb : a ≤ b) (D : CurD a n h c i) (hn : n ≤ 1000000) (K : Value -> Heap -> Prop) (HK : ∀ (t : Sl) (gs : List (List Int)) (i' sd' : Int) h', gs.length ≤ 9 -> RdR (fun k => h.size ≤ k) h' t gs -> IsVar h' b [c.v, VI i', .int .u64 sd'] -> CurD a (n + 500) h' c i' -> Fr (In [b]) h h' -> K (.agg #[t.v]) h') : callM Try.prog 109 #[VP b 0] h K := by
  have lb := V.lt
  refine v109 b c i sd h K (.cons V (by simp) .nil) fun b2 h1 hb2 f1 hL1 => ?_
  have f1 := f1.in_nil
  have z1 := f1.size
  have l2 : b2 < h1.size := hL1.head.lt
  have fin : ∀ (h' : Heap), Fr (fun k => k = b ∨ h.size ≤ k) h h' -> Fr (In [b]) h h' := fun h' f => f.mono fun k hk hk2 => by
    rcases hk2 with e | e
    · simp [In, e]
    · omega
  have inb : ∀ {x y : Heap}, Fr (In [b]) x y -> Fr (fun k => k = b ∨ h.size ≤ k) x y := fun f => f.mono fun k _ hk => .inl (by simpa [In] using hk)
  refine k_one hL1.tail.head hb (D.no f1) (by omega) 6 _ fun q i2 sd2 h2 V2 D2 f2 => ⟨c, i2, sd2, q, rfl, vcur hL1 1 rfl f2 V2, fun _ => ?_, fun _ => ?_⟩
  · have hL2 := vcur hL1 1 rfl f2 V2
    have z2 := f2.size
    refine k_drgraph9 hL2.tail.head hb D2 (by omega) _ fun t gs i3 sd3 h3 gl G3 V3 D3 f3 => ⟨c, i3, sd3, t, rfl, vcur hL2 1 rfl f3 V3, fun h4 f4 hL4 => ?_⟩
    have g4 : Fr (fun k => k = b ∨ h.size ≤ k) h3 h4 := f4.mono fun k _ hk => .inr (by simp [In] at hk; omega)
    exact HK t gs i3 sd3 h4 gl ((G3.fr f4 fun k hk hk2 => by simp [In] at hk2; omega).mono fun k hk => by omega) hL4.tail.head ((D3.fr f4 fun k hk hk2 => by simp [In] at hk2; omega).up (by omega)) (fin _ (((f1.of_no.trans (inb f2)).trans (inb f3)).trans g4))
  have hL2 := vcur hL1 1 rfl f2 V2
  have z2 := f2.size
  refine k_pick hL2.tail.head hb D2 (by omega) 5 _ fun y i5 sd5 h5 y0 y1 V5 D5 f5 => ⟨c, i5, sd5, y, rfl, vcur hL2 1 rfl f5 V5, ?_⟩
  have y1 := y1 (by omega)
  have hL5 := vcur hL2 1 rfl f5 V5
  have z5 := f5.size
  refine k_one hL5.tail.head hb D5 (by omega) 2 _ fun q2 i6 sd6 h6 V6 D6 f6 => ⟨c, i6, sd6, q2, rfl, vcur hL5 1 rfl f6 V6, ?_⟩
  have hL6 := vcur hL5 1 rfl f6 V6
  have z6 := f6.size
  rw [w64_eq (1 + y) (by omega) (by omega)]
  obtain ⟨N, eN⟩ : ∃ N : Nat, 1 + y = (N : Int) := ⟨(1 + y).toNat, by omega⟩
  rw [eN]
  refine k_grCycle N (by omega) q2 _ fun t h7 o7 f7 => ⟨t, rfl, hL6.of_no f7, fun b3 h9 hb3 f9 hL9 => ?_⟩
  have f9 := f9.in_nil
  have z7 := f7.size
  have z9 := f9.size
  have l3 : b3 < h9.size := hL9.head.lt
  generalize hF : (fun k => (h6.size ≤ k /\ k < h7.size) ∨ h9.size ≤ k) = F
  have F1 : ∀ k, F k -> h6.size ≤ k := fun k hk => by rw [← hF] at hk; rcases hk with a | a <;> omega
  have F2 : ∀ k, h9.size ≤ k -> F k := fun k hk => by rw [← hF]; exact .inr hk
  have F3 : ¬ F b3 := fun hk => by rw [← hF] at hk; rcases hk with a | a <;> omega
  have o9 : OwX h9 F t (cycP N q2) := (OwR.no o7 f9).mono fun k hk hk2 => by rw [← hF]; exact .inl hk2
  have gb : ∀ {X Y : Heap} {w : Sl} {zs : List (List Int)}, OwX X F w zs -> Fr (In [b]) X Y -> OwX Y F w zs := fun O f => OwR.fr O f fun k hk hk2 hk3 => by simp [In] at hk3; have := F1 _ hk2; omega
  have fT : ∀ {x y : Heap}, Fr F x y -> Fr (fun k => k = b ∨ h.size ≤ k) x y := fun f => f.mono fun k _ hk => .inr (by have := F1 _ hk; omega)
  have f09 : Fr (fun k => k = b ∨ h.size ≤ k) h h9 := (((f1.of_no.trans (inb f2)).trans (inb f5)).trans (inb f6)).trans (f7.of_no.trans f9.of_no)
  refine k_pick hL9.tail.tail.head hb ((D6.no f7).no f9) (by omega) 3 _ fun k i10 sd10 h10 k0 k1 V10 D10 f10 => ⟨c, i10, sd10, k, rfl, vcur hL9 2 rfl f10 V10, ?_⟩
  have k1 := k1 (by omega)
  have z10 := f10.size
  refine ⟨fun m k d i' sd' h' => d = c /\ m = k.toNat /\ 0 ≤ k /\ k ≤ 2 /\ CurD a (n + 50 + 210 * (2 - k).toNat) h' c i' /\ (∃ xss, OwX h' F t xss /\ xss.length = N /\ ∀ r, r ∈ xss -> r.length ≤ 2 + 5 * (2 - k).toNat) /\ Fr (fun k => k = b ∨ h.size ≤ k) h h' /\ h9.size ≤ h'.size, ⟨k.toNat, rfl, rfl, k0, by omega, D10.up (by omega), ⟨_, gb o9 f10, cycL_length _ _ _, fun r hr => by have := cycL_rows _ _ _ r hr; omega⟩, f09.trans (inb f10), by omega⟩, ?_⟩
  rintro m k d i11 sd11 h11 ⟨rfl, em, kk0, k2, D11, ⟨xss, o11, e11, r11⟩, f11, z11⟩ hL11
  refine ⟨fun e => ?_, fun e h18 f18 hL18 => ?_⟩
  · simp only [decide_eq_true_eq] at e
    refine k_shufB hL11.tail.tail.head hb D11 (by omega) (m := N) (by omega) _ fun w os i12 sd12 h12 O12 e12 A12 V12 D12 f12 => ⟨d, i12, sd12, w, rfl, vcur hL11 2 rfl f12 V12, ?_⟩
    have hL12 := vcur hL11 2 rfl f12 V12
    have z12 := f12.size
    refine k_pick hL12.tail.tail.head hb D12 (by omega) N _ fun y3 i13 sd13 h13 u0 u1 V13 D13 f13 => ⟨d, i13, sd13, y3, rfl, vcur hL12 2 rfl f13 V13, ?_⟩
    have u1 := u1 (by omega)
    have hL13 := vcur hL12 2 rfl f13 V13
    have z13 := f13.size
    have W13 : RdI (fun k => h11.size ≤ k /\ k < h13.size) h13 w os := by
      have : OwI h13 (fun k => h11.size ≤ k) w os := Ow.fr O12 f13 fun k hk hk2 => by have := (O12.foot hk).1; simp [In] at hk2; omega
      exact (this.mono (F' := fun k => h11.size ≤ k /\ k < h13.size) fun k hk hk2 => ⟨hk2, (this.foot hk).2⟩).rdF
    have o13 : OwX h13 F t xss := gb (gb o11 f12) f13
    have sep : ∀ k, F k /\ k < h11.size ∨ h13.size ≤ k -> F k := fun k hk => by
      rcases hk with hk | hk
      · exact hk.1
      · exact F2 _ (by omega)
    have o13' : OwX h13 (fun k => F k /\ k < h11.size ∨ h13.size ≤ k) t xss := by
      have q1 : OwX h11 (fun k => F k /\ k < h11.size) t xss := o11.mono fun k hk hk2 => ⟨hk2, hk⟩
      have q2 : OwX h12 (fun k => F k /\ k < h11.size) t xss := OwR.fr q1 f12 fun k hk hk2 hk3 => by simp [In] at hk3; have := F1 _ hk2.1; omega
      have q3 : OwX h13 (fun k => F k /\ k < h11.size) t xss := OwR.fr q2 f13 fun k hk hk2 hk3 => by simp [In] at hk3; have := F1 _ hk2.1; omega
      exact q3.mono fun k hk hk2 => .inl hk2
    rw [w64_eq (1 + y3) (by omega) (by omega)]
    refine ⟨fun m2 j h' => 0 ≤ j /\ j ≤ 1 + y3 /\ m2 = (1 + y3 - j).toNat /\ CurD a (n + 50 + 210 * (2 - k).toNat + 202) h' d i13 /\ RdI (fun k => h11.size ≤ k /\ k < h13.size) h' w os /\ (∃ zss, OwX h' (fun k => F k /\ k < h11.size ∨ h13.size ≤ k) t zss /\ zss.length = N /\ ∀ r, r ∈ zss -> r.length ≤ 2 + 5 * (2 - k).toNat + j.toNat) /\ Fr (fun k => k = b ∨ h.size ≤ k) h h' /\ h13.size ≤ h'.size, ⟨(1 + y3).toNat, by omega, by omega, by omega, D13.up (by omega), W13, ⟨xss, o13', e11, fun r hr => by have := r11 r hr; omega⟩, (f11.trans (inb f12)).trans (inb f13), by omega⟩, ?_⟩
    rintro m2 j h14 ⟨j0, j1, em2, D14, W14, ⟨zss, o14, e14, r14⟩, f14, z14⟩ hL14
    refine ⟨fun e2 => ?_, fun e2 => ?_⟩
    · simp only [decide_eq_true_eq] at e2
      rw [w64_eq (j + 1) (by omega) (by omega)]
      have mo0 : 0 ≤ (j + 1).tmod (1 + y3) := Int.tmod_nonneg _ (by omega)
      have mo1 : (j + 1).tmod (1 + y3) < 1 + y3 := Int.tmod_lt_of_pos _ (by omega)
      have aj := A12.get (show j.toNat < os.length by omega)
      generalize hpj : (os[j.toNat]'(by omega)) = pj at aj
      obtain ⟨aj0, aj1⟩ := aj
      have cj : hcell h14 (w.at j 1) = some (VI pj) := by rw [W14.get j0 (by omega), hpj]
      obtain ⟨si, c1, _⟩ := OwR.inner o14 aj0 (show pj < (zss.length : Int) by omega)
      have r14' := OwR.rd o14
      refine ⟨W14.inb j0 (by omega), pj, cj, W14.inb j0 (by omega), pj, cj, r14'.inb aj0 (by omega), si, c1, by omega, W14.inb mo0 (by omega), _, W14.get mo0 (by omega), ?_⟩
      have hin : ∀ h', Fr (fun k => F k /\ k < h11.size ∨ h13.size ≤ k) h14 h' -> RdI (fun k => h11.size ≤ k /\ k < h13.size) h' w os := fun h' f => W14.fr f fun k hk hk2 => by rcases hk2 with hk2 | hk2 <;> omega
      refine row_put2 (A := fun x => hcell x (w.at j 1) = some (VI pj)) (fun h' f => by rw [(hin h' f).get j0 (by omega), hpj]) o14 (fun k hk => .inr (by omega)) aj0 (by omega) c1 hL14 (fun p hp hk => ?_) (by have := r14 _ (List.getElem_mem (show pj.toNat < zss.length by omega)); omega) _ _ fun h17 o17 f17 V17 => ?_
      · have := sep _ hk
        simp only [List.mem_cons, List.not_mem_nil, or_false] at hp
        rcases hp with rfl | rfl | rfl
        · exact F3 this
        · have := F1 _ this; simp only at this; omega
        · have := F1 _ this; simp only at this; omega
      have z17 := f17.size
      refine ⟨m2 - 1, by omega, by omega, by omega, by omega, D14.fr f17 fun k hk hk2 => ?_, hin _ f17, ⟨_, o17, by simp [e14], fun r hr => ?_⟩, f14.trans (f17.mono fun k _ hk => .inr ?_), by omega⟩
      · have := F1 _ (sep _ hk2); omega
      · have := rows_set r14 _ (show pj.toNat < zss.length by omega) _ r hr
        omega
      · have := F1 _ (sep _ hk); omega
    · simp only [decide_eq_false_iff_not] at e2
      rw [w64_eq (k - 1) (by omega) (by omega)]
      exact ⟨m - 1, by omega, rfl, by omega, by omega, by omega, D14.up (by omega), ⟨zss, o14.mono fun k _ hk => sep k hk, e14, fun r hr => by have := r14 r hr; omega⟩, f14, by omega⟩
  · have g18 : Fr (fun k => k = b ∨ h.size ≤ k) h11 h18 := f18.mono fun k _ hk => .inr (by simp [In] at hk; omega)
    have o18 : OwX h18 F t xss := OwR.fr o11 f18 fun k hk hk2 hk3 => by simp [In] at hk3; subst hk3; have := F1 _ hk2; omega
    simp only [decide_eq_false_iff_not] at e
    exact HK t xss i11 sd11 h18 (by omega) ((OwR.rd o18).mono fun k hk => by have := F1 _ hk.1; omega) hL18.tail.tail.head ((D11.fr f18 fun k hk hk2 => by simp [In] at hk2; omega).up (by omega)) (fin _ (f11.trans g18))
theorem k_drgoals {a n b : Nat} {h : Heap} {c : Sl} {i sd : Int} (V : IsVar h b [c.v, VI i, .int .u64 sd]) (hb : a ≤ b) (D : CurD a n h c i) (hn : n ≤ 100000) (K : Value -> Heap -> Prop) (HK : ∀ (t : Sl) (gs : List (List Int)) (p q i' sd' : Int) h', gs.length ≤ 9 -> RdR (fun k => h.size ≤ k) h' t gs -> IsVar h' b [c.v, VI i', .int .u64 sd'] -> CurD a (n + 1000) h' c i' -> Fr (In [b]) h h' -> K (.tuple #[.agg #[t.v], VI p, VI q]) h') : callM Try.prog 57 #[VP b 0] h K := by
  have hbs := V.lt
  refine v57 b c i sd h K (.cons V (by simp) .nil) fun b2 h1 hb2 f1 hL1 => ?_
  have f1 := f1.in_nil
  have z1 := f1.size
  refine k_drgraph9 hL1.tail.head hb (D.no f1) (by omega) _ fun t gs i2 sd2 h2 hgl G2 V2 D2 f2 => ⟨c, i2, sd2, t, rfl, vcur hL1 1 rfl f2 V2, fun b3 h4 hb3 f4 hL4 => ?_⟩
  have f4 := f4.in_nil
  have z2 := f2.size
  have z4 := f4.size
  have e13 : Fr (In [b]) h h4 := (f1.of_no.trans f2).trans f4.of_no
  have up : ∀ {x y : Heap} {B : List Nat}, Fr (In [b]) h x -> Fr (In B) x y -> (∀ k, k ∈ B -> k = b ∨ h.size ≤ k) -> Fr (In [b]) h y := fun f g hB => ⟨Nat.le_trans f.size g.size, fun k hk hk2 => by
    rw [g.same k (by have := f.size; omega) fun hm => by
      rcases hB k hm with e | e
      · exact hk2 (by simp [In, e])
      · omega]
    exact f.same k hk hk2⟩
  refine ⟨fun x y j s h' => y = c /\ ∃ gs' : List (List Int), gs'.length ≤ 9 /\ RdR (fun k => h.size ≤ k /\ k ≠ b2 /\ k ≠ b3) h' x gs' /\ CurD a (n + 702) h' c j /\ Fr (In [b]) h h', ⟨?_, ?_⟩⟩
  · have G4 : RdR (fun k => h1.size ≤ k /\ k < h2.size) h4 t gs := (G2.lowS.mono fun k hk => hk).no f4
    have l2 := hL1.head.lt
    refine k_one hL4.tail.tail.head hb (D2.no f4) (by omega) 2 _ fun x i5 sd5 h5 V5 D5 f5 => ⟨c, i5, sd5, x, rfl, vcur hL4 2 rfl f5 V5, fun e => ?_, fun e => ?_⟩
    · have hL5 := vcur hL4 2 rfl f5 V5
      refine k_drbalanced hL5.tail.tail.head hb D5 (by omega) _ fun t' gs' i6 sd6 h6 hl' G6 V6 D6 f6 => ⟨c, i6, sd6, t', rfl, vcur hL5 2 rfl f6 V6, fun h7 f7 hL7 => ⟨rfl, gs', hl', ?_, ?_, ?_⟩⟩
      · have l3 := hL5.head.lt
        have z5 := f5.size
        exact (G6.fr f7 fun k hk hk2 => by simp only [In, List.mem_cons, List.not_mem_nil, or_false] at hk2; omega).mono fun k hk => ⟨by omega, by omega, by omega⟩
      · exact (D6.fr f7 fun k hk hk2 => by simp only [In, List.mem_cons, List.not_mem_nil, or_false] at hk2; omega).up (by omega)
      · exact up (up (up e13 f5 (by simp)) f6 (by simp)) f7 (by simp; omega)
    · refine ⟨rfl, gs, hgl, (G4.fr f5 fun k hk hk2 => ?_).mono fun k hk => ⟨by omega, by omega, by omega⟩, D5.up (by omega), up e13 f5 (by simp)⟩
      simp only [In, List.mem_cons, List.not_mem_nil, or_false] at hk2
      omega
  rintro x y j s h8 ⟨rfl, gs', hgl', G8, D8, f8⟩ hL8
  have l2 := hL8.tail.head.lt
  have l3 := hL8.head.lt
  have keep : ∀ {u v : Heap}, RdR (fun k => h.size ≤ k /\ k ≠ b2 /\ k ≠ b3) u x gs' -> Fr (In [b]) u v -> RdR (fun k => h.size ≤ k /\ k ≠ b2 /\ k ≠ b3) v x gs' := fun R f => R.fr f fun k hk hk2 => by
    simp only [In, List.mem_cons, List.not_mem_nil, or_false] at hk2
    omega
  refine k_drplace hL8.tail.tail.head hb D8 (by omega) x _ fun p i9 sd9 h9 V9 D9 f9 => ⟨y, i9, sd9, p, rfl, vcur hL8 2 rfl f9 V9, ?_⟩
  have hL9 := vcur hL8 2 rfl f9 V9
  refine k_drplace hL9.tail.tail.head hb D9 (by omega) x _ fun q i10 sd10 h10 V10 D10 f10 => ⟨y, i10, sd10, q, rfl, vcur hL9 2 rfl f10 V10, ?_⟩
  have hL10 := vcur hL9 2 rfl f10 V10
  have G10 := keep (keep G8 f9) f10
  have e10 := up (up f8 f9 (by simp)) f10 (by simp)
  refine ⟨fun q' y' j' s' h' => y' = y /\ RdR (fun k => h.size ≤ k /\ k ≠ b2 /\ k ≠ b3) h' x gs' /\ CurD a (n + 750) h' y j' /\ Fr (In [b]) h h', ⟨⟨fun e => ⟨fun e2 => ?_, fun _ => ⟨rfl, G10, D10.up (by omega), e10⟩⟩, fun _ => ⟨rfl, G10, D10.up (by omega), e10⟩⟩, ?_⟩⟩
  · simp only [decide_eq_true_eq] at e
    refine k_one hL10.tail.tail.head hb D10 (by omega) 8 _ fun z i11 sd11 h11 V11 D11 f11 => ⟨y, i11, sd11, z, rfl, vcur hL10 2 rfl f11 V11, fun _ => ⟨by omega, rfl, keep G10 f11, D11.up (by omega), up e10 f11 (by simp)⟩, fun _ => ⟨rfl, keep G10 f11, D11.up (by omega), up e10 f11 (by simp)⟩⟩
  rintro q' y' j' s' h12 ⟨rfl, G12, D12, e12⟩ hL12 h13 f13 hL13
  refine HK x gs' p q' j' s' h13 hgl' ((G12.fr f13 fun k hk hk2 => ?_).mono fun k hk => hk.1) hL13.tail.tail.head ((D12.fr f13 fun k hk hk2 => ?_).up (by omega)) (up e12 f13 (by simp; omega))
  · simp only [In, List.mem_cons, List.not_mem_nil, or_false] at hk2
    omega
  · simp only [In, List.mem_cons, List.not_mem_nil, or_false] at hk2
    omega
theorem k_DrawChancesOf {S : Nat -> Prop} {h : Heap} {code : Sl} {vs : List Value} (C : RdV S h 1 code vs) (B : ∀ v, v ∈ vs -> ∃ m : Int, v = Value.int .u8 m /\ 0 ≤ m /\ m ≤ 255) (K : Value -> Heap -> Prop) (HK : ∀ (t : Sl) (gs : List (List Int)) (p q : Int) h', gs.length ≤ 9 -> RdR (fun k => h.size ≤ k) h' t gs -> Fr No h h' -> K (.tuple #[.agg #[t.v], VI p, VI q]) h') : callM Try.prog 7 #[code.v] h K := by
  refine v7 code h K fun b1 b2 h2 hb1 hb2 f2 hL2 => ?_
  have f2 := f2.in_nil
  have z2 := f2.size
  have l2 : b2 < h2.size := hL2.head.lt
  have l1 : b1 < h2.size := hL2.tail.head.lt
  have D2 : CurD h.size 0 h2 code 0 := ⟨⟨vs, ((RdV.lt C).mono fun k hk => hk.2).no f2, B⟩, by omega, by omega⟩
  refine k_drgoals hL2.head hb2 D2 (by omega) _ fun t gs p q i3 sd3 h3 hgl G3 V3 D3 f3 => ⟨code, i3, sd3, t, p, q, rfl, vcur hL2 0 rfl f3 V3, fun h4 f4 hL4 => ?_⟩
  refine HK t gs p q h4 hgl ((G3.fr f4 fun k hk hk2 => ?_).mono fun k hk => by omega) ?_
  · simp only [In, List.mem_cons, List.not_mem_nil, or_false] at hk2
    omega
  · exact (f2.fresh f3 fun k hk => by simp only [In, List.mem_cons, List.not_mem_nil, or_false] at hk; omega).fresh f4 fun k hk => by simp only [In, List.mem_cons, List.not_mem_nil, or_false] at hk; omega
theorem rat_und : Try.prog.underlying tR = some (.struct (Try.prog.fieldsOf tR)) := by kernel_rfl
theorem rat_held : Try.prog.stoodInHeld tR = false := by kernel_rfl
theorem rat_flds : ((Try.prog.fieldsOf tR).toList.map fun f => (f.name != "_", f.type, f.offset)) = [(true, tI, 0), (true, tI, 1)] := by kernel_rfl
theorem int_one : oneC Try.prog tI = true := by kernel_rfl
theorem int_und : Try.prog.underlying tI = some (.int .i64) := by kernel_rfl
theorem run_partI {P : Program} {t : TypeId} (ht : oneC P t = true) {cs : Array Value} {o : Nat} {v : Value} (hv : cs[o]? = some v) (w : World) : (part t cs o).run P w = .ok v w := by
  unfold part
  rw [run_bind_ok (oneC_spec ht w).1]
  simp only [Bool.false_eq_true, if_false, hv]
  rfl
theorem run_eqI {P : Program} {t : TypeId} (ht : P.underlying t = some (.int .i64)) (d : Nat) (a b : Int) (w : World) : (Op.equalIn (d + 1) t (VI a) (VI b)).run P w = .ok (decide (a = b)) w := by
  unfold Op.equalIn
  have e : (a == b) = decide (a = b) := by rw [Bool.eq_iff_iff]; simp
  rw [run_bind_ok (run_underlying' ht w)]
  simp only [if_true, e]
  rfl
theorem run_eqF {P : Program} {d : Nat} {xs ys : Array Value} {f : Field} {fs : List Field} (hn : (f.name != "_") = true) (ho : oneC P f.type = true) (hi : P.underlying f.type = some (.int .i64)) {a b : Int} (ha : xs[f.offset]? = some (VI a)) (hb : ys[f.offset]? = some (VI b)) (w : World) : (Op.eqFields (d + 1) xs ys (f :: fs)).run P w = (if a = b then (Op.eqFields (d + 1) xs ys fs).run P w else .ok false w) := by
  rw [Op.eqFields, if_pos (by simpa using hn), run_bind_ok (run_partI ho ha w), run_bind_ok (run_partI ho hb w), run_bind_ok (run_eqI hi d a b w)]
  by_cases e : a = b
  · rw [if_pos e, decide_eq_true e]; rfl
  · rw [if_neg e, decide_eq_false e]; rfl
theorem map_two {α β : Type} {f : α -> β} {l : List α} {x y : β} (h : l.map f = [x, y]) : ∃ a b, l = [a, b] /\ f a = x /\ f b = y := by
  cases l with
  | nil => simp at h
  | cons a l =>
    cases l with
    | nil => simp at h
    | cons b l =>
      simp only [List.map_cons, List.cons.injEq, List.map_eq_nil_iff] at h
      exact ⟨a, b, by rw [h.2.2], h.1, h.2.1⟩
theorem run_rat (d : Nat) (w : World) (a b c e : Int) : (Op.equalIn (d + 2) tR (Value.agg #[VI a, VI b]) (Value.agg #[VI c, VI e])).run Try.prog w = .ok (decide ((a, b) = (c, e))) w := by
  rw [run_equalIn_struct w (d + 1) tR _ _ rat_und rat_held]
  obtain ⟨f0, f1, hl, h0, h1⟩ := map_two rat_flds
  rw [hl]
  simp only [Prod.mk.injEq] at h0 h1
  obtain ⟨n0, t0, q0⟩ := h0
  obtain ⟨n1, t1, q1⟩ := h1
  (
    rw [run_eqF n0 (by rw [t0]; exact int_one) (by rw [t0]; exact int_und) (a := a) (b := c) (by rw [q0]; rfl) (by rw [q0]; rfl), run_eqF n1 (by rw [t1]; exact int_one) (by rw [t1]; exact int_und) (a := b) (b := e) (by rw [q1]; rfl) (by rw [q1]; rfl)]
    by_cases h1 : a = c
    · by_cases h2 : b = e
      · rw [if_pos h1, if_pos h2, decide_eq_true (by rw [h1, h2])]; rfl
      · rw [if_pos h1, if_neg h2, decide_eq_false fun h => h2 (congrArg Prod.snd h)]
    · rw [if_neg h1, decide_eq_false fun h => h1 (congrArg Prod.fst h)])
theorem run_guardA {P : Program} {t : TypeId} {op : BinOp} {p q : Array Value} (hg : P.eqGuardType P.depth t = false) (x y : Operand) (w : World) : (eqGuard op t x y (.agg p) (.agg q)).run P w = .ok () w := by
  unfold eqGuard
  cases op <;> simp [program, hg, bind, Sem.bind, pure, Sem.run]
theorem pop_aggne {P : Program} {t : TypeId} {p q : Array Value} {r : Bool} (hg : P.eqGuardType P.depth t = false) (hr : ∀ w, (Op.equal t (.agg p) (.agg q)).run P w = .ok r w) (x y : Operand) {K : Value -> Prop} (H : K (.bool (!r))) : pop P (binE .neq t x y (.agg p) (.agg q)) K :=
  .mk' (fun w => by
    unfold binE
    rw [run_bind_ok (run_guardA hg x y w)]
    show Sem.run P (Sem.bind (Op.equal t (.agg p) (.agg q)) _) w = _
    rw [Sem.run_bind', hr]
    rfl) H
theorem pop_aggeq {P : Program} {t : TypeId} {p q : Array Value} {r : Bool} (hg : P.eqGuardType P.depth t = false) (hr : ∀ w, (Op.equal t (.agg p) (.agg q)).run P w = .ok r w) (x y : Operand) {K : Value -> Prop} (H : K (.bool r)) : pop P (binE .eql t x y (.agg p) (.agg q)) K :=
  .mk' (fun w => by
    unfold binE
    rw [run_bind_ok (run_guardA hg x y w)]
    show Sem.run P (Sem.bind (Op.equal t (.agg p) (.agg q)) _) w = _
    rw [Sem.run_bind', hr]
    rfl) H
theorem rat_guard : Try.prog.eqGuardType Try.prog.depth tR = false := by kernel_rfl
theorem pop_rne (x y : Operand) (a b c d : Int) {K : Value -> Prop} (H : K (.bool (!decide ((a, b) = (c, d))))) : pop Try.prog (binE .neq tR x y (Value.agg #[VI a, VI b]) (Value.agg #[VI c, VI d])) K := pop_aggne rat_guard (fun w => run_rat 9998 w a b c d) x y H
theorem pop_req (x y : Operand) (a b c d : Int) {K : Value -> Prop} (H : K (.bool (decide ((a, b) = (c, d))))) : pop Try.prog (binE .eql tR x y (Value.agg #[VI a, VI b]) (Value.agg #[VI c, VI d])) K := pop_aggeq rat_guard (fun w => run_rat 9998 w a b c d) x y H
theorem mulB {a b A B : Int} (a0 : 0 ≤ a) (a1 : a ≤ A) (b0 : 0 ≤ b) (b1 : b ≤ B) : 0 ≤ a * b /\ a * b ≤ A * B := ⟨Int.mul_nonneg a0 b0, Int.mul_le_mul a1 b1 b0 (Int.le_trans a0 a1)⟩
theorem ratP_nonneg {x d : Int} (h : 0 < d) (hx : 0 ≤ x) : 0 ≤ (ratP x d).1 := by
  have hg := gcd_pos (x := x) h
  exact Int.ediv_nonneg hx (by omega)
theorem sumX_snoc (f : Int -> Int) (x : Int) : ∀ l : List Int, sumX f (l ++ [x]) = sumX f l + f x
  | [] => by rw [List.nil_append, sumX_cons, sumX_nil]; omega
  | y :: l => by rw [List.cons_append, sumX_cons, sumX_cons, sumX_snoc f x l]; omega
def potR (ex : List Int) (f : Int -> Int) (u : Int) : Nat -> Int
  | 0 => 0
  | k + 1 => potR ex f u k + (u - f (ex.getD (k + 1) 0))
theorem take_snocD {l : List Int} {k : Nat} (h : k < l.length) : l.take (k + 1) = l.take k ++ [l.getD k 0] := by rw [List.take_succ_eq_append_getElem h, getD_getI h]
theorem pot_sum {ex : List Int} (f : Int -> Int) (u : Int) : ∀ k, k < ex.length -> potR ex f u k + (u - f (ex.getD 0 0)) = (k + 1 : Int) * u - sumX f (ex.take (k + 1))
  | 0, h => by
    rw [take_snocD h, List.take_zero, List.nil_append, sumX_cons, sumX_nil, potR]
    omega
  | k + 1, h => by
    have ih := pot_sum (ex := ex) f u k (by omega)
    rw [take_snocD h, sumX_snoc, potR]
    rw [show ((k + 1 : Nat) : Int) + 1 = (k : Int) + 1 + 1 by omega, Int.add_mul ((k : Int) + 1), Int.one_mul]
    omega
theorem pot_turn {ex : List Int} (f : Int -> Int) (u : Int) (h : ex.length ≠ 0) (hb : (ex.length : Int) * u = sumX f ex) {k : Nat} (hk : k < ex.length) : potR ex f u ((k + 1) % ex.length) = potR ex f u k + (u - f (ex.getD ((k + 1) % ex.length) 0)) := by
  by_cases e : k + 1 < ex.length
  · rw [Nat.mod_eq_of_lt e]
    rfl
  · have e2 : k + 1 = ex.length := by omega
    rw [e2, Nat.mod_self]
    have := pot_sum (ex := ex) f u k hk
    rw [e2, List.take_length, ← hb, show (k : Int) + 1 = (ex.length : Int) by omega] at this
    show 0 = _
    omega
theorem pot_abs {ex : List Int} {f : Int -> Int} {u M : Int} (hM : 0 ≤ M) (h : ∀ x, x ∈ ex -> -M ≤ u - f x /\ u - f x ≤ M) : ∀ k, k < ex.length -> -((k : Int) * M) ≤ potR ex f u k /\ potR ex f u k ≤ (k : Int) * M
  | 0, _ => by rw [potR]; simp
  | k + 1, hk => by
    have ih := pot_abs hM h k (by omega)
    have := h (ex.getD (k + 1) 0) (by rw [getD_getI hk]; exact List.getElem_mem _)
    rw [potR, show ((k + 1 : Nat) : Int) = (k : Int) + 1 by omega, Int.add_mul, Int.one_mul]
    omega
def absX (f : Int -> Int) (u : Int) (l : List Int) : Int := sumX (fun x => ((u - f x).natAbs : Int)) l
theorem absX_nonneg (f : Int -> Int) (u : Int) : ∀ l, 0 ≤ absX f u l
  | [] => Int.le_refl _
  | x :: l => by
    have := absX_nonneg f u l
    unfold absX at *
    rw [sumX_cons]
    omega
theorem pot_diff {ex : List Int} (f : Int -> Int) (u : Int) : ∀ k d, k + d < ex.length -> (potR ex f u (k + d) - potR ex f u k).natAbs ≤ absX f u (ex.take (k + d + 1)) - absX f u (ex.take (k + 1))
  | k, 0, h => by rw [Nat.add_zero]; omega
  | k, d + 1, h => by
    have ih := pot_diff (ex := ex) f u k d (by omega)
    rw [show k + (d + 1) = k + d + 1 by omega, potR, take_snocD (k := k + d + 1) (by omega)]
    have : absX f u (ex.take (k + d + 1) ++ [ex.getD (k + d + 1) 0]) = absX f u (ex.take (k + d + 1)) + (u - f (ex.getD (k + d + 1) 0)).natAbs := by unfold absX; rw [sumX_snoc]
    rw [this]
    omega
theorem absX_take (f : Int -> Int) (u : Int) : ∀ (l : List Int) (k : Nat), absX f u (l.take k) ≤ absX f u l
  | [], k => by rw [List.take_nil]; exact Int.le_refl _
  | x :: l, 0 => by rw [List.take_zero]; exact absX_nonneg f u _
  | x :: l, k + 1 => by
    have := absX_take f u l k
    unfold absX at *
    rw [List.take_succ_cons, sumX_cons, sumX_cons]
    omega
theorem pot_two {ex : List Int} (f : Int -> Int) (u : Int) {i j : Nat} (hi : i < ex.length) (hj : j < ex.length) : potR ex f u i - potR ex f u j ≤ absX f u ex /\ potR ex f u j - potR ex f u i ≤ absX f u ex := by
  have key : ∀ a b : Nat, a ≤ b -> b < ex.length -> (potR ex f u b - potR ex f u a).natAbs ≤ absX f u ex := fun a b hab hb => by
    have h1 := pot_diff (ex := ex) f u a (b - a) (by omega)
    rw [show a + (b - a) = b by omega] at h1
    have h2 := absX_take f u ex (b + 1)
    have h3 := absX_nonneg f u (ex.take (a + 1))
    omega
  rcases Nat.le_total i j with h | h
  · have := key i j h hj; omega
  · have := key j i h hi; omega
def potS (g : List (List Int)) (a b : Int) (f : Int -> Int) (c : Int) (rs : List Int) : Int := sumZ (fun p => if innB a b p = true then potR (g.getD p []) f (f p - c) (rs.getD p 0).toNat else 0) g.length
theorem sumZ_at {f f' : Nat -> Int} {p : Nat} {d : Int} : ∀ {n : Nat}, p < n -> f' p = f p + d -> (∀ i, i < n -> i ≠ p -> f' i = f i) -> sumZ f' n = sumZ f n + d
  | n + 1, hp, h, ho => by
    rw [sumZ, sumZ]
    by_cases e : p = n
    · subst e
      rw [h, sumZ_congr (f := f') (f' := f) fun i hi => ho i (by omega) (by omega)]
      omega
    · rw [sumZ_at (show p < n by omega) h fun i hi hne => ho i (by omega) hne, ho n (by omega) fun e2 => e e2.symm]
      omega
theorem WOK.rotI {g : List (List Int)} {s : St} (W : WOK g s) {p : Nat} (hp : p < g.length) (hz : (g.getD p []).length ≠ 0) : (s.1.getD p 0).toNat < (g.getD p []).length := by
  have hr : p < s.1.length := by rw [W.len]; exact hp
  have := W.rot p hr hp
  rw [getD_get hp] at hz ⊢
  rw [getD_getI hr]
  omega
theorem set_getD {xs : List Int} {i j : Nat} {v : Int} (hi : i < xs.length) : (xs.set i v).getD j 0 = if j = i then v else xs.getD j 0 := by
  rw [List.getD_eq_getElem?_getD, List.getElem?_set, List.getD_eq_getElem?_getD]
  by_cases h : i = j
  · subst h; rw [if_pos rfl, if_pos hi, if_pos rfl]; rfl
  · rw [if_neg h, if_neg fun e => h e.symm]
theorem Can.pot_step {g : List (List Int)} {a b : Int} (C : Can g a b) {f : Int -> Int} {c : Int} (hb : ∀ p : Nat, p < g.length -> (p : Int) ≠ a -> (p : Int) ≠ b -> ((g.getD p []).length : Int) * f p = sumX f (g.getD p []) + ((g.getD p []).length : Int) * c) {s : St} (W : WOK g s) (pa : s.2 ≠ a) (pb : s.2 ≠ b) : ∃ s', stepP g s = some s' /\ WOK g s' /\ f s'.2 + potS g a b f c s'.1 = f s.2 + potS g a b f c s.1 - c := by
  have lo := W.lo
  have hi := W.hi
  have hp : s.2.toNat < g.length := by omega
  have hr : s.2.toNat < s.1.length := by rw [W.len]; exact hp
  have es : ((s.2.toNat : Nat) : Int) = s.2 := by omega
  have hz := C.out s.2.toNat hp (by omega) (by omega)
  have hk := W.rotI hp hz
  have hst : stepP g s = some (s.1.set s.2.toNat ((((s.1.getD s.2.toNat 0).toNat + 1) % (g.getD s.2.toNat []).length : Nat) : Int), (g.getD s.2.toNat []).getD (((s.1.getD s.2.toNat 0).toNat + 1) % (g.getD s.2.toNat []).length) 0) := by
    unfold stepP
    rw [if_neg hz]
  refine ⟨_, hst, W.step hst, ?_⟩
  have hbal := hb s.2.toNat hp (by omega) (by omega)
  rw [es] at hbal
  have ht := pot_turn (ex := g.getD s.2.toNat []) f (f s.2 - c) hz (by rw [Int.mul_sub, hbal]; omega) hk
  have hin : innB a b s.2.toNat = true := innB_t.2 ⟨by omega, by omega⟩
  have := sumZ_at (f := fun p => if innB a b p = true then potR (g.getD p []) f (f p - c) (s.1.getD p 0).toNat else 0) (f' := fun p => if innB a b p = true then potR (g.getD p []) f (f p - c) ((s.1.set s.2.toNat ((((s.1.getD s.2.toNat 0).toNat + 1) % (g.getD s.2.toNat []).length : Nat) : Int)).getD p 0).toNat else 0) (p := s.2.toNat) (d := f s.2 - c - f ((g.getD s.2.toNat []).getD (((s.1.getD s.2.toNat 0).toNat + 1) % (g.getD s.2.toNat []).length) 0)) hp (by
      (try simp only)
      rw [if_pos hin, if_pos hin, set_getD hr, if_pos rfl, Int.toNat_natCast, es, ht])
    (fun i _ hne => by (try simp only); rw [set_getD hr, if_neg hne])
  unfold potS
  rw [this]
  (try simp only)
  omega
def walkG (g : List (List Int)) (a b : Int) : Nat -> St -> St × Nat
  | 0, s => (s, 0)
  | k + 1, s => if s.2 = a ∨ s.2 = b then (s, 0) else match stepP g s with
    | none => (s, 0)
    | some s' => ((walkG g a b k s').1, (walkG g a b k s').2 + 1)
theorem walkG_swap (g : List (List Int)) (a b : Int) : ∀ (k : Nat) (s : St), walkG g b a k s = walkG g a b k s
  | 0, _ => rfl
  | k + 1, s => by
    rw [walkG, walkG]
    by_cases h : s.2 = a ∨ s.2 = b
    · rw [if_pos h, if_pos h.symm]
    · rw [if_neg h, if_neg fun e => h e.symm]
      cases stepP g s with
      | none => rfl
      | some s' => (try simp only); rw [walkG_swap g a b k s']
theorem walkG_at {g : List (List Int)} {a b : Int} {k : Nat} {s : St} (h : s.2 = a ∨ s.2 = b) : walkG g a b k s = (s, 0) := by
  cases k with
  | zero => rfl
  | succ k => rw [walkG, if_pos h]
theorem walkG_more {g : List (List Int)} {a b : Int} : ∀ (k d : Nat) (s : St), (walkG g a b k s).1.2 = a ∨ (walkG g a b k s).1.2 = b -> walkG g a b (k + d) s = walkG g a b k s
  | 0, d, s, h => by rw [walkG] at h ⊢; exact walkG_at h
  | k + 1, d, s, h => by
    rw [show k + 1 + d = k + d + 1 by omega, walkG, walkG]
    rw [walkG] at h
    by_cases e : s.2 = a ∨ s.2 = b
    · rw [if_pos e, if_pos e]
    · rw [if_neg e] at h
      rw [if_neg e, if_neg e]
      cases hs : stepP g s with
      | none => rfl
      | some s' =>
        rw [hs] at h
        (try simp only at h ⊢)
        rw [walkG_more k d s' h]
def lefN (g : List (List Int)) (a b : Int) (s : St) : Nat := (stN g a b s.2 + potS g a b (stN g a b) (hiD g a b) s.1 + 5000000000000).toNat
theorem Can.st_bal {g : List (List Int)} {a b : Int} (C : Can g a b) (p : Nat) (hp : p < g.length) (pa : (p : Int) ≠ a) (pb : (p : Int) ≠ b) : ((g.getD p []).length : Int) * stN g a b p = sumX (stN g a b) (g.getD p []) + ((g.getD p []).length : Int) * hiD g a b := C.st hp pa pb
theorem sumZ_rng {f : Nat -> Int} {M : Int} : ∀ {n : Nat}, (∀ i, i < n -> -M ≤ f i /\ f i ≤ M) -> -((n : Int) * M) ≤ sumZ f n /\ sumZ f n ≤ (n : Int) * M
  | 0, _ => by simp [sumZ]
  | n + 1, h => by
    have ih := sumZ_rng (n := n) fun i hi => h i (by omega)
    have := h n (by omega)
    rw [sumZ, show ((n + 1 : Nat) : Int) = (n : Int) + 1 by omega, Int.add_mul, Int.one_mul]
    omega
theorem Can.st_hi {g : List (List Int)} {a b : Int} (C : Can g a b) (q : Int) : (stN g a b q).natAbs ≤ 50400000000 := C.x_bound (own := oL g) (.inl rfl) (.inl rfl) C.hrL q
theorem Can.st_pot {g : List (List Int)} {a b : Int} (C : Can g a b) {s : St} (W : WOK g s) : -4500000000000 ≤ potS g a b (stN g a b) (hiD g a b) s.1 /\ potS g a b (stN g a b) (hiD g a b) s.1 ≤ 4500000000000 := by
  have gl := graph_len C.graph
  have hd := C.den
  have h := sumZ_rng (f := fun p => if innB a b p = true then potR (g.getD p []) (stN g a b) (stN g a b p - hiD g a b) (s.1.getD p 0).toNat else 0) (M := 504000000000) (n := g.length) fun p hp => by
    (try simp only)
    by_cases hi : innB a b p = true
    · rw [if_pos hi]
      have hz := C.out p hp (innB_t.1 hi).1 (innB_t.1 hi).2
      have hk := W.rotI hp hz
      have hl : (g.getD p []).length ≤ 5 := by rw [getD_get hp]; exact (graph_mem C.graph (List.getElem_mem hp)).1
      have h0 := C.st_rng hp
      have h1 := C.st_hi p
      have h2 := h0.2 (innB_t.1 hi).1 (innB_t.1 hi).2
      have := pot_abs (ex := g.getD p []) (f := stN g a b) (u := stN g a b p - hiD g a b) (M := 100800000000) (by omega) (fun x hx => by have := C.st_hi x; omega) _ hk
      have hm : (((s.1.getD p 0).toNat : Nat) : Int) * 100800000000 ≤ 4 * 100800000000 := Int.mul_le_mul_of_nonneg_right (by omega) (by omega)
      omega
    · rw [if_neg hi]
      omega
  have hm : (g.length : Int) * 504000000000 ≤ 8 * 504000000000 := Int.mul_le_mul_of_nonneg_right (by omega) (by omega)
  unfold potS
  omega
theorem Can.left {g : List (List Int)} {a b : Int} (C : Can g a b) {s : St} (W : WOK g s) (pa : s.2 ≠ a) (pb : s.2 ≠ b) : ∃ s', stepP g s = some s' /\ WOK g s' /\ lefN g a b s' < lefN g a b s := by
  obtain ⟨s', h1, W', h2⟩ := C.pot_step C.st_bal W pa pb
  refine ⟨s', h1, W', ?_⟩
  have p1 := C.st_pot W
  have p2 := C.st_pot W'
  have hd := C.den
  have s1 := C.st_hi s.2
  have s2 := C.st_hi s'.2
  unfold lefN
  omega
theorem Can.left_hi {g : List (List Int)} {a b : Int} (C : Can g a b) {s : St} (W : WOK g s) : lefN g a b s ≤ 10000000000000 := by
  have p1 := C.st_pot W
  have s1 := C.st_hi s.2
  unfold lefN
  omega
theorem Can.go {g : List (List Int)} {a b : Int} (C : Can g a b) : ∀ (k : Nat) {s : St}, WOK g s -> lefN g a b s ≤ k -> ((walkG g a b k s).1.2 = a ∨ (walkG g a b k s).1.2 = b) /\ WOK g (walkG g a b k s).1 /\ (walkG g a b k s).2 ≤ lefN g a b s /\ chN g a b (walkG g a b k s).1.2 + potS g a b (chN g a b) 0 (walkG g a b k s).1.1 = chN g a b s.2 + potS g a b (chN g a b) 0 s.1
  | k, s, W, h => by
    by_cases e : s.2 = a ∨ s.2 = b
    · rw [walkG_at e]
      exact ⟨e, W, Nat.zero_le _, rfl⟩
    · obtain ⟨s', hs, W', hl⟩ := C.left W (fun x => e (.inl x)) fun x => e (.inr x)
      obtain ⟨s2, hs2, _, hp⟩ := C.pot_step (f := chN g a b) (c := 0) (fun p hp pa pb => by rw [C.ch hp pa pb]; omega) W (fun x => e (.inl x)) fun x => e (.inr x)
      rw [hs] at hs2
      obtain rfl := Option.some.inj hs2
      match k, h with
      | 0, h => omega
      | k + 1, h =>
        obtain ⟨h1, h2, h3, h4⟩ := C.go k W' (by omega)
        rw [walkG, if_neg e, hs]
        (try simp only)
        exact ⟨h1, h2, by omega, by omega⟩
end Go.Proofs.Ytgiamamfnpklkaa
