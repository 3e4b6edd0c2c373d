/-
  What each function that the law 'FnTreesCounted' comes to does: the contracts.
-/
import Derived.Test.YtgiamamfnpklkaaTreesCountedK0
set_option linter.unusedVariables false
set_option linter.unusedSimpArgs false
namespace Go.Proofs.Ytgiamamfnpklkaa
open Go Go.Mx
/-! All choices of digits in their order: the next one turns the last digit that is not the greatest. -/
def Ch {α : Type} (f : α → Option α) : List α → Option α → Prop
  | [], _ => True
  | [x], e => f x = e
  | x :: y :: l, e => f x = some y ∧ Ch f (y :: l) e
theorem Ch.app {α : Type} {f : α → Option α} {y : α} {l2 : List α} {e : Option α} : ∀ {l1 : List α}, Ch f l1 (some y) → Ch f (y :: l2) e → Ch f (l1 ++ y :: l2) e
  | [], _, h => h
  | [x], h1, h2 => ⟨h1, h2⟩
  | x :: z :: l, h1, h2 => ⟨h1.1, Ch.app (l1 := z :: l) h1.2 h2⟩
theorem Ch.at {α : Type} {f : α → Option α} {e : Option α} : ∀ {pre post : List α} {x : α}, Ch f (pre ++ x :: post) e → f x = (match post with | [] => e | y :: _ => some y)
  | [], [], x, h => h
  | [], y :: post, x, h => h.1
  | [a], post, x, h => Ch.at (pre := []) h.2
  | a :: b :: pre, post, x, h => Ch.at (pre := b :: pre) h.2
theorem Ch.map {α β : Type} {f : α → Option α} {F : β → Option β} {g : α → β} {e : Option β} : ∀ {l : List α}, Ch f l none → (∀ x y, f x = some y → F (g x) = some (g y)) → (∀ x, f x = none → x ∈ l → F (g x) = e) → Ch F (l.map g) e
  | [], _, _, _ => trivial
  | [x], h, _, h2 => h2 x h (List.mem_singleton.2 rfl)
  | x :: y :: l, h, h1, h2 => ⟨h1 x y h.1, Ch.map (l := y :: l) h.2 h1 fun z hz hm => h2 z hz (List.mem_cons_of_mem _ hm)⟩
def zerL (ns : List Nat) : List Int := ns.map fun _ => 0
def nextD : List Nat → List Int → Option (List Int)
  | n :: ns, x :: l => match nextD ns l with
    | some l' => some (x :: l')
    | none => if x + 1 < (n : Int) then some ((x + 1) :: zerL ns) else none
  | _, _ => none
def seqI (a k : Nat) : List Int := (List.range' a k).map fun i : Nat => (i : Int)
theorem rngI_seq (n : Nat) : rngI n = seqI 0 n := by unfold rngI seqI; rw [List.range_eq_range']
theorem seqI_succ (a k : Nat) : seqI a (k + 1) = (a : Int) :: seqI (a + 1) k := by unfold seqI; rw [List.range'_succ, List.map_cons]
theorem prodL_head : ∀ ns : List Nat, (∀ n, n ∈ ns → 1 ≤ n) → ∃ t, prodL (ns.map rngI) = zerL ns :: t
  | [], _ => ⟨[], rfl⟩
  | n :: ns, h => by
    obtain ⟨t, ht⟩ := prodL_head ns fun m hm => h m (List.mem_cons_of_mem _ hm)
    obtain ⟨k, rfl⟩ : ∃ k, n = k + 1 := ⟨n - 1, by have := h n (List.mem_cons_self ..); omega⟩
    rw [List.map_cons, prodL, ht, rngI_seq, seqI_succ, List.flatMap_cons]
    exact ⟨_, rfl⟩
theorem chain_all : ∀ ns : List Nat, (∀ n, n ∈ ns → 1 ≤ n) → Ch (nextD ns) (prodL (ns.map rngI)) none
  | [], _ => rfl
  | n :: ns, h => by
    have h' : ∀ m, m ∈ ns → 1 ≤ m := fun m hm => h m (List.mem_cons_of_mem _ hm)
    have ih := chain_all ns h'
    obtain ⟨t, ht⟩ := prodL_head ns h'
    have blk : ∀ x : Int, Ch (nextD (n :: ns)) ((prodL (ns.map rngI)).map (x :: ·)) (if x + 1 < (n : Int) then some ((x + 1) :: zerL ns) else none) := fun x =>
      Ch.map ih (fun l l' hl => by rw [nextD, hl]) fun l hl _ => by rw [nextD, hl]
    have go : ∀ k a : Nat, a + k = n → 1 ≤ k → Ch (nextD (n :: ns)) ((seqI a k).flatMap fun x => (prodL (ns.map rngI)).map (x :: ·)) none := by
      intro k
      induction k with
      | zero => intro a _ h; omega
      | succ k ih2 =>
        intro a ha _
        rw [seqI_succ, List.flatMap_cons]
        by_cases hk : k = 0
        · subst hk
          have e : seqI (a + 1) 0 = [] := rfl
          rw [e, List.flatMap_nil, List.append_nil]
          have := blk (a : Int)
          rw [if_neg (by omega)] at this
          exact this
        · have h2 := ih2 (a + 1) (by omega) (by omega)
          have h1 := blk (a : Int)
          rw [if_pos (by omega)] at h1
          obtain ⟨j, rfl⟩ : ∃ j, k = j + 1 := ⟨k - 1, by omega⟩
          rw [seqI_succ, List.flatMap_cons, ht] at h2 ⊢
          rw [ht] at h1
          simp only [List.map_cons, List.cons_append] at h1 h2 ⊢
          refine Ch.app (l1 := ((a : Int) :: zerL ns) :: t.map fun l => (a : Int) :: l) ?_ h2
          have e : (((a + 1 : Nat) : Int) :: zerL ns) = ((a : Int) + 1) :: zerL ns := by rw [show ((a + 1 : Nat) : Int) = (a : Int) + 1 by omega]
          rw [e]
          exact h1
    rw [List.map_cons, prodL, rngI_seq]
    exact go n 0 (by omega) (h n (List.mem_cons_self ..))
/-- All digits behind a place are the greatest. -/
theorem nextD_none : ∀ (ns : List Nat) (l : List Int), l.length = ns.length → (∀ i (h1 : i < l.length) (h2 : i < ns.length), ((ns[i] : Nat) : Int) ≤ l[i] + 1) → nextD ns l = none
  | [], [], _, _ => rfl
  | [], _ :: _, h, _ => by simp at h
  | _ :: _, [], h, _ => by simp at h
  | n :: ns, x :: l, h, hm => by
    rw [nextD, nextD_none ns l (by simpa using h) fun i h1 h2 => hm (i + 1) (by simpa using h1) (by simpa using h2)]
    have := hm 0 (by simp) (by simp)
    simp only [List.getElem_cons_zero] at this
    exact if_neg (by omega)
theorem nextD_some : ∀ (ns : List Nat) (l : List Int) (p : Nat), l.length = ns.length → (h1 : p < l.length) → (h2 : p < ns.length) → l[p] + 1 < ((ns[p] : Nat) : Int) → (∀ i (a : i < l.length) (b : i < ns.length), p < i → ((ns[i] : Nat) : Int) ≤ l[i] + 1) →
    nextD ns l = some (l.take p ++ (l[p] + 1) :: zerL (ns.drop (p + 1)))
  | [], _, p, _, _, h2, _, _ => by simp at h2
  | _ :: _, [], p, _, h1, _, _, _ => by simp at h1
  | n :: ns, x :: l, 0, h, h1, h2, hx, hm => by
    rw [nextD, nextD_none ns l (by simpa using h) fun i a b => hm (i + 1) (by simpa using a) (by simpa using b) (by omega)]
    simp only [List.getElem_cons_zero] at hx ⊢
    simp [hx]
  | n :: ns, x :: l, p + 1, h, h1, h2, hx, hm => by
    rw [nextD, nextD_some ns l p (by simpa using h) (by simpa using h1) (by simpa using h2) (by simpa using hx) fun i a b c => hm (i + 1) (by simpa using a) (by simpa using b) (by omega)]
    simp

theorem setCells_heap (b : Nat) : ∀ (vs : List Value) (i o : Nat) (w : World), (World.setCells w b (o + i) vs).heap = (vs.zipIdx i).foldl (fun h p => Mx.hset h ((⟨b, o, none⟩ : Addr).add p.2) p.1) w.heap ∧ Same w (World.setCells w b (o + i) vs)
  | [], i, o, w => ⟨rfl, Same.refl _⟩
  | v :: vs, i, o, w => by
    rw [World.setCells, List.zipIdx_cons, List.foldl_cons, add_plain']
    obtain ⟨a, b'⟩ := setCells_heap b vs (i + 1) o (w.setCell ⟨b, o + i, none⟩ v)
    rw [show o + i + 1 = o + (i + 1) by omega, a]
    exact ⟨rfl, Same.trans (b := w.setCell ⟨b, o + i, none⟩ v) ⟨rfl, rfl, rfl⟩ b'⟩
theorem Ow.puts {F : Nat → Prop} {e : TypeId} {s : Sl} {g o : Nat} (ha : s.a = some ⟨g, o, none⟩) : ∀ (vs : List Value) (i : Nat) {h : Heap} {cs : List Value}, Ow h F e 1 s cs → i + vs.length ≤ s.n →
    Fr s.own h ((vs.zipIdx i).foldl (fun h p => Mx.hset h ((⟨g, o, none⟩ : Addr).add p.2) p.1) h) ∧ Ow ((vs.zipIdx i).foldl (fun h p => Mx.hset h ((⟨g, o, none⟩ : Addr).add p.2) p.1) h) F e 1 s (cs.take i ++ vs ++ cs.drop (i + vs.length))
  | [], i, h, cs, H, _ => ⟨Fr.refl _ _, by simpa using H⟩
  | v :: vs, i, h, cs, H, hl => by
    simp only [List.length_cons] at hl
    simp only [List.zipIdx_cons, List.foldl_cons]
    have hc := H.len
    have hi' : ((i : Nat) : Int) < (s.n : Int) := by omega
    have h0' : (0 : Int) ≤ ((i : Nat) : Int) := by omega
    obtain ⟨_, a2, a3⟩ := H.store1 h0' hi' v
    have ea : s.at (i : Int) 1 = (⟨g, o, none⟩ : Addr).add i := by rw [at_one ha]; rfl
    rw [ea] at a2 a3
    rw [show ((i : Nat) : Int).toNat = i from rfl] at a2
    obtain ⟨b1, b2⟩ := Ow.puts ha vs (i + 1) a2 (by omega)
    refine ⟨a3.trans b1, ?_⟩
    have eq1 : (cs.set i v).take (i + 1) ++ vs ++ (cs.set i v).drop (i + 1 + vs.length) = cs.take i ++ (v :: vs) ++ cs.drop (i + (v :: vs).length) := by
      have e1 : (cs.set i v).take (i + 1) = cs.take i ++ [v] := by
        rw [List.take_succ_eq_append_getElem (by simp; omega), List.take_set_of_le (Nat.le_refl _)]
        simp
      have e2 : (cs.set i v).drop (i + 1 + vs.length) = cs.drop (i + (v :: vs).length) := by
        rw [List.drop_set_of_lt (by omega)]
        congr 1
        simp; omega
      rw [e1, e2]
      simp
    rw [← eq1]
    exact b2
/-- One element is taken out in place. -/
theorem k_Delete {h : Heap} {F : Nat → Prop} {s : Sl} {xs : List Int} (O : OwI h F s xs) {i : Nat} (hi : i < xs.length) (K : Value → Heap → Prop) (HK : ∀ t h', OwI h' F t (xs.eraseIdx i) → Fr s.own h h' → (∀ k, t.own k → s.own k) → K t.v h') : callM Try.prog 128 #[s.v, VI i, VI (i + 1 : Nat)] h K := by
  have sn : s.n = xs.length := by have := O.len; simpa using this.symm
  rcases O.out with ⟨_, hv⟩ | ⟨g, o, cur, ha, hF, hg, h1, h2, h3, h4⟩
  · rw [List.map_eq_nil_iff] at hv
    rw [hv] at hi
    simp at hi
  have hsv : s.v = .slice (some ⟨g, o, none⟩) xs.length s.c := by unfold Sl.v; rw [ha, ← sn]
  refine ⟨fun w hw => .inr ⟨128, _, w, Go.Proofs.enters_of Try.func128 (by kernel_rfl) rfl _ _, rfl, ?_⟩⟩
  subst hw
  rw [hsv]
  refine (Try.slices_Delete_int_cells g o xs.length s.c i (i + 1) xs w (Nat.le_refl _) (by omega) (by have := h2; simp only [maxLen] at this; omega) (by omega) (by omega) (fun j hj => ?_) (fun j hj => ?_)).mono ?_
  · have := Ow.at_cell O (i := j) (by simpa using hj)
    rw [at_one ha] at this
    rw [cell_eq, ← add_mk, getD_getI hj]
    simpa using this
  · rw [frozen_eq]
    exact hfrz_row hg
  · rintro e w' ⟨rfl, q, rfl⟩
    rw [List.take_of_length_le (Nat.le_refl _), show i + 1 - i = 1 by omega]
    obtain ⟨a1, a2⟩ := setCells_heap g ((xs.take i ++ xs.drop (i + 1) ++ List.replicate 1 0).map (Value.int .i64)) 0 o (w.drewN q)
    rw [Nat.add_zero] at a1 a2
    have ell : (xs.take i ++ xs.drop (i + 1) ++ List.replicate 1 (0 : Int)).length = xs.length := by simp; omega
    obtain ⟨b1, b2⟩ := Ow.puts ha ((xs.take i ++ xs.drop (i + 1) ++ List.replicate 1 (0 : Int)).map (Value.int .i64)) 0 O (by rw [List.length_map, ell]; omega)
    refine ⟨_, rfl, Same.trans (b := w.drewN q) ⟨rfl, rfl, rfl⟩ a2, ?_⟩
    rw [a1]
    have b3 := Ow.cut b2 (l := 0) (m := xs.length - 1) (by omega) (by omega)
    have et : s.cut 1 0 (xs.length - 1) s.c = ⟨some ⟨g, o, none⟩, xs.length - 1, s.c⟩ := by
      unfold Sl.cut
      rw [ha, if_neg (by omega)]
      rfl
    rw [et] at b3
    refine HK ⟨some ⟨g, o, none⟩, xs.length - 1, s.c⟩ _ ?_ b1 fun k hk => by unfold Sl.own at *; rw [ha]; exact hk
    have ex : (((List.take 0 (xs.map VI) ++ (xs.take i ++ xs.drop (i + 1) ++ List.replicate 1 (0 : Int)).map (Value.int .i64) ++ List.drop (0 + ((xs.take i ++ xs.drop (i + 1) ++ List.replicate 1 (0 : Int)).map (Value.int .i64)).length) (xs.map VI)).drop (0 * 1)).take ((xs.length - 1 - 0) * 1)) = (xs.eraseIdx i).map VI := by
      rw [List.length_map, ell, List.drop_of_length_le (l := xs.map VI) (by simp), List.append_nil, List.take_zero, List.nil_append, Nat.zero_mul, List.drop_zero, List.map_append, List.take_append_of_le_length (by simp; omega), List.take_of_length_le (by simp; omega), List.eraseIdx_eq_take_drop_succ]
    rw [ex] at b3
    exact b3

def matL (rows : List (List Int)) : Mat := fun i j => (rows.getD i []).getD j 0
theorem matL_get {rows : List (List Int)} {i j : Nat} (h1 : i < rows.length) (h2 : j < rows[i].length) : matL rows i j = (rows[i])[j] := by unfold matL; rw [getD_get h1, getD_getI h2]
theorem matL_set {rows : List (List Int)} {i j : Nat} {v : Int} (h1 : i < rows.length) (h2 : j < rows[i].length) (a b : Nat) : matL (rows.set i (rows[i].set j v)) a b = if a = i ∧ b = j then v else matL rows a b := by
  unfold matL
  rw [List.getD_eq_getElem?_getD (l := rows.set i _), List.getElem?_set]
  by_cases ha : i = a
  · subst ha
    rw [if_pos rfl, if_pos h1, Option.getD_some, getD_get h1, List.getD_eq_getElem?_getD, List.getElem?_set]
    by_cases hb : j = b
    · subst hb; rw [if_pos rfl, if_pos h2, if_pos ⟨rfl, rfl⟩]; rfl
    · rw [if_neg hb, if_neg fun h => hb h.2.symm, List.getD_eq_getElem?_getD]
  · rw [if_neg ha, if_neg fun h => ha h.1.symm]
    simp [List.getD_eq_getElem?_getD]
structure Sq (n : Nat) (rows : List (List Int)) : Prop where
  len : rows.length = n
  row : ∀ i (h : i < rows.length), rows[i].length = n
theorem Sq.set {n : Nat} {rows : List (List Int)} (H : Sq n rows) {i : Nat} (hi : i < rows.length) (l : List Int) (hl : l.length = n) : Sq n (rows.set i l) := ⟨by rw [List.length_set]; exact H.len, fun a ha => by
  rw [List.getElem_set]
  split
  · exact hl
  · exact H.row a (by rw [List.length_set] at ha; exact ha)⟩
/-- Two rows change places. -/
def swL (rows : List (List Int)) (i j : Nat) : List (List Int) := (rows.set i (rows.getD j [])).set j (rows.getD i [])
theorem swL_get {rows : List (List Int)} {i j : Nat} (hi : i < rows.length) (hj : j < rows.length) (a : Nat) : (swL rows i j).getD a [] = rows.getD (swA i j a) [] := by
  unfold swL swA
  rw [List.getD_eq_getElem?_getD, List.getElem?_set, List.length_set, List.getElem?_set]
  by_cases h1 : a = i
  · subst h1
    rw [if_pos rfl]
    by_cases h2 : j = a
    · subst h2; rw [if_pos rfl, if_pos hj]; simp
    · rw [if_neg h2, if_pos rfl, if_pos hi]; rfl
  · rw [if_neg h1]
    by_cases h2 : a = j
    · subst h2; rw [if_pos rfl, if_pos hj, if_pos rfl]; rfl
    · rw [if_neg h2, if_neg fun e => h2 e.symm, if_neg fun e => h1 e.symm, List.getD_eq_getElem?_getD]
theorem swL_mat {rows : List (List Int)} {i j : Nat} (hi : i < rows.length) (hj : j < rows.length) : matL (swL rows i j) = fun a => matL rows (swA i j a) := by
  funext a b
  unfold matL
  rw [swL_get hi hj]
theorem swL_sq {n : Nat} {rows : List (List Int)} (H : Sq n rows) {i j : Nat} (hi : i < rows.length) (hj : j < rows.length) : Sq n (swL rows i j) := by
  unfold swL
  refine (H.set hi _ ?_).set (by rw [List.length_set]; exact hj) _ ?_
  · rw [getD_get hj]; exact H.row j hj
  · rw [getD_get hi]; exact H.row i hi
theorem OwR.swap {h : Heap} {F : Nat → Prop} {eo ei : TypeId} {s : Sl} {xss : List (List Int)} (H : OwR h F eo ei s xss) {i j : Int} (i0 : 0 ≤ i) (i1 : i < (xss.length : Int)) (j0 : 0 ≤ j) (j1 : j < (xss.length : Int)) (hne : i ≠ j) :
    ∃ si sj : Sl, hcell h (s.at i 1) = some si.v ∧ hcell h (s.at j 1) = some sj.v ∧ InB s i ∧ InB s j ∧ Writable h (s.at i 1) ∧ Writable (hset h (s.at i 1) sj.v) (s.at j 1) ∧
      OwR (hset (hset h (s.at i 1) sj.v) (s.at j 1) si.v) F eo ei s (swL xss i.toNat j.toNat) ∧ Fr s.own h (hset (hset h (s.at i 1) sj.v) (s.at j 1) si.v) ∧ Fr s.own h (hset h (s.at i 1) sj.v) := by
  have hlen := H.len
  obtain ⟨ss, e1, h2, h3, h4, h5⟩ := H.out
  have hi : i.toNat < ss.length := by omega
  have hj : j.toNat < ss.length := by omega
  have ci := h2.at_cell (i := i.toNat) (by simpa using hi)
  have cj := h2.at_cell (i := j.toNat) (by simpa using hj)
  rw [show ((i.toNat : Nat) : Int) = i by omega, List.getElem_map] at ci
  rw [show ((j.toNat : Nat) : Int) = j by omega, List.getElem_map] at cj
  obtain ⟨w1, o1, f1⟩ := h2.store1 (i := i) i0 (by omega) ss[j.toNat].v
  obtain ⟨w2, o2, f2⟩ := o1.store1 (i := j) j0 (by omega) ss[i.toNat].v
  refine ⟨ss[i.toNat], ss[j.toNat], ci, cj, h2.inb i0 (by omega), h2.inb j0 (by omega), w1, w2, ?_, f1.trans f2, f1⟩
  have f := f1.trans f2
  have es : ((ss.map Sl.v).set i.toNat ss[j.toNat].v).set j.toNat ss[i.toNat].v = ((ss.set i.toNat ss[j.toNat]).set j.toNat ss[i.toNat]).map Sl.v := by rw [List.map_set, List.map_set]
  rw [es] at o2
  have eg : ∀ a (ha : a < ((ss.set i.toNat ss[j.toNat]).set j.toNat ss[i.toNat]).length), ∃ hb : swA i.toNat j.toNat a < ss.length, ((ss.set i.toNat ss[j.toNat]).set j.toNat ss[i.toNat])[a] = ss[swA i.toNat j.toNat a] := fun a ha => by
    rw [List.length_set, List.length_set] at ha
    have hb : swA i.toNat j.toNat a < ss.length := by unfold swA; split <;> (try split) <;> omega
    refine ⟨hb, ?_⟩
    rw [List.getElem_set]
    by_cases h1 : j.toNat = a
    · rw [if_pos h1]
      congr 1
      unfold swA
      rw [if_neg (by omega), if_pos h1.symm]
    · rw [if_neg h1, List.getElem_set]
      by_cases h2 : i.toNat = a
      · rw [if_pos h2]
        congr 1
        unfold swA
        rw [if_pos h2.symm]
      · rw [if_neg h2]
        congr 1
        unfold swA
        rw [if_neg fun e => h2 e.symm, if_neg fun e => h1 e.symm]
  have inj : ∀ a b, a ≠ b → swA i.toNat j.toNat a ≠ swA i.toNat j.toNat b := fun a b hab => by
    unfold swA
    by_cases h1 : a = i.toNat <;> by_cases h2 : a = j.toNat <;> by_cases h3 : b = i.toNat <;> by_cases h4 : b = j.toNat <;> simp only [h1, h2, h3, h4, if_true, if_false] <;> (repeat' split) <;> omega
  refine ⟨(ss.set i.toNat ss[j.toNat]).set j.toNat ss[i.toNat], ?_, o2, fun a ha hb => ?_, fun a b ha hb hab k => ?_, fun a ha k hk => ?_⟩
  · unfold swL
    simp only [List.length_set]
    exact e1
  · obtain ⟨hc, e⟩ := eg a ha
    rw [e]
    have ex : (swL xss i.toNat j.toNat)[a] = xss[swA i.toNat j.toNat a]'(by omega) := by
      have := swL_get (rows := xss) (i := i.toNat) (j := j.toNat) (by omega) (by omega) a
      rw [getD_get hb, getD_get (by omega)] at this
      exact this
    rw [ex]
    exact (h3 _ hc (by omega)).fr f fun k hk hs => h5 _ hc k hs hk
  · obtain ⟨hc, e⟩ := eg a ha
    obtain ⟨hd, e'⟩ := eg b hb
    rw [e, e']
    exact h4 _ _ hc hd (inj a b hab) k
  · obtain ⟨hc, e⟩ := eg a ha
    rw [e]
    exact h5 _ hc k hk
theorem abs_le {x : Int} {b : Nat} (h : x.natAbs ≤ b) : -(b : Int) ≤ x ∧ x ≤ b := by omega
theorem abs_mul {x y : Int} {b : Nat} (h : x.natAbs ≤ b) (h' : y.natAbs ≤ b) : (x * y).natAbs ≤ b * b := by rw [Int.natAbs_mul]; exact Nat.mul_le_mul h h'
theorem dbN6 : dbN 6 = 720000000 := rfl
theorem dbN7 : dbN 7 = 50400000000 := rfl
/-- What becomes of a number in the step k. -/
def stpB (R : Mat) (k : Nat) (last : Int) (i j : Nat) : Int := (R i j * R k k - R i k * R k j).tdiv last
theorem stp_num {n k : Nat} {last : Int} {O R : Mat} (H : Bar n k last O fun i j => R (k + i) (k + j)) (hO : Small n O) (hn : n ≤ 7) (hl : last ≠ 0) {i j : Nat} (hi : k < i) (hi' : i < n) (hj : k < j) (hj' : j < n) :
    w64 ((w64 (w64 (R i j * R k k) - w64 (R i k * R k j))).tdiv last) = stpB R k last i j := by
  have b : ∀ a b, a < n → k ≤ a → b < n → k ≤ b → (R a b).natAbs ≤ 720000000 := fun a b h1 h2 h3 h4 => by
    have := H.bound hO (i := a - k) (j := b - k) (by omega) (by omega)
    (try simp only at this)
    rw [show k + (a - k) = a by omega, show k + (b - k) = b by omega] at this
    exact Nat.le_trans this (Nat.le_trans (dbN_le (show k + 1 ≤ 6 by omega)) (by rw [dbN6]; exact Nat.le_refl _))
  have b1 := abs_le (abs_mul (b i j hi' (by omega) hj' (by omega)) (b k k (by omega) (by omega) (by omega) (by omega)))
  have b2 := abs_le (abs_mul (b i k hi' (by omega) (by omega) (by omega)) (b k j (by omega) (by omega) hj' (by omega)))
  rw [w64_eq (R i j * R k k) (by omega) (by omega), w64_eq (R i k * R k j) (by omega) (by omega), w64_eq (R i j * R k k - R i k * R k j) (by omega) (by omega)]
  obtain ⟨q, hq⟩ := H.exact (i := i - k - 1) (j := j - k - 1) (by omega) (by omega)
  have eq : R i j * R k k - R i k * R k j = last * q := by
    rw [← hq]
    unfold chio
    (try simp only)
    rw [show k + (i - k - 1 + 1) = i by omega, show k + (j - k - 1 + 1) = j by omega, show k + 0 = k by omega, Int.mul_comm (R k k)]
  unfold stpB
  have hq2 : q.natAbs ≤ (last * q).natAbs := by
    rw [Int.natAbs_mul]
    exact Nat.le_mul_of_pos_left _ (by omega)
  rw [tdiv_of eq hl]
  rw [← eq] at hq2
  exact w64_eq _ (by omega) (by omega)
theorem stp_next {n k : Nat} {last : Int} {O R R' : Mat} (H : Bar n k last O fun i j => R (k + i) (k + j)) (hl : last ≠ 0) (hk : R k k ≠ 0) (hR : ∀ i j, k < i → i < n → k < j → j < n → R' i j = stpB R k last i j) : Bar n (k + 1) (R k k) O fun i j => R' (k + 1 + i) (k + 1 + j) := by
  have := Bar.step (A' := fun i j => R' (k + 1 + i) (k + 1 + j)) H hl hk fun i j hi hj => by
    (try simp only)
    rw [hR _ _ (by omega) (by omega) (by omega) (by omega)]
    unfold stpB chio
    (try simp only)
    rw [show k + (i + 1) = k + 1 + i by omega, show k + (j + 1) = k + 1 + j by omega, show k + 0 = k by omega, Int.mul_comm (R k k)]
  exact this

def PM (s : Int) : Prop := s = 1 ∨ s = -1
theorem PM.neg_eq {s : Int} (h : PM s) : w64 (0 - s) = -s := by rcases h with rfl | rfl <;> rfl
theorem PM.neg {s : Int} (h : PM s) : PM (w64 (0 - s)) := by rcases h with rfl | rfl; exact .inr rfl; exact .inl rfl
theorem dt_cell {F : Nat → Prop} {h12 : Heap} {a : Sl} {rt : List (List Int)} {n : Nat} {k i j last : Int} {R O : Mat} (o12 : OwX h12 F a rt) (Q12 : Sq n rt) (S : Small n O) (hn : n ≤ 7) (hl : last ≠ 0) (B : Bar n k.toNat last O fun i j => R (k.toNat + i) (k.toNat + j)) (k0 : 0 ≤ k) (ki : k < i) (hi : i < (n : Int)) (kj : k < j) (hj : j < (n : Int))
    (hrt : ∀ i' j', i' < n → j' < n → matL rt i' j' = if k.toNat < i' ∧ k.toNat < j' ∧ (i' < i.toNat ∨ i' = i.toNat ∧ j' < j.toNat) then stpB R k.toNat last i' j' else R i' j') (C : Heap → Prop)
    (HC : ∀ h13 rs, OwX h13 F a rs → Sq n rs → (∀ i' j', i' < n → j' < n → matL rs i' j' = if k.toNat < i' ∧ k.toNat < j' ∧ (i' < i.toNat ∨ i' = i.toNat ∧ j' < j.toNat + 1) then stpB R k.toNat last i' j' else R i' j') → Fr F h12 h13 → C h13) :
    InB a i ∧ ∃ t87 : Sl, hcell h12 (Sl.at a i 1) = some t87.v ∧ InB a i ∧ ∃ t92 : Sl, hcell h12 (Sl.at a i 1) = some t92.v ∧ InB t92 j ∧ ∃ t95 : Int, hcell h12 (Sl.at t92 j 1) = some (VI t95) ∧ InB a k ∧ ∃ t99 : Sl, hcell h12 (Sl.at a k 1) = some t99.v ∧ InB t99 k ∧ ∃ t102 : Int, hcell h12 (Sl.at t99 k 1) = some (VI t102) ∧ InB a i ∧ ∃ t107 : Sl, hcell h12 (Sl.at a i 1) = some t107.v ∧ InB t107 k ∧ ∃ t110 : Int, hcell h12 (Sl.at t107 k 1) = some (VI t110) ∧ InB a k ∧ ∃ t114 : Sl, hcell h12 (Sl.at a k 1) = some t114.v ∧ InB t114 j ∧ ∃ t117 : Int, hcell h12 (Sl.at t114 j 1) = some (VI t117) ∧ last ≠ 0 ∧
      InB t87 j ∧ Writable h12 (Sl.at t87 j 1) ∧ Vars (hset h12 (Sl.at t87 j 1) (VI (w64 (Int.tdiv (w64 ((w64 (t95 * t102)) - (w64 (t110 * t117)))) last)))) [] ∧ ∀ h13 : Heap, h13 = hset h12 (Sl.at t87 j 1) (VI (w64 (Int.tdiv (w64 ((w64 (t95 * t102)) - (w64 (t110 * t117)))) last))) → Vars h13 [] → C h13 := by
  have ln12 := Q12.len
  have R12 := OwR.rd o12
  have i0 : 0 ≤ i := by omega
  have j0 : 0 ≤ j := by omega
  have ir : i < (rt.length : Int) := by omega
  have kr : k < (rt.length : Int) := by omega
  obtain ⟨si, ci, oi, upd⟩ := OwR.inner o12 i0 ir
  have hi1 : i.toNat < rt.length := by omega
  have hk1 : k.toNat < rt.length := by omega
  have hi2 : i.toNat < n := by omega
  have hk2 : k.toNat < n := by omega
  have hj2 : j.toNat < n := by omega
  have lri := Q12.row i.toNat hi1
  have lrk := Q12.row k.toNat hk1
  have ri : RdI F h12 si (rt[i.toNat]'hi1) := oi.rdF
  obtain ⟨sk, ck, rk⟩ := R12.get k0 kr
  have ij1 : j.toNat < (rt[i.toNat]'hi1).length := by omega
  have ik1 : k.toNat < (rt[i.toNat]'hi1).length := by omega
  have kj1 : j.toNat < (rt[k.toNat]'hk1).length := by omega
  have kk1 : k.toNat < (rt[k.toNat]'hk1).length := by omega
  have v1 : (rt[i.toNat]'hi1)[j.toNat]'ij1 = R i.toNat j.toNat := by rw [← matL_get hi1 ij1, hrt _ _ hi2 hj2, if_neg (by omega)]
  have v2 : (rt[k.toNat]'hk1)[k.toNat]'kk1 = R k.toNat k.toNat := by rw [← matL_get hk1 kk1, hrt _ _ hk2 hk2, if_neg (by omega)]
  have v3 : (rt[i.toNat]'hi1)[k.toNat]'ik1 = R i.toNat k.toNat := by rw [← matL_get hi1 ik1, hrt _ _ hi2 hk2, if_neg (by omega)]
  have v4 : (rt[k.toNat]'hk1)[j.toNat]'kj1 = R k.toNat j.toNat := by rw [← matL_get hk1 kj1, hrt _ _ hk2 hj2, if_neg (by omega)]
  have rin := RdI.len ri
  have rkn := RdI.len rk
  have b1 : j < ((rt[i.toNat]'hi1).length : Int) := by omega
  have b2 : k < ((rt[i.toNat]'hi1).length : Int) := by omega
  have b3 : j < ((rt[k.toNat]'hk1).length : Int) := by omega
  have b4 : k < ((rt[k.toNat]'hk1).length : Int) := by omega
  obtain ⟨wr, os, fs⟩ := Ow.store1 oi j0 (show j < (si.n : Int) by omega) (VI (stpB R k.toNat last i.toNat j.toNat))
  have es := stp_num B S hn hl (i := i.toNat) (j := j.toNat) (by omega) hi2 (by omega) hj2
  refine ⟨R12.inb i0 ir, si, ci, R12.inb i0 ir, si, ci, ri.inb j0 b1, _, ri.get j0 b1, R12.inb k0 kr, sk, ck, rk.inb k0 b4, _, rk.get k0 b4, R12.inb i0 ir, si, ci, ri.inb k0 b2, _, ri.get k0 b2, R12.inb k0 kr, sk, ck, rk.inb j0 b3, _, rk.get j0 b3, hl, ri.inb j0 b1, wr, .nil, ?_⟩
  simp only [v1, v2, v3, v4, es]
  rintro h13 rfl _
  have os' : OwI (hset h12 (si.at j 1) (VI (stpB R k.toNat last i.toNat j.toNat))) F si ((rt[i.toNat]'hi1).set j.toNat (stpB R k.toNat last i.toNat j.toNat)) := by
    show Ow _ _ _ _ _ _
    rw [List.map_set]
    exact os
  refine HC _ _ (upd _ _ fs os') (Q12.set hi1 _ (by rw [List.length_set]; exact lri)) (fun i' j' h1 h2 => ?_) (fs.mono fun q _ hq => (Ow.foot oi hq).1)
  rw [matL_set hi1 ij1, hrt i' j' h1 h2]
  by_cases hc : i' = i.toNat ∧ j' = j.toNat
  · rw [if_pos hc, hc.1, hc.2, if_pos (by omega)]
  · rw [if_neg hc]
    by_cases hd : k.toNat < i' ∧ k.toNat < j' ∧ (i' < i.toNat ∨ i' = i.toNat ∧ j' < j.toNat)
    · rw [if_pos hd, if_pos (by omega)]
    · rw [if_neg hd, if_neg (by omega)]
theorem dt_loop {F : Nat → Prop} {h10 : Heap} {s a : Sl} {rows : List (List Int)} {n : Nat} {k last : Int} {O : Mat} (o10 : OwX h10 F a rows) (Q10 : Sq n rows) (S : Small n O) (hn : n ≤ 7) (hl : last ≠ 0) (B : Bar n k.toNat last O fun i j => matL rows (k.toNat + i) (k.toNat + j)) (k0 : 0 ≤ k) (hk : k < (n : Int)) (sn : s.n = n) (C : Int → Heap → Prop)
    (HC : ∀ h11 rs, OwX h11 F a rs → Sq n rs → (∀ i' j', i' < n → j' < n → matL rs i' j' = if k.toNat < i' ∧ k.toNat < j' then stpB (matL rows) k.toNat last i' j' else matL rows i' j') → Fr F h10 h11 → C (matL rows k.toNat k.toNat) h11) :
    ∃ J_5 : Nat → Int → Heap → Prop, (∃ n0 : Nat, J_5 n0 (k + 1) h10) ∧ ∀ (n_4 : Nat) (i : Int) (h11 : Heap), J_5 n_4 i h11 → Vars h11 [] →
      ((decide (i < (s.n : Int))) = true → ∃ J_6 : Nat → Int → Heap → Prop, (∃ n0 : Nat, J_6 n0 (k + 1) h11) ∧ ∀ (n_5 : Nat) (j : Int) (h12 : Heap), J_6 n_5 j h12 → Vars h12 [] →
        ((decide (j < (s.n : Int))) = true → InB a i ∧ ∃ t87 : Sl, hcell h12 (Sl.at a i 1) = some t87.v ∧ InB a i ∧ ∃ t92 : Sl, hcell h12 (Sl.at a i 1) = some t92.v ∧ InB t92 j ∧ ∃ t95 : Int, hcell h12 (Sl.at t92 j 1) = some (VI t95) ∧ InB a k ∧ ∃ t99 : Sl, hcell h12 (Sl.at a k 1) = some t99.v ∧ InB t99 k ∧ ∃ t102 : Int, hcell h12 (Sl.at t99 k 1) = some (VI t102) ∧ InB a i ∧ ∃ t107 : Sl, hcell h12 (Sl.at a i 1) = some t107.v ∧ InB t107 k ∧ ∃ t110 : Int, hcell h12 (Sl.at t107 k 1) = some (VI t110) ∧ InB a k ∧ ∃ t114 : Sl, hcell h12 (Sl.at a k 1) = some t114.v ∧ InB t114 j ∧ ∃ t117 : Int, hcell h12 (Sl.at t114 j 1) = some (VI t117) ∧ last ≠ 0 ∧
          InB t87 j ∧ Writable h12 (Sl.at t87 j 1) ∧ Vars (hset h12 (Sl.at t87 j 1) (VI (w64 (Int.tdiv (w64 ((w64 (t95 * t102)) - (w64 (t110 * t117)))) last)))) [] ∧ ∀ h13 : Heap, h13 = hset h12 (Sl.at t87 j 1) (VI (w64 (Int.tdiv (w64 ((w64 (t95 * t102)) - (w64 (t110 * t117)))) last))) → Vars h13 [] → ∃ m : Nat, m < n_5 ∧ J_6 m (w64 (j + 1)) h13) ∧
        ((decide (j < (s.n : Int))) = false → ∃ m : Nat, m < n_4 ∧ J_5 m (w64 (i + 1)) h12)) ∧
      ((decide (i < (s.n : Int))) = false → InB a k ∧ ∃ t126 : Sl, hcell h11 (Sl.at a k 1) = some t126.v ∧ InB t126 k ∧ ∃ t129 : Int, hcell h11 (Sl.at t126 k 1) = some (VI t129) ∧ C t129 h11) := by
  refine ⟨fun m4 i h' => k < i ∧ i + m4 = (n : Int) ∧ (∃ rs, OwX h' F a rs ∧ Sq n rs ∧ ∀ i' j', i' < n → j' < n → matL rs i' j' = if k.toNat < i' ∧ k.toNat < j' ∧ i' < i.toNat then stpB (matL rows) k.toNat last i' j' else matL rows i' j') ∧ Fr F h10 h', ⟨n - (k.toNat + 1), by omega, by omega, ⟨rows, o10, Q10, fun i' j' _ _ => by rw [if_neg (by omega)]⟩, Fr.refl _ _⟩, ?_⟩
  rintro m4 i h11 ⟨i0', i1', ⟨rs, o11, Q11, hrs⟩, f11⟩ hL11
  have ln11 := Q11.len
  refine ⟨fun e7 => ?_, fun e7 => ?_⟩
  · simp only [decide_eq_true_eq] at e7
    have hi7 : i < (n : Int) := by omega
    refine ⟨fun m5 j h' => k < j ∧ j + m5 = (n : Int) ∧ (∃ rs, OwX h' F a rs ∧ Sq n rs ∧ ∀ i' j', i' < n → j' < n → matL rs i' j' = if k.toNat < i' ∧ k.toNat < j' ∧ (i' < i.toNat ∨ i' = i.toNat ∧ j' < j.toNat) then stpB (matL rows) k.toNat last i' j' else matL rows i' j') ∧ Fr F h10 h', ⟨n - (k.toNat + 1), by omega, by omega, ⟨rs, o11, Q11, fun i' j' h1 h2 => ?_⟩, f11⟩, ?_⟩
    · rw [hrs i' j' h1 h2]
      by_cases hc : k.toNat < i' ∧ k.toNat < j' ∧ i' < i.toNat
      · rw [if_pos hc, if_pos ⟨hc.1, hc.2.1, .inl hc.2.2⟩]
      · rw [if_neg hc, if_neg (by omega)]
    rintro m5 j h12 ⟨j0', j1', ⟨rt, o12, Q12, hrt⟩, f12⟩ hL12
    refine ⟨fun e8 => ?_, fun e8 => ?_⟩
    · simp only [decide_eq_true_eq] at e8
      have hj8 : j < (n : Int) := by omega
      refine dt_cell o12 Q12 S hn hl B k0 i0' hi7 j0' hj8 hrt _ fun h13 rs' o13 Q13 hrs' f13 => ?_
      have jw : w64 (j + 1) = j + 1 := w64_eq _ (by omega) (by omega)
      rw [jw]
      exact ⟨m5 - 1, by omega, by omega, by omega, ⟨rs', o13, Q13, by rw [show (j + 1).toNat = j.toNat + 1 by omega]; exact hrs'⟩, f12.trans f13⟩
    · simp only [decide_eq_false_iff_not] at e8
      have hj8 : j = (n : Int) := by omega
      have iw : w64 (i + 1) = i + 1 := w64_eq _ (by omega) (by omega)
      rw [iw]
      refine ⟨m4 - 1, by omega, by omega, by omega, ⟨rt, o12, Q12, fun i' j' h1 h2 => ?_⟩, f12⟩
      rw [hrt i' j' h1 h2, show (i + 1).toNat = i.toNat + 1 by omega]
      by_cases hd : k.toNat < i' ∧ k.toNat < j' ∧ (i' < i.toNat ∨ i' = i.toNat ∧ j' < j.toNat)
      · rw [if_pos hd, if_pos (by omega)]
      · rw [if_neg hd, if_neg (by omega)]
  · simp only [decide_eq_false_iff_not] at e7
    have hi7 : i = (n : Int) := by omega
    have R11 := OwR.rd o11
    have kr : k < (rs.length : Int) := by omega
    have hk1 : k.toNat < rs.length := by omega
    have hk2 : k.toNat < n := by omega
    obtain ⟨sk, ck, rk⟩ := R11.get k0 kr
    have lrk := Q11.row k.toNat hk1
    have kk1 : k.toNat < (rs[k.toNat]'hk1).length := by omega
    have v2 : (rs[k.toNat]'hk1)[k.toNat]'kk1 = matL rows k.toNat k.toNat := by rw [← matL_get hk1 kk1, hrs _ _ hk2 hk2, if_neg (by omega)]
    refine ⟨R11.inb k0 kr, sk, ck, rk.inb k0 (by omega), _, rk.get k0 (by omega), ?_⟩
    rw [v2]
    refine HC h11 rs o11 Q11 (fun i' j' h1 h2 => ?_) f11
    rw [hrs i' j' h1 h2]
    by_cases hd : k.toNat < i' ∧ k.toNat < j' ∧ i' < i.toNat
    · rw [if_pos hd, if_pos ⟨hd.1, hd.2.1⟩]
    · rw [if_neg hd, if_neg (by omega)]
set_option maxHeartbeats 4000000 in
theorem k_determinant {S : Nat → Prop} {h : Heap} {s : Sl} {xss : List (List Int)} (M : RdR S h s xss) (Q : Sq xss.length xss) (hn : xss.length ≤ 7) (hb : Small xss.length (matL xss)) : Ret Try.prog 88 #[s.v] h (VI (det xss.length (matL xss))) := by
  intro K HK
  have sn := M.len
  refine v88 s h K ?_
  have no_ : ∀ {x : Heap}, Fr (fun k => h.size ≤ k) h x → Fr No h x := fun f => f.mono fun k hk hk2 => absurd hk2 (by omega)
  refine eop_lit rIss (fun k => h.size ≤ k) (fun _ h => h) 0 (by omega) [] rfl rfl fun a0 h1 n1 c1 o1 f1 m1 _ => ⟨a0, rfl, .nil, ?_⟩
  have z1 := f1.size
  have o1' : OwX h1 (fun k => h.size ≤ k) a0 [] := ⟨[], rfl, o1, fun i h1 => by simp at h1, fun i j h1 => by simp at h1, fun i h1 => by simp at h1⟩
  refine ⟨fun m a i h' => 0 ≤ i ∧ i + m = (xss.length : Int) ∧ OwX h' (fun k => h.size ≤ k) a (xss.take i.toNat) ∧ Fr (fun k => h.size ≤ k) h h', ⟨xss.length, Int.le_refl _, by omega, o1', f1.of_no⟩, ?_⟩
  rintro m a i h2 ⟨i0, i1, o2, f2⟩ hL2
  have M2 := M.no (no_ f2)
  refine ⟨fun e => ?_, fun e => ?_⟩
  · have hi := M.lt e
    obtain ⟨si, ci, ri⟩ := M2.get i0 hi
    have rl := Q.row i.toNat (by omega)
    refine ⟨M2.inb i0 hi, si, ci, k_Clone ri (by omega) _ fun t h3 o3 f3 => ⟨t, rfl, .nil, ?_⟩⟩
    have z3 := f3.size
    refine eop_putR (lo := h.size) (m := h2.size) (OwR.toIv o2 |>.no f3) (o3.mono fun k _ hk => hk.1) f2.size z3 .nil (fun p hp => by simp at hp) (by rw [List.length_take]; omega) _ fun t2 h5 o5 f5 V5 => ?_
    rw [M.succ i0 hi]
    refine ⟨m - 1, by omega, by omega, by omega, ?_, (f2.trans f3.of_no).trans f5⟩
    rw [take_snoc _ i0 hi]
    exact o5
  · have hi := M.ge e
    rw [List.take_of_length_le (by omega)] at o2
    generalize hN : xss.length = n at *
    refine ⟨fun m sg last k h' => 0 ≤ k ∧ k + m = (n : Int) ∧ (∃ rows O, OwX h' (fun q => h.size ≤ q) a rows ∧ Sq n rows ∧ Small n O ∧ PM sg ∧ sg * det n O = det n (matL xss) ∧ last ≠ 0 ∧ Bar n k.toNat last O (fun i j => matL rows (k.toNat + i) (k.toNat + j)) ∧ (k = (n : Int) → last = det n O)) ∧ Fr (fun q => h.size ≤ q) h h', ⟨n, Int.le_refl _, by omega, ⟨xss, matL xss, o2, Q, hb, .inl rfl, by rw [Int.one_mul], by omega, ?_, ?_⟩, f2⟩, ?_⟩
    · have := Bar.start n (matL xss)
      simpa using this
    · intro h0
      rw [show n = 0 by omega]
      rfl
    rintro m2 sg last k h6 ⟨k0, k1, ⟨rows, O, o6, Q6, S6, hsg, hdet, hl, B6, hlast⟩, f6⟩ hL6
    have ln := Q6.len
    refine ⟨fun e2 => ?_, fun e2 => ?_⟩
    · have hk : k < (n : Int) := by have := M.lt e2; omega
      refine ⟨fun m3 p h' => h' = h6 ∧ k ≤ p ∧ p + m3 = (n : Int) ∧ ∀ q : Nat, k.toNat ≤ q → q < p.toNat → matL rows q k.toNat = 0, ⟨(n - k.toNat), rfl, Int.le_refl _, by omega, fun q h1 h2 => by omega⟩, ?_⟩
      rintro m3 p h7 ⟨rfl, p0, p1, hz⟩ hL7
      have R7 := OwR.rd o6
      have none_ : p = (n : Int) → K (VI 0) h7 := fun ep => by
        have := B6.none (by omega) hl fun i hi => by
          (try simp only)
          rw [Nat.add_zero]
          exact hz _ (by omega) (by omega)
        rw [this, Int.mul_zero] at hdet
        rw [← hdet] at HK
        exact HK h7 (no_ f6)
      refine ⟨fun e3 => ?_, fun e3 => ?_⟩
      · have hp : p < (n : Int) := by have := M.lt e3; omega
        obtain ⟨sp, cp, rp⟩ := R7.get (i := p) (by omega) (by omega)
        have lp := Q6.row p.toNat (by omega)
        have ep : matL rows p.toNat k.toNat = (rows[p.toNat]'(by omega))[k.toNat]'(by omega) := matL_get (by omega) (by omega)
        refine ⟨R7.inb (by omega) (by omega), sp, cp, rp.inb k0 (by omega), _, rp.get k0 (by omega), fun e4 => ?_, fun e4 => ⟨fun e5 => ?_, fun e5 => ?_⟩⟩
        · simp only [decide_eq_true_eq] at e4
          refine ⟨m3 - 1, by omega, rfl, ?_, ?_, ?_⟩
          · rw [w64_eq _ (by omega) (by omega)]; omega
          · rw [w64_eq _ (by omega) (by omega)]; omega
          · intro q h1 h2
            rw [w64_eq _ (by omega) (by omega)] at h2
            by_cases hq : q < p.toNat
            · exact hz q h1 hq
            · rw [show q = p.toNat by omega, ep]; exact e4
        · simp only [decide_eq_true_eq] at e5; omega
        · simp only [decide_eq_false_iff_not] at e4
          refine ⟨fun x h' => PM x ∧ ∃ rows' O', OwX h' (fun q => h.size ≤ q) a rows' ∧ Sq n rows' ∧ Small n O' ∧ x * det n O' = det n (matL xss) ∧ Bar n k.toNat last O' (fun i j => matL rows' (k.toNat + i) (k.toNat + j)) ∧ matL rows' k.toNat k.toNat ≠ 0 ∧ Fr (fun q => h.size ≤ q) h h', ⟨fun e6 => ?_, fun e6 => ?_⟩, ?_⟩
          · simp only [Bool.not_eq_true', decide_eq_false_iff_not] at e6
            obtain ⟨sk, sp', w1, w2, w3, w4, w5, w6, w7, w8, w9⟩ := OwR.swap o6 (i := p) (j := k) (by omega) (by omega) k0 (by omega) e6
            refine ⟨w4, sp', w2, w3, sk, w1, w3, w5, .nil, ?_⟩
            rintro h8 rfl _
            refine ⟨w4, w6, .nil, ?_⟩
            rintro h9 rfl _
            refine ⟨?_, swL rows p.toNat k.toNat, fun i => O (swA k.toNat p.toNat i), w7, swL_sq Q6 (by omega) (by omega), fun i j hi hj => S6 _ _ (by unfold swA; split <;> (try split) <;> omega) hj, ?_, ?_, ?_, f6.trans (OwR.ownF o6 w8)⟩
            · exact hsg.neg
            · rw [det_swap O (by omega) (by omega) (by omega), ← hdet]
              rw [hsg.neg_eq, Int.neg_mul_neg]
            · have := B6.swap (p := p.toNat - k.toNat) (by omega)
              rw [show k.toNat + (p.toNat - k.toNat) = p.toNat by omega] at this
              rw [swL_mat (by omega) (by omega)]
              refine cast (congrArg (Bar n k.toNat last _) ?_) this
              funext i j
              (try simp only)
              congr 1
              unfold swA
              by_cases h1 : i = 0
              · rw [if_pos h1, if_neg (by omega), if_pos (by omega)]; omega
              · rw [if_neg h1]
                by_cases h2 : i = p.toNat - k.toNat
                · rw [if_pos h2, if_pos (by omega)]; rfl
                · rw [if_neg h2, if_neg (by omega), if_neg (by omega)]
            · rw [swL_mat (by omega) (by omega)]
              (try simp only)
              rw [show swA p.toNat k.toNat k.toNat = p.toNat by unfold swA; rw [if_neg (by omega), if_pos rfl], ep]
              exact e4
          · simp only [Bool.not_eq_false', decide_eq_true_eq] at e6
            refine ⟨hsg, rows, O, o6, Q6, S6, hdet, B6, ?_, f6⟩
            rw [← ep, e6] at e4
            exact e4
          · rintro x h10 ⟨hx, rows', O', o10, Q10, S10, hdet', B10, hkk, f10⟩ hL10
            have ln' := Q10.len
            have k1w : w64 (k + 1) = k + 1 := w64_eq _ (by omega) (by omega)
            rw [k1w]
            refine dt_loop o10 Q10 S10 hn hl B10 k0 hk sn (fun v h' => ∃ m : Nat, m < m2 ∧ 0 ≤ k + 1 ∧ k + 1 + m = (n : Int) ∧ (∃ rows O, OwX h' (fun q => h.size ≤ q) a rows ∧ Sq n rows ∧ Small n O ∧ PM x ∧ x * det n O = det n (matL xss) ∧ v ≠ 0 ∧ Bar n (k + 1).toNat v O (fun i j => matL rows ((k + 1).toNat + i) ((k + 1).toNat + j)) ∧ (k + 1 = (n : Int) → v = det n O)) ∧ Fr (fun q => h.size ≤ q) h h') fun h11 rs o11 Q11 hrs f11 => ?_
            refine ⟨m2 - 1, by omega, by omega, by omega, ⟨rs, O', o11, Q11, S10, hx, hdet', hkk, ?_, ?_⟩, f10.trans f11⟩
            · rw [show (k + 1).toNat = k.toNat + 1 by omega]
              exact stp_next B10 hl hkk fun i' j' h1 h2 h3 h4 => by rw [hrs i' j' h2 h4, if_pos ⟨h1, h3⟩]
            · intro hk1
              have := B10.last (by omega)
              (try simp only at this)
              rw [Nat.add_zero] at this
              exact this
      · have hp : p = (n : Int) := by have := M.ge e3; omega
        exact ⟨fun _ => none_ hp, fun e5 => by simp only [decide_eq_false_iff_not] at e5; omega⟩
    · have hk : k = (n : Int) := by have := M.ge e2; omega
      have hd : sg * last = det n (matL xss) := by rw [hlast hk]; exact hdet
      have D0 := abs_le (Nat.le_trans (det_bound hb) (Nat.le_trans (dbN_le hn) (show dbN 7 ≤ 50400000000 by rw [dbN7]; exact Nat.le_refl _)))
      rw [hd, w64_eq _ (by clear HK; omega) (by clear HK; omega)]
      exact HK h6 (no_ f6)

theorem occ_append (x : Int) : ∀ a b : List Int, occ x (a ++ b) = occ x a + occ x b
  | [], b => by simp [occ]
  | y :: a, b => by rw [List.cons_append, occ, occ, occ_append x a b]; omega
/-- A row of the Laplace matrix, of all places. -/
def rowV (n : Nat) (p : Nat) (len : Int) (l : List Int) : List Int := (List.range n).map fun q : Nat => (if q = p then len else 0) - occ q l
theorem rowV_len (n p : Nat) (len : Int) (l : List Int) : (rowV n p len l).length = n := by simp [rowV]
theorem rowV_get {n p : Nat} {len : Int} {l : List Int} {q : Nat} (h : q < (rowV n p len l).length) : (rowV n p len l)[q] = (if q = p then len else 0) - occ q l := by simp [rowV]
theorem rowV_start {n p : Nat} (hp : p < n) (len : Int) : rowV n p len [] = (List.replicate n (0 : Int)).set p len := by
  apply List.ext_getElem (by simp [rowV_len])
  intro q h1 h2
  rw [rowV_get h1, List.getElem_set, List.getElem_replicate, occ]
  by_cases e : q = p
  · rw [if_pos e, if_pos e.symm]; omega
  · rw [if_neg e, if_neg fun x => e x.symm]; omega
theorem rowV_step {n p : Nat} {len x : Int} {l : List Int} (h0 : 0 ≤ x) (h1 : x < (n : Int)) : rowV n p len (l ++ [x]) = (rowV n p len l).set x.toNat ((rowV n p len l).getD x.toNat 0 - 1) := by
  have hx : x.toNat < (rowV n p len l).length := by rw [rowV_len]; omega
  apply List.ext_getElem (by simp [rowV_len])
  intro q h2 h3
  have h4 : q < (rowV n p len l).length := by rw [rowV_len] at h2 ⊢; exact h2
  rw [rowV_get h2, List.getElem_set, occ_append]
  simp only [occ]
  by_cases e : x.toNat = q
  · rw [if_pos e, if_pos (show x = (q : Int) by omega), getD_getI hx, rowV_get hx, e]; omega
  · rw [if_neg e, if_neg (show ¬ x = (q : Int) by omega), rowV_get h4]; omega
theorem occ_bound (x : Int) : ∀ l : List Int, 0 ≤ occ x l ∧ occ x l ≤ l.length
  | [] => by simp [occ]
  | y :: l => by
    have := occ_bound x l
    rw [occ, List.length_cons]
    split <;> omega
def lapRow (g : List (List Int)) (s : Int) (p : Nat) : List Int := (rowV g.length p (g.getD p []).length (g.getD p [])).eraseIdx s.toNat
def lapL (g : List (List Int)) (s : Int) : List (List Int) := ((List.range g.length).filter (notS s)).map (lapRow g s)
theorem erase_filter : ∀ (l : List Nat) (i : Nat) (h : i < l.length), l.Nodup → l.eraseIdx i = l.filter fun x => !decide (x = l[i])
  | x :: l, 0, _, hd => by
    rw [List.nodup_cons] at hd
    rw [List.eraseIdx_zero, List.tail_cons, List.getElem_cons_zero, List.filter_cons_of_neg (by simp)]
    refine (List.filter_eq_self.2 fun a ha => ?_).symm
    have : a ≠ x := fun e => hd.1 (e ▸ ha)
    simpa using this
  | x :: l, i + 1, h, hd => by
    rw [List.nodup_cons] at hd
    have hi : i < l.length := by simpa using h
    have hx : x ≠ l[i] := fun e => hd.1 (e ▸ List.getElem_mem hi)
    rw [List.eraseIdx_cons_succ, List.getElem_cons_succ, List.filter_cons_of_pos (by simpa using hx), erase_filter l i hi hd.2]
theorem erase_range {n : Nat} {s : Int} (h0 : 0 ≤ s) (h1 : s < (n : Int)) : (List.range n).eraseIdx s.toNat = (List.range n).filter (notS s) := by
  rw [erase_filter _ _ (by rw [List.length_range]; omega) List.nodup_range]
  refine List.filter_congr fun x _ => ?_
  rw [List.getElem_range]
  unfold notS
  congr 1
  by_cases e : x = s.toNat
  · rw [decide_eq_true e, decide_eq_true (by omega)]
  · rw [decide_eq_false e, decide_eq_false (by omega)]
theorem map_erase {α β : Type} (f : α → β) : ∀ (l : List α) (i : Nat), (l.map f).eraseIdx i = (l.eraseIdx i).map f
  | [], _ => by simp
  | x :: l, 0 => by simp
  | x :: l, i + 1 => by rw [List.map_cons, List.eraseIdx_cons_succ, List.eraseIdx_cons_succ, List.map_cons, map_erase f l i]
theorem lapRow_eq {g : List (List Int)} {s : Int} (h0 : 0 ≤ s) (h1 : s < (g.length : Int)) (p : Nat) : lapRow g s p = ((List.range g.length).filter (notS s)).map fun q : Nat => (if q = p then ((g.getD p []).length : Int) else 0) - occ q (g.getD p []) := by
  unfold lapRow rowV
  rw [map_erase, erase_range h0 h1]
theorem names_len {n : Nat} {s : Int} (h0 : 0 ≤ s) (h1 : s < (n : Int)) : ((List.range n).filter (notS s)).length = n - 1 := by
  rw [← erase_range h0 h1, List.length_eraseIdx, List.length_range, if_pos (by omega)]
theorem lap_sq {g : List (List Int)} {s : Int} (h0 : 0 ≤ s) (h1 : s < (g.length : Int)) : (lapL g s).length = g.length - 1 ∧ Sq (g.length - 1) (lapL g s) := by
  have e : (lapL g s).length = g.length - 1 := by unfold lapL; rw [List.length_map, names_len h0 h1]
  refine ⟨e, e, fun i hi => ?_⟩
  unfold lapL at hi ⊢
  rw [List.getElem_map, lapRow_eq h0 h1, List.length_map, names_len h0 h1]
theorem lap_mat {g : List (List Int)} {s : Int} (h0 : 0 ≤ s) (h1 : s < (g.length : Int)) {i j : Nat} (hi : i < g.length - 1) (hj : j < g.length - 1) : matL (lapL g s) i j = lapM (tsOf g s) i j := by
  have hl := names_len (n := g.length) h0 h1
  have hi' : i < ((List.range g.length).filter (notS s)).length := by omega
  have hj' : j < ((List.range g.length).filter (notS s)).length := by omega
  have e1 : ∀ k (hk : k < ((List.range g.length).filter (notS s)).length), nmT (tsOf g s) k = ((((List.range g.length).filter (notS s))[k] : Nat) : Int) ∧ exT (tsOf g s) k = g.getD ((List.range g.length).filter (notS s))[k] [] := fun k hk => by
    unfold nmT exT tsOf
    rw [List.getD_eq_getElem?_getD, List.getElem?_eq_getElem (by rw [List.length_map]; exact hk), List.getElem_map]
    exact ⟨rfl, rfl⟩
  have hr : i < (lapL g s).length := by rw [(lap_sq h0 h1).1]; exact hi
  have er : (lapL g s)[i] = lapRow g s ((List.range g.length).filter (notS s))[i] := by
    show (((List.range g.length).filter (notS s)).map (lapRow g s))[i]'_ = _
    exact List.getElem_map _
  unfold matL lapM
  rw [getD_get hr, er, lapRow_eq h0 h1, getD_getI (by rw [List.length_map]; exact hj'), List.getElem_map, (e1 i hi').2, (e1 j hj').1]
  congr 1
  by_cases e : i = j
  · subst e; rw [if_pos rfl, if_pos rfl]
  · rw [if_neg e, if_neg fun x => e ?_]
    have nd : ((List.range g.length).filter (notS s)).Nodup := List.Pairwise.filter _ List.nodup_range
    have hp := List.pairwise_iff_getElem.1 nd
    rcases Nat.lt_trichotomy i j with a | a | a
    · exact absurd x.symm (hp i j hi' hj' a)
    · exact a
    · exact absurd x (hp j i hj' hi' a)
theorem lap_small {g : List (List Int)} {s : Int} (hg : graphB g = true) (h0 : 0 ≤ s) (h1 : s < (g.length : Int)) : Small (g.length - 1) (matL (lapL g s)) := fun i j hi hj => by
  rw [lap_mat h0 h1 hi hj]
  unfold lapM
  have hb : (exT (tsOf g s) i).length ≤ 5 := by
    have hl := names_len (n := g.length) h0 h1
    unfold exT tsOf
    rw [List.getD_eq_getElem?_getD, List.getElem?_eq_getElem (by rw [List.length_map]; omega), List.getElem_map]
    have hm := List.getElem_mem (show i < ((List.range g.length).filter (notS s)).length by omega)
    rw [List.mem_filter, List.mem_range] at hm
    show (g.getD _ []).length ≤ 5
    rw [getD_get hm.1]
    exact (graph_mem hg (List.getElem_mem hm.1)).1
  have := occ_bound (nmT (tsOf g s) j) (exT (tsOf g s) i)
  split <;> omega
/-- The number of trees. -/
def treesN (g : List (List Int)) (s : Int) : Int := det (g.length - 1) (matL (lapL g s))
theorem treesN_eq {g : List (List Int)} {s : Int} (hg : graphB g = true) (h0 : 0 ≤ s) (h1 : s < (g.length : Int)) : treesN g s = ((treesL g s).length : Int) := by
  rw [trees_count hg h0 h1]
  exact det_congr fun i j hi hj => lap_mat h0 h1 hi hj

theorem k_laplace {S : Nat → Prop} {h : Heap} {g : Sl} {xss : List (List Int)} (G : RdR S h g xss) (hg : graphB xss = true) {s : Int} (s0 : 0 ≤ s) (s1 : s < (xss.length : Int)) (K : Value → Heap → Prop) (HK : ∀ t h', OwX h' (Iv h.size h'.size) t (lapL xss s) → Fr No h h' → K t.v h') : callM Try.prog 89 #[.agg #[g.v], VI s] h K := by
  refine v89 g s h K fun b1 h1 hb1 f1 hL1 => ?_
  have f1 := f1.in_nil
  have z1 := f1.size
  have l1 : b1 < h1.size := hL1.head.lt
  have gl := graph_len hg
  have gn := G.len
  have no_ : ∀ {x : Heap}, Fr (fun k => h.size ≤ k) h x → Fr No h x := fun f => f.mono fun k hk hk2 => absurd hk2 (by omega)
  refine eop_lit rIss (fun k => h1.size ≤ k) (fun _ h => h) 0 (by omega) [] rfl rfl fun o h2 n2 c2 o2 f2 m2 _ => ⟨o, rfl, hL1.of_no f2, ?_⟩
  have z2 := f2.size
  have o2' : OwX h2 (fun k => h1.size ≤ k) o [] := ⟨[], rfl, o2, fun i h1 => by simp at h1, fun i j h1 => by simp at h1, fun i h1 => by simp at h1⟩
  refine ⟨fun m x p h' => 0 ≤ p ∧ p + m = (xss.length : Int) ∧ OwX h' (fun k => h1.size ≤ k) x (((List.range p.toNat).filter (notS s)).map (lapRow xss s)) ∧ Fr (fun k => h.size ≤ k) h h' ∧ h1.size ≤ h'.size, ⟨xss.length, Int.le_refl _, by omega, o2', f1.of_no.trans f2.of_no, by omega⟩, ?_⟩
  rintro m x p h3 ⟨p0, p1, o3, f3, z3⟩ hL3
  have g3 := no_ f3
  refine ⟨fun e => ?_, fun e => ?_⟩
  · have hp := G.lt e
    have G3 := G.no g3
    obtain ⟨sp, cp, rp⟩ := G3.get p0 hp
    have pl := rp.len
    have eg : xss.getD p.toNat [] = xss[p.toNat]'(by omega) := getD_get (by omega)
    have gm := graph_mem hg (List.getElem_mem (show p.toNat < xss.length by omega))
    rw [G.succ p0 hp]
    refine ⟨G3.inb p0 hp, sp, cp, fun e2 => ?_, fun e2 => ?_⟩
    · simp only [decide_eq_true_eq] at e2
      refine ⟨m - 1, by omega, by omega, by omega, ?_, f3, z3⟩
      rw [show (p + 1).toNat = p.toNat + 1 by omega, List.range_succ, List.filter_append, List.filter_cons_of_neg (notS_f (by omega)), List.filter_nil, List.append_nil]
      exact o3
    simp only [decide_eq_false_iff_not] at e2
    refine eop_make rIs (fun k => h3.size ≤ k) (fun _ h => h) .i64 .i64 g.n g.n (Nat.le_refl _) (by omega) fun t h4 n4 c4 o4 f4 m4 _ => ⟨t, rfl, hL3.of_no f4, ?_⟩
    have z4 := f4.size
    have o4 : OwI h4 (fun k => h3.size ≤ k) t (List.replicate xss.length 0) := by
      have e : (List.replicate g.n [VI 0]).flatten = (List.replicate xss.length (0 : Int)).map VI := by rw [gn]; simp [List.flatten_replicate_singleton]
      rw [e] at o4; exact o4
    refine int_set (L := [(b1, [g.v])]) (F := fun k => h3.size ≤ k) o4 p0 (by rw [List.length_replicate]; omega) (hL3.of_no f4) (fun q hq => by
      simp only [List.mem_cons, List.not_mem_nil, or_false] at hq
      subst hq; show ¬ h3.size ≤ b1; omega) _ fun h5 o5 f5 V5 => ?_
    rw [pl, ← rowV_start (by omega)] at o5
    have f35 := (f4.of_no (T := fun k => h3.size ≤ k)).trans f5
    refine ⟨fun m2 j h' => 0 ≤ j ∧ j + m2 = ((xss[p.toNat]'(by omega)).length : Int) ∧ OwI h' (fun k => h3.size ≤ k) t (rowV xss.length p.toNat (xss[p.toNat]'(by omega)).length ((xss[p.toNat]'(by omega)).take j.toNat)) ∧ Fr (fun k => h3.size ≤ k) h3 h', ⟨(xss[p.toNat]'(by omega)).length, Int.le_refl _, by omega, by simpa using o5, f35⟩, ?_⟩
    rintro m2 j h6 ⟨j0, j1, o6, f6⟩ hL6
    have r6 := (rp.low.fr f6 fun k hk hk2 => by omega)
    refine ⟨fun e3 => ?_, fun e3 => ?_⟩
    · have hj := r6.lt e3
      have hv := gm.2 _ (List.getElem_mem (show j.toNat < (xss[p.toNat]'(by omega)).length by omega))
      have R6 := o6.rdF
      have rl := rowV_len xss.length p.toNat (xss[p.toNat]'(by omega)).length ((xss[p.toNat]'(by omega)).take j.toNat)
      have hvl : (xss[p.toNat]'(by omega))[j.toNat]'(by omega) < ((rowV xss.length p.toNat (xss[p.toNat]'(by omega)).length ((xss[p.toNat]'(by omega)).take j.toNat)).length : Int) := by rw [rl]; omega
      refine ⟨r6.inb j0 hj, _, r6.get j0 hj, RdI.inb R6 hv.1 hvl, _, RdI.get R6 hv.1 hvl, int_set (L := [(b1, [g.v])]) (F := fun k => h3.size ≤ k) o6 hv.1 hvl hL6 (fun q hq => by
        simp only [List.mem_cons, List.not_mem_nil, or_false] at hq
        subst hq; show ¬ h3.size ≤ b1; omega) _ fun h7 o7 f7 V7 => ?_⟩
      rw [RdI.succ r6 j0 hj]
      refine ⟨m2 - 1, by omega, by omega, by omega, ?_, f6.trans f7⟩
      rw [take_snoc _ j0 hj, rowV_step hv.1 hv.2, getD_getI (show ((xss[p.toNat]'(by omega))[j.toNat]'(by omega)).toNat < (rowV xss.length p.toNat (xss[p.toNat]'(by omega)).length ((xss[p.toNat]'(by omega)).take j.toNat)).length by omega)]
      have hb : w64 ((rowV xss.length p.toNat (xss[p.toNat]'(by omega)).length ((xss[p.toNat]'(by omega)).take j.toNat))[((xss[p.toNat]'(by omega))[j.toNat]'(by omega)).toNat]'(by omega) - 1) = (rowV xss.length p.toNat (xss[p.toNat]'(by omega)).length ((xss[p.toNat]'(by omega)).take j.toNat))[((xss[p.toNat]'(by omega))[j.toNat]'(by omega)).toNat]'(by omega) - 1 := by
        rw [rowV_get]
        have ob := occ_bound ((((xss[p.toNat]'(by omega))[j.toNat]'(by omega)).toNat : Nat) : Int) ((xss[p.toNat]'(by omega)).take j.toNat)
        rw [List.length_take] at ob
        have := gm.1
        exact w64_eq _ (by split <;> omega) (by split <;> omega)
      rw [hb] at o7
      exact o7
    · have hj := r6.ge e3
      rw [List.take_of_length_le (by omega)] at o6
      have sw : w64 (s + 1) = ((s.toNat + 1 : Nat) : Int) := by rw [w64_eq _ (by omega) (by omega)]; omega
      have ss : s = ((s.toNat : Nat) : Int) := by omega
      rw [sw]
      refine cast (congrArg (fun z : Int => callM Try.prog 128 #[t.v, VI z, VI (s.toNat + 1 : Nat)] h6 _) ss.symm) ?_
      refine k_Delete o6 (i := s.toNat) (by rw [rowV_len]; omega) _ fun t8 h8 o8 f8 m8 => ⟨t8, rfl, ?_, ?_⟩
      · exact hL6.fr f8 fun q hq hk => by
          simp only [List.mem_cons, List.not_mem_nil, or_false] at hq
          subst hq
          have := (Ow.foot o6 hk).1
          (try simp only at this)
          omega
      have f8' : Fr (fun k => h3.size ≤ k) h6 h8 := f8.mono fun k _ hk => (Ow.foot o6 hk).1
      have f38 := f6.trans f8'
      have z8 := f38.size
      have hL8 : Vars h8 [(b1, [g.v])] := hL6.fr f8' fun q hq hk => by
        simp only [List.mem_cons, List.not_mem_nil, or_false] at hq
        subst hq
        (try simp only at hk)
        omega
      refine eop_putR (lo := h1.size) (m := h3.size) (OwR.fr (OwR.toIv o3) f38 fun k hk hk2 hk3 => by have := hk2.2; omega) o8 z3 z8 hL8 (fun q hq => by
        simp only [List.mem_cons, List.not_mem_nil, or_false] at hq
        subst hq; exact l1) (by
          rw [List.length_map]
          have := List.length_filter_le (notS s) (List.range p.toNat)
          rw [List.length_range] at this
          omega) _ fun t2 h10 o10 f10 V10 => ?_
      refine ⟨m - 1, by omega, by omega, by omega, ?_, (f3.trans (f38.mono fun k _ hk => by omega)).trans (f10.mono fun k _ hk => by omega), by have := f10.size; omega⟩
      rw [show (p + 1).toNat = p.toNat + 1 by omega, List.range_succ, List.filter_append, List.filter_cons_of_pos (notS_t.2 (by omega)), List.filter_nil, List.map_append, List.map_cons, List.map_nil]
      have el : lapRow xss s p.toNat = (rowV xss.length p.toNat (xss[p.toNat]'(by omega)).length (xss[p.toNat]'(by omega))).eraseIdx s.toNat := by unfold lapRow; rw [eg]
      rw [el]
      exact o10
  · have hp := G.ge e
    have ep : p.toNat = xss.length := by omega
    rw [ep] at o3
    exact HK x h3 (o3.mono fun k hk hk2 => ⟨by omega, hk⟩) g3

def szR (g : List (List Int)) (s : Int) (p : Nat) : Nat := if (p : Int) = s ∨ (g.getD p []).length = 0 then 1 else (g.getD p []).length
theorem cand_sz (g : List (List Int)) (s : Int) (p : Nat) : cand g s p = rngI (szR g s p) := by
  unfold cand szR
  split
  · rfl
  · rfl
theorem allRot_sz (g : List (List Int)) (s : Int) : allRot g s = prodL (((List.range g.length).map (szR g s)).map rngI) := by
  unfold allRot
  rw [List.map_map]
  congr 1
  exact List.map_congr_left fun p _ => cand_sz g s p
theorem szR_pos (g : List (List Int)) (s : Int) : ∀ n, n ∈ (List.range g.length).map (szR g s) → 1 ≤ n := fun n hn => by
  obtain ⟨p, _, rfl⟩ := List.mem_map.1 hn
  unfold szR
  split <;> omega
theorem rot_next {g : List (List Int)} {s : Int} {pre post : List (List Int)} {x : List Int} (h : allRot g s = pre ++ x :: post) : nextD ((List.range g.length).map (szR g s)) x = post.head? := by
  have := chain_all _ (szR_pos g s)
  rw [← allRot_sz, h] at this
  have h2 := Ch.at this
  cases post with
  | nil => exact h2
  | cons y l => exact h2
theorem rot_mem {g : List (List Int)} {s : Int} {x : List Int} (h : x ∈ allRot g s) : x.length = g.length ∧ ∀ i (hi : i < x.length), 0 ≤ x[i] ∧ x[i] < (szR g s i : Int) := by
  obtain ⟨e1, e2⟩ := (mem_prodL _ _).1 h
  rw [List.length_map, List.length_range] at e1
  refine ⟨e1, fun i hi => ?_⟩
  have := e2 i hi (by rw [List.length_map, List.length_range]; omega)
  rw [List.getElem_map, List.getElem_range, cand_sz] at this
  exact mem_rngI.1 this
def curR (x : List Int) (p : Nat) : List Int := x.take p ++ List.replicate (x.length - p) 0
theorem curR_len {x : List Int} {p : Nat} (h : p ≤ x.length) : (curR x p).length = x.length := by simp [curR]; omega
theorem curR_all (x : List Int) : curR x x.length = x := by simp [curR]
theorem curR_get {x : List Int} {p : Nat} (h : p < x.length) (h' : p < (curR x (p + 1)).length) : (curR x (p + 1))[p] = x[p] := by
  have e : (curR x (p + 1))[p]? = x[p]? := by
    unfold curR
    rw [List.getElem?_append_left (by rw [List.length_take]; omega), List.getElem?_take_of_lt (by omega)]
  rw [List.getElem?_eq_getElem h', List.getElem?_eq_getElem h] at e
  exact Option.some.inj e
theorem curR_set {x : List Int} {p : Nat} (h : p < x.length) (v : Int) : (curR x (p + 1)).set p v = x.take p ++ v :: List.replicate (x.length - (p + 1)) 0 := by
  unfold curR
  rw [List.take_succ_eq_append_getElem h, List.append_assoc, List.set_append_right _ _ (by rw [List.length_take]; omega), List.length_take, Nat.min_eq_left (by omega), Nat.sub_self]
  rfl
theorem curR_zero {x : List Int} {p : Nat} (h : p < x.length) : (curR x (p + 1)).set p 0 = curR x p := by
  rw [curR_set h]
  unfold curR
  rw [show x.length - p = (x.length - (p + 1)) + 1 by omega, List.replicate_succ]

theorem k_allRotors {S : Nat → Prop} {h : Heap} {g : Sl} {xss : List (List Int)} (G : RdR S h g xss) (hg : graphB xss = true) (s : Int) (f : Value) (I : Nat → Nat → List (List Int) → Heap → Prop) (St Go : List (List Int) → Prop) (hGo : Go [])
    (hG : ∀ a b pre h', I a b pre h' → RdR S h' g xss)
    (hI0 : ∀ h', Fr No h h' → I h.size h'.size [] h') (hIf : ∀ a b pre h1 h2, I a b pre h1 → Fr (Iv a b) h1 h2 → a = h.size → I a b pre h2)
    (hS : ∀ b pre x post t h1 (K : Value → Heap → Prop), allRot xss s = pre ++ x :: post → Go pre → I h.size b pre h1 → b ≤ h1.size → RdI (Iv h.size b) h1 t x → (∀ go h2, I h.size b (pre ++ [x]) h2 → Fr (fun k => ¬ Iv h.size b k) h1 h2 → (go = false → St (pre ++ [x])) → (go = true → Go (pre ++ [x])) → K (VB go) h2) → callV Try.prog f [t.v] h1 K)
    (K : Value → Heap → Prop) (HK : ∀ b pre post h', allRot xss s = pre ++ post → (post = [] ∨ St pre) → I h.size b pre h' → K (.tuple #[]) h') : callM Try.prog 129 #[.agg #[g.v], VI s, f] h K := by
  refine v129 g s f h K fun b1 h1 hb1 f1 hL1 => ?_
  have f1 := f1.in_nil
  have z1 := f1.size
  have l1 : b1 < h1.size := hL1.head.lt
  have gl := graph_len hg
  have gn := G.len
  refine eop_make rIs (fun k => h1.size ≤ k) (fun _ h => h) .i64 .i64 g.n g.n (Nat.le_refl _) (by omega) fun t h2 n2 c2 o2 f2 m2 _ => ⟨t, rfl, hL1.of_no f2, ?_⟩
  have z2 := f2.size
  have tn : t.n = xss.length := by omega
  obtain ⟨tl, htl⟩ := prodL_head _ (szR_pos xss s)
  rw [← allRot_sz] at htl
  have zl : zerL ((List.range xss.length).map (szR xss s)) = List.replicate xss.length 0 := by
    unfold zerL
    rw [List.map_map]
    apply List.ext_getElem (by simp)
    intro i h1 h2
    simp
  have o2 : OwI h2 (Iv h1.size h2.size) t (zerL ((List.range xss.length).map (szR xss s))) := by
    have e : (List.replicate g.n [VI 0]).flatten = (List.replicate xss.length (0 : Int)).map VI := by rw [gn]; simp [List.flatten_replicate_singleton]
    rw [e] at o2
    rw [zl]
    exact o2.mono fun k hk hF => ⟨hF, (Ow.foot o2 hk).2⟩
  have oth : ∀ {q : Nat × List Value}, q ∈ [(b1, [g.v])] → Iv h.size h2.size q.1 ∧ ¬ Iv h1.size h2.size q.1 := fun hq => by
    simp only [List.mem_cons, List.not_mem_nil, or_false] at hq
    subst hq
    exact ⟨⟨hb1, by show b1 < _; omega⟩, fun hk => by have := hk.1; (try simp only at this); omega⟩
  have wide : ∀ {k}, Iv h1.size h2.size k → Iv h.size h2.size k := fun hk => ⟨by have := hk.1; omega, hk.2⟩
  refine ⟨fun m h' => ∃ pre x post, allRot xss s = pre ++ x :: post ∧ post.length = m ∧ Go pre ∧ OwI h' (Iv h1.size h2.size) t x ∧ I h.size h2.size pre h' ∧ h2.size ≤ h'.size, ⟨tl.length, [], _, tl, htl, rfl, hGo, o2, hI0 _ (f1.no_trans f2), Nat.le_refl _⟩, ?_⟩
  rintro m h3 ⟨pre, x, post, eA, em, go3, o3, I3, z3⟩ hL3
  have xm : x ∈ allRot xss s := by rw [eA]; simp
  obtain ⟨xl, xr⟩ := rot_mem xm
  have hnx := rot_next eA
  refine hS h2.size pre x post t h3 _ eA go3 I3 z3 (o3.rdF.mono fun k hk => wide hk) fun go h4 I4 f4 hgo hgo2 => ⟨go, rfl, hL3.fr f4 fun q hq hn => hn (oth hq).1, fun e => ?_, fun eg => ?_⟩
  · simp only [Bool.not_eq_true'] at e
    exact HK h2.size (pre ++ [x]) post h4 (by rw [eA]; simp) (.inr (hgo e)) I4
  have z4 := f4.size
  have o4 : OwI h4 (Iv h1.size h2.size) t x := Ow.fr o3 f4 fun k hk hn => hn (wide (Ow.foot o3 hk).1)
  have w1 : w64 ((t.n : Int) - 1) = (xss.length : Int) - 1 := by rw [w64_eq _ (by omega) (by omega)]; omega
  rw [w1]
  refine ⟨fun m2 p h' => m2 = (p + 1).toNat ∧ -1 ≤ p ∧ p < (xss.length : Int) ∧ OwI h' (Iv h1.size h2.size) t (curR x (p + 1).toNat) ∧ (∀ i (hi : i < x.length), p < (i : Int) → (szR xss s i : Int) ≤ x[i] + 1) ∧ I h.size h2.size (pre ++ [x]) h' ∧ h2.size ≤ h'.size, ⟨xss.length, by omega, by omega, by omega, by rw [show ((xss.length : Int) - 1 + 1).toNat = x.length by omega, curR_all]; exact o4, fun i hi hp => by omega, I4, by omega⟩, ?_⟩
  rintro m2 p h5 ⟨em2, p0, p1, o5, hmx, I5, z5⟩ hL5
  have cl : (curR x (p + 1).toNat).length = xss.length := by rw [curR_len (by omega), xl]
  have hoff : ∀ q, q ∈ [(b1, [g.v])] → ¬ Iv h1.size h2.size q.1 := fun q hq => (oth hq).2
  refine ⟨fun e2 => ?_, fun e2 => ?_⟩
  · simp only [decide_eq_true_eq] at e2
    have pl : p < ((curR x (p + 1).toNat).length : Int) := by omega
    have pw : w64 (p - 1) = p - 1 := w64_eq _ (by omega) (by omega)
    have pn : p.toNat < x.length := by omega
    have e1 : (p + 1).toNat = p.toNat + 1 := by omega
    -- a digit that is the greatest becomes 0
    have zero : ∀ (n : Nat), (szR xss s p.toNat : Int) ≤ x[p.toNat] + 1 → InB t p ∧ Writable h5 (t.at p 1) ∧ Vars (hset h5 (t.at p 1) (VI 0)) [(b1, [g.v])] ∧ ∀ h8, h8 = hset h5 (t.at p 1) (VI 0) → Vars h8 [(b1, [g.v])] → ∃ m' : Nat, m' < m2 ∧ (m' = (w64 (p - 1) + 1).toNat ∧ -1 ≤ w64 (p - 1) ∧ w64 (p - 1) < (xss.length : Int) ∧ OwI h8 (Iv h1.size h2.size) t (curR x (w64 (p - 1) + 1).toNat) ∧ (∀ i (hi : i < x.length), w64 (p - 1) < (i : Int) → (szR xss s i : Int) ≤ x[i] + 1) ∧ I h.size h2.size (pre ++ [x]) h8 ∧ h2.size ≤ h8.size) := fun n hx => by
      refine int_set o5 e2 pl hL5 hoff _ fun h8 o8 f8 V8 => ?_
      rw [pw, show (p - 1 + 1).toNat = p.toNat by omega]
      refine ⟨p.toNat, by omega, rfl, by omega, by omega, ?_, fun i hi hp => ?_, hIf _ _ _ _ _ I5 (f8.mono fun k _ hk => wide hk) rfl, by have := f8.size; omega⟩
      · rw [e1, curR_zero pn] at o8
        exact o8
      · by_cases hh : i = p.toNat
        · subst hh; exact hx
        · exact hmx i hi (by omega)
    refine ⟨fun e3 => ?_, fun e3 => ?_⟩
    · simp only [decide_eq_true_eq] at e3
      refine zero 0 ?_
      have : szR xss s p.toNat = 1 := by unfold szR; rw [if_pos (.inl (by omega))]
      have := (xr p.toNat pn).1
      omega
    simp only [decide_eq_false_iff_not] at e3
    have G5 := hG _ _ _ _ I5
    obtain ⟨sp, cp, rp⟩ := G5.get e2 (by omega)
    have spl := rp.len
    have gm := graph_mem hg (List.getElem_mem (show p.toNat < xss.length by omega))
    have sw : w64 ((sp.n : Int) - 1) = (sp.n : Int) - 1 := w64_eq _ (by omega) (by omega)
    have ex : (curR x (p + 1).toNat)[p.toNat]'(by omega) = x[p.toNat] := by
      have := curR_get pn (by rw [curR_len (by omega)]; exact pn)
      simp only [e1]
      exact this
    have R5 := o5.rdF
    have gd : xss.getD p.toNat [] = xss[p.toNat]'(by omega) := getD_get (by omega)
    refine ⟨RdI.inb R5 e2 pl, _, RdI.get R5 e2 pl, G5.inb e2 (by omega), sp, cp, fun e4 => ?_, fun e4 => ⟨fun e5 => ?_, fun _ => ?_⟩⟩
    · rw [sw, ex] at e4
      simp only [decide_eq_true_eq] at e4
      refine zero 0 ?_
      unfold szR
      rw [gd]
      have := (xr p.toNat pn).1
      split <;> omega
    · simp only [decide_eq_true_eq] at e5; omega
    · rw [sw, ex] at e4
      simp only [decide_eq_false_iff_not] at e4
      refine ⟨RdI.inb R5 e2 pl, _, RdI.get R5 e2 pl, ?_⟩
      rw [ex, w64_eq (x[p.toNat] + 1) (by have := (xr p.toNat pn).1; omega) (by have := gm.1; omega)]
      refine int_set o5 e2 pl hL5 hoff _ fun h8 o8 f8 V8 => ?_
      have nl : ((List.range xss.length).map (szR xss s)).length = xss.length := by simp
      have ng : ∀ i (hi : i < ((List.range xss.length).map (szR xss s)).length), ((List.range xss.length).map (szR xss s))[i] = szR xss s i := fun i hi => by rw [List.getElem_map, List.getElem_range]
      have x0 := (xr p.toNat pn).1
      have hs := nextD_some ((List.range xss.length).map (szR xss s)) x p.toNat (by omega) pn (by omega) (by
        rw [ng]
        unfold szR
        rw [gd, if_neg (by rintro (a | a) <;> omega)]
        omega) fun i hi hi' hpi => by rw [ng]; exact hmx i hi (by omega)
      rw [hs] at hnx
      cases post with
      | nil => cases hnx
      | cons y post' =>
        simp only [List.head?_cons, Option.some.injEq] at hnx
        have em : post'.length + 1 = m := em
        refine ⟨post'.length, by omega, pre ++ [x], y, post', by rw [eA]; simp, rfl, hgo2 (by simpa using eg), ?_, hIf _ _ _ _ _ I5 (f8.mono fun k _ hk => wide hk) rfl, by have := f8.size; omega⟩
        rw [e1, curR_set pn] at o8
        rw [← hnx]
        have ez : zerL (((List.range xss.length).map (szR xss s)).drop (p.toNat + 1)) = List.replicate (x.length - (p.toNat + 1)) 0 := by
          unfold zerL
          apply List.ext_getElem (by simp; omega)
          intro i h1 h2
          simp
        rw [ez]
        exact o8
  · simp only [decide_eq_false_iff_not] at e2
    refine ⟨fun _ => ?_, fun e3 => by simp only [decide_eq_false_iff_not] at e3; omega⟩
    have nl : ((List.range xss.length).map (szR xss s)).length = xss.length := by simp
    have hn := nextD_none ((List.range xss.length).map (szR xss s)) x (by omega) fun i hi hi' => by
      rw [List.getElem_map, List.getElem_range]
      exact hmx i hi (by omega)
    rw [hn] at hnx
    cases post with
    | nil => exact HK h2.size (pre ++ [x]) [] h5 (by rw [eA]; simp) (.inl rfl) I5
    | cons y post' => cases hnx

/-! Unicycles and trees; lists in lexicographic order. -/
theorem nx_set {g : List (List Int)} {rs : List Int} {p c q : Int} (p0 : 0 ≤ p) (h : q ≠ p) : nx g (rs.set p.toNat c) q = nx g rs q := by
  unfold nx
  by_cases h0 : q < 0
  · rw [if_pos h0, if_pos h0]
  · have : (rs.set p.toNat c).getD q.toNat 0 = rs.getD q.toNat 0 := by
      rw [List.getD_eq_getElem?_getD, List.getElem?_set, if_neg (by omega), List.getD_eq_getElem?_getD]
    rw [this]
theorem itx_set {g : List (List Int)} {rs : List Int} {p c q : Int} (p0 : 0 ≤ p) : ∀ m, (∀ j, j < m → itx g rs q j ≠ p) → itx g (rs.set p.toNat c) q m = itx g rs q m
  | 0, _ => rfl
  | m + 1, h => by rw [itx, itx, itx_set p0 m fun j hj => h j (by omega), nx_set p0 (h m (by omega))]
theorem itx_add2 {g : List (List Int)} {rs : List Int} (p : Int) (m : Nat) : ∀ k, itx g rs p (m + k) = itx g rs (itx g rs p m) k
  | 0 => rfl
  | k + 1 => by rw [← Nat.add_assoc, itx, itx_add2 p m k]; rfl
theorem wok_at {g : List (List Int)} {rs : List Int} {a b : Int} (W : WOK g (rs, a)) (h0 : 0 ≤ b) (h1 : b < (g.length : Int)) : WOK g (rs, b) := ⟨W.graph, W.len, h0, h1, W.rot⟩
theorem wok_put {g : List (List Int)} {rs : List Int} {a c : Int} (W : WOK g (rs, a)) {p : Nat} (h : p < g.length) (c0 : 0 ≤ c) (c1 : c ≤ max ((g[p].length : Int) - 1) 0) : WOK g (rs.set p c, a) := ⟨W.graph, by simpa using W.len, W.lo, W.hi, fun i x y => by
  (try simp only at x ⊢)
  rw [List.getElem_set]
  split
  · rename_i e; subst e; exact ⟨c0, c1⟩
  · exact W.rot i (by rw [List.length_set] at x; exact x) y⟩
theorem uni_tree {g : List (List Int)} {rs : List Int} {p : Int} (W : WOK g (rs, p)) : uniB g rs p = true ↔ (g.getD p.toNat []).length ≠ 0 ∧ treeB g (rs.set p.toNat 0) p = true := by
  have p0 : 0 ≤ p := W.lo
  have p1 : p < (g.length : Int) := W.hi
  have hp : p.toNat < g.length := by omega
  have W' : WOK g (rs.set p.toNat 0, p) := wok_put W hp (Int.le_refl _) (by omega)
  constructor
  · intro h
    have hu : ∀ q : Nat, q < g.length → 0 ≤ itx g rs q g.length ∧ ∃ k, g.length ≤ k ∧ itx g rs q k = p := by
      refine Classical.byContradiction fun hh => ?_
      rw [uniB_f hh] at h
      cases h
    refine ⟨fun hz => ?_, (treeB_iff W' p0).2 fun q hq => ?_⟩
    · obtain ⟨a, k, hk, e⟩ := hu p.toNat hp
      have : itx g rs ((p.toNat : Nat) : Int) 1 < 0 := by
        show nx g rs ((p.toNat : Nat) : Int) < 0
        unfold nx
        rw [if_neg (by omega), show (((p.toNat : Nat) : Int)).toNat = p.toNat by omega, if_pos hz]
        omega
      have := itx_neg_mono this (show 1 ≤ g.length by omega)
      omega
    · obtain ⟨_, k, _, e⟩ := hu q hq
      obtain ⟨m, _, m1, m2⟩ := first_hit k e
      exact ⟨m, by rw [itx_set p0 m m2]; exact m1⟩
  · rintro ⟨hz, ht⟩
    have ht := (treeB_iff W' p0).1 ht
    have hr : ∀ q : Nat, q < g.length → ∃ m, itx g rs q m = p := fun q hq => by
      obtain ⟨k, e⟩ := ht q hq
      obtain ⟨m, _, m1, m2⟩ := first_hit k e
      refine ⟨m, ?_⟩
      have := itx_set (c := rs.getD p.toNat 0) (rs := rs.set p.toNat 0) p0 m m2
      have e2 : (rs.set p.toNat 0).set p.toNat (rs.getD p.toNat 0) = rs := by
        have hl : p.toNat < rs.length := by have : rs.length = g.length := W.len; omega
        rw [List.set_set, getD_getI hl, List.set_getElem_self]
      rw [e2] at this
      rw [this]; exact m1
    have hn := nx_some W p0 p1 (by rw [getD_get hp] at hz; exact hz)
    obtain ⟨_, hm, _, en⟩ := hn
    have hv := (graph_mem W.graph (List.getElem_mem (show p.toNat < g.length from hp))).2 _ (List.getElem_mem hm)
    rw [← en] at hv
    obtain ⟨c, hc⟩ := hr (nx g rs p).toNat (by omega)
    rw [show (((nx g rs p).toNat : Nat) : Int) = nx g rs p by omega, itx_cons] at hc
    have loop : ∀ j, itx g rs p (j * (c + 1)) = p := by
      intro j
      induction j with
      | zero => rw [Nat.zero_mul]; rfl
      | succ j ih => rw [Nat.succ_mul, itx_add2, ih, hc]
    refine uniB_t fun q hq => ?_
    obtain ⟨m, hm'⟩ := hr q hq
    have hk : itx g rs q (m + g.length * (c + 1)) = p := by rw [itx_add2, hm', loop]
    have hle : g.length ≤ m + g.length * (c + 1) := by
      have : g.length * 1 ≤ g.length * (c + 1) := Nat.mul_le_mul_left _ (by omega)
      omega
    refine ⟨?_, _, hle, hk⟩
    by_cases hx : itx g rs q g.length < 0
    · have := itx_neg_mono hx hle; omega
    · omega
def ltL : List Int → List Int → Bool
  | x :: a, y :: b => if x = y then ltL a b else decide (x < y)
  | _, _ => false
theorem ltL_irr : ∀ a, ltL a a = false
  | [] => rfl
  | x :: a => by rw [ltL, if_pos rfl, ltL_irr a]
theorem ltL_asym : ∀ {a b : List Int}, ltL a b = true → ltL b a = false
  | [], _, h => by simp [ltL] at h
  | x :: a, [], h => by simp [ltL] at h
  | x :: a, y :: b, h => by
    rw [ltL] at h ⊢
    by_cases e : x = y
    · rw [if_pos e] at h
      rw [if_pos e.symm]
      exact ltL_asym h
    · rw [if_neg e] at h
      rw [if_neg fun z => e z.symm]
      simp only [decide_eq_true_eq, decide_eq_false_iff_not] at h ⊢
      omega
theorem ltL_trans : ∀ {a b c : List Int}, ltL a b = true → ltL b c = true → ltL a c = true
  | [], b, c, h, _ => by simp [ltL] at h
  | x :: a, [], c, h, _ => by simp [ltL] at h
  | x :: a, y :: b, [], _, h => by simp [ltL] at h
  | x :: a, y :: b, z :: c, h1, h2 => by
    rw [ltL] at h1 h2 ⊢
    by_cases e1 : x = y
    · rw [if_pos e1] at h1
      by_cases e2 : y = z
      · rw [if_pos e2] at h2
        rw [if_pos (e1.trans e2)]
        exact ltL_trans h1 h2
      · rw [if_neg e2] at h2
        rw [if_neg (by omega), e1]
        exact h2
    · rw [if_neg e1] at h1
      simp only [decide_eq_true_eq] at h1
      by_cases e2 : y = z
      · rw [if_neg (by omega), ← e2]
        simpa using h1
      · rw [if_neg e2] at h2
        simp only [decide_eq_true_eq] at h2
        rw [if_neg (by omega)]
        simp only [decide_eq_true_eq]
        omega
theorem ltL_tri : ∀ {a b : List Int}, a.length = b.length → ltL a b = false → a ≠ b → ltL b a = true
  | [], [], _, _, h => absurd rfl h
  | [], _ :: _, h, _, _ => by simp at h
  | _ :: _, [], h, _, _ => by simp at h
  | x :: a, y :: b, hl, h1, h2 => by
    rw [ltL] at h1 ⊢
    by_cases e : x = y
    · rw [if_pos e] at h1
      rw [if_pos e.symm]
      exact ltL_tri (by simpa using hl) h1 fun hh => h2 (by rw [e, hh])
    · rw [if_neg e] at h1
      rw [if_neg fun z => e z.symm]
      simp only [decide_eq_true_eq, decide_eq_false_iff_not] at h1 ⊢
      omega
theorem sorted_ext : ∀ {l1 l2 : List (List Int)}, l1.Pairwise (fun a b => ltL a b = true) → l2.Pairwise (fun a b => ltL a b = true) → (∀ x, x ∈ l1 ↔ x ∈ l2) → l1 = l2
  | [], [], _, _, _ => rfl
  | [], y :: l2, _, _, h => by have := (h y).2 (List.mem_cons_self ..); simp at this
  | x :: l1, [], _, _, h => by have := (h x).1 (List.mem_cons_self ..); simp at this
  | x :: l1, y :: l2, h1, h2, h => by
    rw [List.pairwise_cons] at h1 h2
    have e : x = y := by
      rcases List.mem_cons.1 ((h x).1 (List.mem_cons_self ..)) with e | e
      · exact e
      rcases List.mem_cons.1 ((h y).2 (List.mem_cons_self ..)) with e' | e'
      · exact e'.symm
      have a := ltL_asym (h1.1 y e')
      rw [h2.1 x e] at a
      cases a
    subst e
    rw [sorted_ext h1.2 h2.2 fun z => ⟨fun hz => ?_, fun hz => ?_⟩]
    · rcases List.mem_cons.1 ((h z).1 (List.mem_cons_of_mem _ hz)) with e | e
      · have := h1.1 z hz
        rw [e, ltL_irr] at this
        cases this
      · exact e
    · rcases List.mem_cons.1 ((h z).2 (List.mem_cons_of_mem _ hz)) with e | e
      · have := h2.1 z hz
        rw [e, ltL_irr] at this
        cases this
      · exact e
/-- A list is put into its place. -/
def insW (w : List Int) : List (List Int) → List (List Int)
  | [] => [w]
  | x :: l => if ltL x w = true then x :: insW w l else w :: x :: l
theorem mem_insW {w x : List Int} : ∀ {l : List (List Int)}, x ∈ insW w l ↔ x = w ∨ x ∈ l
  | [] => by simp [insW]
  | y :: l => by
    rw [insW]
    split
    · rw [List.mem_cons, mem_insW (l := l), List.mem_cons]
      constructor
      · rintro (a | a | a)
        · exact .inr (.inl a)
        · exact .inl a
        · exact .inr (.inr a)
      · rintro (a | a | a)
        · exact .inr (.inl a)
        · exact .inl a
        · exact .inr (.inr a)
    · rw [List.mem_cons]
theorem insW_len (w : List Int) : ∀ l : List (List Int), (insW w l).length = l.length + 1
  | [] => rfl
  | y :: l => by
    rw [insW]
    split
    · rw [List.length_cons, insW_len w l, List.length_cons]
    · rfl
theorem insW_sorted {w : List Int} : ∀ {l : List (List Int)}, l.Pairwise (fun a b => ltL a b = true) → (∀ x, x ∈ l → x.length = w.length ∧ x ≠ w) → (insW w l).Pairwise (fun a b => ltL a b = true)
  | [], _, _ => List.pairwise_singleton _ _
  | y :: l, h, hw => by
    rw [List.pairwise_cons] at h
    rw [insW]
    split
    · rename_i hy
      rw [List.pairwise_cons]
      refine ⟨fun z hz => ?_, insW_sorted h.2 fun x hx => hw x (List.mem_cons_of_mem _ hx)⟩
      rcases mem_insW.1 hz with e | e
      · rw [e]; exact hy
      · exact h.1 z e
    · rename_i hy
      have hy : ltL y w = false := by simpa using hy
      obtain ⟨a, b⟩ := hw y (List.mem_cons_self ..)
      have wy := ltL_tri a hy b
      rw [List.pairwise_cons, List.pairwise_cons]
      refine ⟨fun z hz => ?_, h⟩
      rcases List.mem_cons.1 hz with e | e
      · rw [e]; exact wy
      · exact ltL_trans wy (h.1 z e)
theorem insW_cut {w : List Int} : ∀ {l : List (List Int)} {i : Nat}, i ≤ l.length → (∀ j (h : j < l.length), j < i → ltL l[j] w = true) → (∀ h : i < l.length, ltL l[i] w = false) → insW w l = l.take i ++ w :: l.drop i
  | [], i, h, _, _ => by
    have : i = 0 := by simpa using h
    subst this; rfl
  | y :: l, 0, _, _, h => by
    have := h (by simp)
    simp only [List.getElem_cons_zero] at this
    rw [insW, if_neg (by rw [this]; simp)]
    rfl
  | y :: l, i + 1, hi, h1, h2 => by
    have := h1 0 (by simp) (by omega)
    simp only [List.getElem_cons_zero] at this
    rw [insW, if_pos this, insW_cut (l := l) (i := i) (by simpa using hi) (fun j hj hji => h1 (j + 1) (by simpa using hj) (by omega)) fun h => h2 (by simpa using h)]
    rfl
theorem prodL_sorted : ∀ cs : List (List Int), (∀ c, c ∈ cs → c.Pairwise (· < ·)) → (prodL cs).Pairwise fun a b => ltL a b = true
  | [], _ => List.pairwise_singleton _ _
  | c :: cs, h => by
    have ih := prodL_sorted cs fun d hd => h d (List.mem_cons_of_mem _ hd)
    have hc := h c (List.mem_cons_self ..)
    rw [prodL]
    have : ∀ d : List Int, d.Pairwise (· < ·) → (d.flatMap fun x => (prodL cs).map (x :: ·)).Pairwise fun a b => ltL a b = true := by
      intro d
      induction d with
      | nil => intro _; exact List.Pairwise.nil
      | cons x d ihd =>
        intro hd
        rw [List.pairwise_cons] at hd
        rw [List.flatMap_cons, List.pairwise_append]
        refine ⟨?_, ihd hd.2, fun a ha b hb => ?_⟩
        · rw [List.pairwise_map]
          exact ih.imp fun h => by rw [ltL, if_pos rfl]; exact h
        · obtain ⟨a', _, rfl⟩ := List.mem_map.1 ha
          obtain ⟨y, hy, hb'⟩ := List.mem_flatMap.1 hb
          obtain ⟨b', _, rfl⟩ := List.mem_map.1 hb'
          have := hd.1 y hy
          rw [ltL, if_neg (by omega)]
          simpa using this
    exact this c hc
theorem rngI_sorted (n : Nat) : (rngI n).Pairwise (· < ·) := by
  unfold rngI
  rw [List.pairwise_map]
  exact List.pairwise_lt_range.imp fun h => by omega
theorem allRot_sorted (g : List (List Int)) (s : Int) : (allRot g s).Pairwise fun a b => ltL a b = true := by
  refine prodL_sorted _ fun c hc => ?_
  obtain ⟨p, _, rfl⟩ := List.mem_map.1 hc
  unfold cand
  split
  · exact List.pairwise_singleton _ _
  · exact rngI_sorted _
noncomputable def allUni (g : List (List Int)) (p : Int) : List (List Int) := (allRot g (-1)).filter fun rs => uniB g rs p
theorem mem_allRot {g : List (List Int)} {s : Int} {rs : List Int} : rs ∈ allRot g s ↔ rs.length = g.length ∧ ∀ i (h : i < rs.length), rs[i] ∈ cand g s i := by
  unfold allRot
  have ll : ((List.range g.length).map (cand g s)).length = g.length := by rw [List.length_map, List.length_range]
  rw [mem_prodL]
  constructor
  · rintro ⟨a, b⟩
    refine ⟨a.trans ll, fun i h => ?_⟩
    have := b i h (by rw [List.length_map, List.length_range]; omega)
    rw [List.getElem_map, List.getElem_range] at this
    exact this
  · rintro ⟨a, b⟩
    refine ⟨a.trans ll.symm, fun i h1 h2 => ?_⟩
    rw [List.getElem_map, List.getElem_range]
    exact b i h1
theorem cand_ne {g : List (List Int)} {s t : Int} {i : Nat} (h : (i : Int) ≠ s) (h' : (i : Int) ≠ t) : cand g s i = cand g t i := by
  unfold cand
  by_cases e : (g.getD i []).length = 0
  · rw [if_pos (.inr e), if_pos (.inr e)]
  · rw [if_neg (by rintro (a | a); exact h a; exact e a), if_neg (by rintro (a | a); exact h' a; exact e a)]
/-- The unicycles at a place are the trees to it with each rotor of its own. -/
theorem mem_allUni {g : List (List Int)} (hg : graphB g = true) {p : Int} (p0 : 0 ≤ p) (p1 : p < (g.length : Int)) {rs : List Int} : rs ∈ allUni g p ↔ ∃ t k, t ∈ treesL g p ∧ k ∈ rngI (g.getD p.toNat []).length ∧ rs = t.set p.toNat k := by
  have hp : p.toNat < g.length := by omega
  unfold allUni treesL
  rw [List.mem_filter]
  constructor
  · rintro ⟨hr, hu⟩
    have W := (rot_ok (a := p) hg p0 p1 hr).1
    obtain ⟨hz, ht⟩ := (uni_tree W).1 hu
    obtain ⟨l1, l2⟩ := mem_allRot.1 hr
    refine ⟨rs.set p.toNat 0, rs.getD p.toNat 0, List.mem_filter.2 ⟨mem_allRot.2 ⟨by rw [List.length_set]; exact l1, fun i hi => ?_⟩, ht⟩, ?_, ?_⟩
    · rw [List.getElem_set]
      by_cases e : p.toNat = i
      · rw [if_pos e]
        unfold cand
        rw [if_pos (.inl (by omega))]
        exact List.mem_singleton.2 rfl
      · rw [if_neg e, cand_ne (t := -1) (by omega) (by omega)]
        exact l2 i _
    · have := l2 p.toNat (by omega)
      unfold cand at this
      rw [if_neg (by rintro (a | a); omega; exact hz a)] at this
      rw [getD_getI (by omega)]
      exact this
    · rw [List.set_set, getD_getI (by omega), List.set_getElem_self]
  · rintro ⟨t, k, ht, hk, rfl⟩
    rw [List.mem_filter] at ht
    obtain ⟨l1, l2⟩ := mem_allRot.1 ht.1
    have hk' := mem_rngI.1 hk
    have Wt := (rot_ok (a := p) hg p0 p1 ht.1)
    have e0 : t.set p.toNat 0 = t := by
      have := Wt.2 p0
      rw [getD_getI (by omega)] at this
      rw [← this, List.set_getElem_self]
    have hr : t.set p.toNat k ∈ allRot g (-1) := mem_allRot.2 ⟨by rw [List.length_set]; exact l1, fun i hi => by
      rw [List.getElem_set]
      by_cases e : p.toNat = i
      · rw [if_pos e]
        subst e
        unfold cand
        rw [if_neg (by rintro (a | a) <;> omega)]
        exact hk
      · rw [if_neg e, ← cand_ne (s := p) (by omega) (by omega)]
        exact l2 i _⟩
    refine ⟨hr, (uni_tree (rot_ok (a := p) hg p0 p1 hr).1).2 ⟨by omega, ?_⟩⟩
    rw [List.set_set, e0]
    exact ht.2
theorem allUni_sorted (g : List (List Int)) (p : Int) : (allUni g p).Pairwise fun a b => ltL a b = true := List.Pairwise.filter _ (allRot_sorted g _)
def insAll (p : Nat) (ts : List (List Int)) (n : Nat) (out : List (List Int)) : List (List Int) := ts.foldl (fun o t => (rngI n).foldl (fun o k => insW (t.set p k) o) o) out
theorem ins_row {L p : Nat} {t : List Int} (hl : t.length = L) (hp : p < L) : ∀ (ks : List Int) (out : List (List Int)), ks.Nodup → out.Pairwise (fun a b => ltL a b = true) → (∀ x, x ∈ out → x.length = L) → (∀ x, x ∈ out → ∀ k, k ∈ ks → x ≠ t.set p k) →
    (ks.foldl (fun o k => insW (t.set p k) o) out).Pairwise (fun a b => ltL a b = true) ∧ (∀ x, x ∈ ks.foldl (fun o k => insW (t.set p k) o) out ↔ x ∈ out ∨ ∃ k, k ∈ ks ∧ x = t.set p k) ∧ (ks.foldl (fun o k => insW (t.set p k) o) out).length = out.length + ks.length
  | [], out, _, h1, _, _ => ⟨h1, fun x => by simp, by simp⟩
  | k :: ks, out, hd, h1, h2, h3 => by
    rw [List.nodup_cons] at hd
    rw [List.foldl_cons]
    have s1 := insW_sorted (w := t.set p k) h1 fun x hx => ⟨by rw [h2 x hx, List.length_set, hl], h3 x hx k (List.mem_cons_self ..)⟩
    obtain ⟨a, b, c⟩ := ins_row hl hp ks (insW (t.set p k) out) hd.2 s1 (fun x hx => by
      rcases mem_insW.1 hx with e | e
      · rw [e, List.length_set, hl]
      · exact h2 x e) fun x hx j hj => by
      rcases mem_insW.1 hx with e | e
      · rw [e]
        intro hh
        have hp' : p < t.length := by omega
        have e1 : (t.set p k)[p]? = (t.set p j)[p]? := by rw [hh]
        rw [List.getElem?_set, List.getElem?_set, if_pos rfl, if_pos rfl, if_pos hp', if_pos hp'] at e1
        have : k = j := Option.some.inj e1
        exact hd.1 (this ▸ hj)
      · exact h3 x e j (List.mem_cons_of_mem _ hj)
    refine ⟨a, fun x => ?_, by rw [c, insW_len, List.length_cons]; omega⟩
    rw [b x, mem_insW]
    constructor
    · rintro ((h | h) | ⟨j, hj, h⟩)
      · exact .inr ⟨k, List.mem_cons_self .., h⟩
      · exact .inl h
      · exact .inr ⟨j, List.mem_cons_of_mem _ hj, h⟩
    · rintro (h | ⟨j, hj, h⟩)
      · exact .inl (.inr h)
      · rcases List.mem_cons.1 hj with e | e
        · subst e; exact .inl (.inl h)
        · exact .inr ⟨j, e, h⟩
theorem rngI_nodup (n : Nat) : (rngI n).Nodup := (rngI_sorted n).imp fun h => by omega
theorem ins_all {L p n : Nat} (hp : p < L) : ∀ (ts out : List (List Int)), ts.Nodup → (∀ t, t ∈ ts → t.length = L ∧ t.getD p 0 = 0) → out.Pairwise (fun a b => ltL a b = true) → (∀ x, x ∈ out → x.length = L) → (∀ x, x ∈ out → ∀ t, t ∈ ts → ∀ k, k ∈ rngI n → x ≠ t.set p k) →
    (insAll p ts n out).Pairwise (fun a b => ltL a b = true) ∧ (∀ x, x ∈ insAll p ts n out ↔ x ∈ out ∨ ∃ t k, t ∈ ts ∧ k ∈ rngI n ∧ x = t.set p k) ∧ (insAll p ts n out).length = out.length + ts.length * n
  | [], out, _, _, h1, _, _ => ⟨h1, fun x => by simp [insAll], by simp [insAll]⟩
  | t :: ts, out, hd, ht, h1, h2, h3 => by
    rw [List.nodup_cons] at hd
    obtain ⟨t1, t2⟩ := ht t (List.mem_cons_self ..)
    obtain ⟨a, b, c⟩ := ins_row t1 hp (rngI n) out (rngI_nodup n) h1 h2 fun x hx k hk => h3 x hx t (List.mem_cons_self ..) k hk
    have ln : (rngI n).length = n := by simp [rngI]
    obtain ⟨a', b', c'⟩ := ins_all hp ts ((rngI n).foldl (fun o k => insW (t.set p k) o) out) hd.2 (fun u hu => ht u (List.mem_cons_of_mem _ hu)) a (fun x hx => by
      rcases (b x).1 hx with e | ⟨k, _, e⟩
      · exact h2 x e
      · rw [e, List.length_set, t1]) fun x hx u hu k hk => by
      rcases (b x).1 hx with e | ⟨j, hj, e⟩
      · exact h3 x e u (List.mem_cons_of_mem _ hu) k hk
      · rw [e]
        intro hh
        obtain ⟨u1, u2⟩ := ht u (List.mem_cons_of_mem _ hu)
        have e1 := congrArg (fun l : List Int => l.set p 0) hh
        (try simp only at e1)
        rw [List.set_set, List.set_set] at e1
        have z : ∀ v : List Int, v.length = L → v.getD p 0 = 0 → v.set p 0 = v := fun v hv h0 => by
          rw [getD_getI (by omega)] at h0
          rw [← h0, List.set_getElem_self]
        rw [z t t1 t2, z u u1 u2] at e1
        exact hd.1 (e1 ▸ hu)
    refine ⟨a', fun x => ?_, ?_⟩
    · show x ∈ insAll p ts n _ ↔ _
      rw [b' x, b x]
      constructor
      · rintro ((h | ⟨k, hk, h⟩) | ⟨u, k, hu, hk, h⟩)
        · exact .inl h
        · exact .inr ⟨t, k, List.mem_cons_self .., hk, h⟩
        · exact .inr ⟨u, k, List.mem_cons_of_mem _ hu, hk, h⟩
      · rintro (h | ⟨u, k, hu, hk, h⟩)
        · exact .inl (.inl h)
        · rcases List.mem_cons.1 hu with e | e
          · subst e; exact .inl (.inr ⟨k, hk, h⟩)
          · exact .inr ⟨u, k, e, hk, h⟩
    · show (insAll p ts n _).length = _
      rw [c', c, ln, List.length_cons, Nat.succ_mul]
      omega
theorem sorted_nodup {l : List (List Int)} (h : l.Pairwise fun a b => ltL a b = true) : l.Nodup := h.imp fun {a b} hab e => by
  rw [e, ltL_irr] at hab
  cases hab
theorem trees_sorted (g : List (List Int)) (s : Int) : (treesL g s).Pairwise fun a b => ltL a b = true := List.Pairwise.filter _ (allRot_sorted g s)
theorem ins_uni {g : List (List Int)} (hg : graphB g = true) {p : Int} (p0 : 0 ≤ p) (p1 : p < (g.length : Int)) : insAll p.toNat (treesL g p) (g.getD p.toNat []).length [] = allUni g p ∧ (allUni g p).length = (treesL g p).length * (g.getD p.toNat []).length := by
  obtain ⟨a, b, c⟩ := ins_all (L := g.length) (p := p.toNat) (n := (g.getD p.toNat []).length) (by omega) (treesL g p) [] (sorted_nodup (trees_sorted g p)) (fun t ht => by
    unfold treesL at ht
    rw [List.mem_filter] at ht
    exact ⟨(mem_allRot.1 ht.1).1, (rot_ok (a := p) hg p0 p1 ht.1).2 p0⟩) List.Pairwise.nil (fun x hx => by simp at hx) fun x hx => by simp at hx
  have e : insAll p.toNat (treesL g p) (g.getD p.toNat []).length [] = allUni g p := sorted_ext a (allUni_sorted g p) fun x => by
    rw [b x, mem_allUni hg p0 p1]
    simp
  refine ⟨e, ?_⟩
  rw [← e, c]
  simp

theorem RdR.tl2 {S : Nat → Prop} {h : Heap} {s : Sl} {xss : List (List Int)} (H : RdR S h s xss) (h1 : 1 ≤ xss.length) : RdR S h (s.cut 1 1 s.n s.c) xss.tail := by
  obtain ⟨ss, e, h2, h3⟩ := H.out
  have sn := H.len
  have c := RdV.cut h2 (l := 1) (m := s.n) (by omega) (Nat.le_refl _)
  have ec : ((ss.map Sl.v).drop (1 * 1)).take ((s.n - 1) * 1) = ss.tail.map Sl.v := by
    rw [List.take_of_length_le (by simp; omega)]
    cases ss <;> rfl
  rw [ec] at c
  refine ⟨ss.tail, by simp [e], c, fun i a b => ?_⟩
  have := h3 (i + 1) (by simp at a; omega) (by simp at b; omega)
  simpa using this
theorem eop_erase {L : List (Nat × List Value)} {S : Nat → Prop} {h : Heap} {s : Sl} {xs : List Int} (R : RdI S h s xs) {k : Int} (k0 : 0 ≤ k) (k1 : k < (xs.length : Int)) (hb : xs.length ≤ 1000000) (hL : Vars h L) (C : Sl → Heap → Prop) (HC : ∀ t h', OwI h' (fun q => h.size ≤ q) t (xs.eraseIdx k.toNat) → Fr No h h' → Vars h' L → C t h') :
    pop Try.prog (Instr.sliceAt tIs s.v none (some (VI k)) none) fun rv => ∃ a : Sl, rv = a.v ∧ pop Try.prog (Instr.sliceAt tIs s.v (some (VI (w64 (k + 1)))) none none) fun rv => ∃ b : Sl, rv = b.v ∧ callM Try.prog 121 #[a.v] h fun rv h1 => ∃ c : Sl, rv = c.v ∧ Vars h1 L ∧ eop Try.prog (appS tIs tIs tIs c.v b.v) h1 fun rv2 h2 => ∃ d : Sl, rv2 = d.v ∧ Vars h2 L ∧ C d h2 := by
  have sn := RdI.len R
  have sc := RdV.cap R
  have kw : w64 (k + 1) = k + 1 := w64_eq _ (by omega) (by omega)
  rw [kw]
  refine pop_cut_h rIs .i64 k0 (by omega) ⟨_, rfl, pop_cut_l rIs .i64 (by omega) (by omega) ⟨_, rfl, ?_⟩⟩
  have r1 := RdI.cut R (l := 0) (m := k.toNat) (Nat.zero_le _) (by omega)
  have r2 := RdI.cut R (l := (k + 1).toNat) (m := s.n) (by omega) (by omega)
  rw [List.drop_zero, Nat.sub_zero] at r1
  rw [List.take_of_length_le (by rw [List.length_drop]; omega)] at r2
  refine k_l1Own r1 (by rw [List.length_take]; omega) _ fun c h1 o1 f1 => ⟨c, rfl, hL.of_no f1, ?_⟩
  have cn : c.n = (xs.take k.toNat).length := by have := o1.len; simp at this; simp; omega
  have dn : (s.cut 1 (k + 1).toNat s.n s.c).n = s.n - (k + 1).toNat := rfl
  have z1 := f1.size
  have pv : ((xs.drop (k + 1).toNat).map VI).all plainV = true := by rw [List.all_map, List.all_eq_true]; intro x _; rfl
  refine eop_append rIs (o1.mono (F' := fun q => h.size ≤ q) fun q _ hq => hq.1) (fun q hq => by omega) (RdV.no r2 f1) pv (by rw [cn, dn, List.length_take]; omega) fun d h2 hd o2 f2 m2 => ⟨d, rfl, ?_, ?_⟩
  · exact (hL.of_no f1).fr f2 fun p hp ho => by
      have := (hL.mem p hp).lt
      have := (Ow.foot o1 ho).1.1
      omega
  · rw [← List.map_append] at o2
    refine HC d h2 ?_ ((f1.of_no.trans (f2.mono fun q _ hq => (Ow.foot o1 hq).1)).mono fun q hq hq2 => absurd hq2.1 (by omega)) ?_
    · rw [List.eraseIdx_eq_take_drop_succ, show k.toNat + 1 = (k + 1).toNat by omega]
      exact o2
    · exact (hL.of_no f1).fr f2 fun p hp ho => by
        have := (hL.mem p hp).lt
        have := (Ow.foot o1 ho).1.1
        omega

theorem mat_rest {xss : List (List Int)} {n k : Nat} (Q : Sq (n + 1) xss) (hk : k < n + 1) : Sq n (xss.tail.map fun r => r.eraseIdx k) ∧ ∀ i j, i < n → j < n → matL (xss.tail.map fun r => r.eraseIdx k) i j = matL xss (i + 1) (skp k j) := by
  have ln := Q.len
  have hr : ∀ i (h : i < xss.tail.length), xss.tail[i] = xss[i + 1]'(by rw [List.length_tail] at h; omega) := fun i h => by rw [List.getElem_tail]
  refine ⟨⟨by simp; omega, fun i hi => ?_⟩, fun i j hi hj => ?_⟩
  · rw [List.length_map] at hi
    rw [List.getElem_map, hr i hi, List.length_eraseIdx, Q.row]
    rw [if_pos hk]
    omega
  · have hi' : i < xss.tail.length := by rw [List.length_tail]; omega
    have h1 : i + 1 < xss.length := by omega
    have e2 := Q.row (i + 1) h1
    have hs : skp k j < (xss[i + 1]'h1).length := by unfold skp; split <;> omega
    rw [matL_get h1 hs, matL_get (by rw [List.length_map]; exact hi') (by rw [List.getElem_map, hr i hi', List.length_eraseIdx, e2, if_pos hk]; omega)]
    have : ((xss.tail.map fun r => r.eraseIdx k)[i]'(by rw [List.length_map]; exact hi')) = (xss[i + 1]'h1).eraseIdx k := by rw [List.getElem_map, hr i hi']
    have e3 : ((xss.tail.map fun r => r.eraseIdx k)[i]'(by rw [List.length_map]; exact hi'))[j]? = (xss[i + 1]'h1)[skp k j]? := by
      rw [this, List.getElem?_eraseIdx]
      unfold skp
      split <;> rfl
    rw [List.getElem?_eq_getElem (by rw [List.getElem_map, hr i hi', List.length_eraseIdx, e2, if_pos hk]; omega), List.getElem?_eq_getElem hs] at e3
    exact Option.some.inj e3
theorem sgn_w (k : Nat) : w64 (0 - sgn k) = sgn (k + 1) := by
  rw [sgn_succ]
  unfold sgn
  split <;> rfl
theorem det_part {n : Nat} {A : Mat} (h : ∀ i j, i < n + 1 → j < n + 1 → (A i j).natAbs ≤ 10) {t : Nat} (ht : t ≤ n + 1) : (sumZ (fun k => sgn k * A 0 k * det n (fun i j => A (i + 1) (skp k j))) t).natAbs ≤ dbN (n + 1) := by
  have := sumZ_bound (f := fun k => sgn k * A 0 k * det n (fun i j => A (i + 1) (skp k j))) (b := 10 * dbN n) (n := t) fun k hk => by
    (try simp only)
    rw [Int.natAbs_mul, Int.natAbs_mul, sgn_abs, Nat.one_mul]
    exact Nat.mul_le_mul (h 0 k (by omega) (by omega)) (det_bound fun i j hi hj => h (i + 1) (skp k j) (by omega) (by unfold skp; split <;> omega))
  rw [dbN, Nat.mul_assoc]
  exact Nat.le_trans this (Nat.mul_le_mul_right _ ht)
theorem k_trDet : ∀ (n : Nat) {S : Nat → Prop} {h : Heap} {s : Sl} {xss : List (List Int)} (M : RdR S h s xss) (Q : Sq n xss) (hn : n ≤ 7) (hb : Small n (matL xss)), Ret Try.prog 91 #[s.v] h (VI (det n (matL xss)))
  | 0, S, h, s, xss, M, Q, _, _ => by
    intro K HK
    have sn := M.len
    have ln := Q.len
    refine v91 s h K ⟨fun _ => HK h (Fr.refl _ _), fun e => ?_⟩
    simp only [decide_eq_false_iff_not] at e
    omega
  | n + 1, S, h, s, xss, M, Q, hn, hb => by
    intro K HK
    have sn := M.len
    have ln := Q.len
    refine v91 s h K ⟨fun e => ?_, fun _ => ?_⟩
    · simp only [decide_eq_true_eq] at e
      omega
    obtain ⟨s0, c0, r0⟩ := M.get (i := 0) (Int.le_refl _) (by omega)
    have l0 := Q.row 0 (by omega)
    have r0 : RdI S h s0 (xss[0]'(by omega)) := r0
    have s0n := RdI.len r0
    refine ⟨M.inb (Int.le_refl _) (by omega), s0, c0, ?_⟩
    have pb : ∀ t, t ≤ n + 1 → (sumZ (fun k => sgn k * matL xss 0 k * det n (fun i j => matL xss (i + 1) (skp k j))) t).natAbs ≤ 50400000000 := fun t ht => Nat.le_trans (det_part hb ht) (Nat.le_trans (dbN_le (show n + 1 ≤ 7 by omega)) (by rw [dbN7]; exact Nat.le_refl _))
    refine ⟨fun m sm sg t h' => 0 ≤ t ∧ t + m = ((n + 1 : Nat) : Int) ∧ sm = sumZ (fun k => sgn k * matL xss 0 k * det n (fun i j => matL xss (i + 1) (skp k j))) t.toNat ∧ sg = sgn t.toNat ∧ Fr No h h', ⟨n + 1, Int.le_refl _, by omega, rfl, rfl, Fr.refl _ _⟩, ?_⟩
    rintro m sm sg t h1 ⟨t0, t1, rfl, rfl, f1⟩ hL1
    have M1 := M.no f1
    have r1 := RdI.no r0 f1
    refine ⟨fun e => ?_, fun e => ?_⟩
    · have ht := r1.lt e
      have htn : t.toNat < n + 1 := by omega
      have e00 : (xss[0]'(by omega))[t.toNat]'(by omega) = matL xss 0 t.toNat := (matL_get (by omega) (by omega)).symm
      have hx := abs_le (hb 0 t.toNat (by omega) htn)
      have tw : w64 (t + 1) = t + 1 := w64_eq _ (by omega) (by omega)
      have nxt : ∀ (x : Int) h', x = sumZ (fun k => sgn k * matL xss 0 k * det n (fun i j => matL xss (i + 1) (skp k j))) (t.toNat + 1) → Fr No h h' → ∃ m' : Nat, m' < m ∧ 0 ≤ w64 (t + 1) ∧ w64 (t + 1) + m' = ((n + 1 : Nat) : Int) ∧ x = sumZ (fun k => sgn k * matL xss 0 k * det n (fun i j => matL xss (i + 1) (skp k j))) (w64 (t + 1)).toNat ∧ w64 (0 - sgn t.toNat) = sgn (w64 (t + 1)).toNat ∧ Fr No h h' := fun x h' hx f => by
        rw [tw, show (t + 1).toNat = t.toNat + 1 by omega]
        exact ⟨m - 1, by omega, by omega, by omega, hx, sgn_w _, f⟩
      refine ⟨r1.inb t0 ht, _, r1.get t0 ht, fun x h' => x = sumZ (fun k => sgn k * matL xss 0 k * det n (fun i j => matL xss (i + 1) (skp k j))) (t.toNat + 1) ∧ Fr No h h', ⟨fun e2 => ?_, fun e2 => ?_⟩, fun x h' hx hL' => nxt x h' hx.1 hx.2⟩
      · rw [e00]
        refine pop_cut_l rIss .i64 (show (0 : Int) ≤ 1 by omega) (by omega) ⟨_, rfl, ?_⟩
        have T1 := RdR.tl2 M1 (by omega)
        have tln : xss.tail.length = n := by rw [List.length_tail]; omega
        have T1n : (s.cut 1 1 s.n s.c).n = n := by rw [T1.len, tln]
        have no_ : ∀ {x : Heap}, Fr (fun k => h1.size ≤ k) h1 x → Fr No h1 x := fun f => f.mono fun k hk hk2 => absurd hk2 (by omega)
        refine ⟨fun m2 r j h' => 0 ≤ j ∧ j + m2 = (n : Int) ∧ OwX h' (fun q => h1.size ≤ q) r ((xss.tail.take j.toNat).map fun l => l.eraseIdx t.toNat) ∧ Fr (fun q => h1.size ≤ q) h1 h', ⟨n, Int.le_refl _, by omega, OwR.nil _ _ _ _, Fr.refl _ _⟩, ?_⟩
        rintro m2 r j h2 ⟨j0, j1, o2, f2⟩ hL2
        have T2 := T1.no (no_ f2)
        refine ⟨fun e3 => ?_, fun e3 => ?_⟩
        · have hj := T2.lt e3
          obtain ⟨sj, cj, rj⟩ := T2.get j0 hj
          have lj : (xss.tail[j.toNat]'(by omega)).length = n + 1 := by rw [List.getElem_tail]; exact Q.row _ (by omega)
          refine ⟨T2.inb j0 hj, sj, cj, eop_erase rj t0 (by omega) (by omega) .nil _ fun d h4 o4 f4 V4 => ?_⟩
          have z4 := f4.size
          refine eop_putR (lo := h1.size) (m := h2.size) (OwR.toIv o2 |>.no f4) o4 f2.size z4 .nil (fun p hp => by simp at hp) (by rw [List.length_map, List.length_take]; omega) _ fun t2 h5 o5 f5 V5 => ?_
          rw [w64_eq (j + 1) (by omega) (by omega)]
          refine ⟨m2 - 1, by omega, by omega, by omega, ?_, (f2.trans f4.of_no).trans f5⟩
          rw [take_snoc _ j0 hj, List.map_append, List.map_cons, List.map_nil]
          exact o5
        · have hj := T2.ge e3
          rw [List.take_of_length_le (by omega)] at o2
          obtain ⟨Qr, er⟩ := mat_rest Q htn
          have hbr : Small n (matL (xss.tail.map fun r => r.eraseIdx t.toNat)) := fun i j hi hj => by rw [er i j hi hj]; exact hb _ _ (by omega) (by unfold skp; split <;> omega)
          refine k_trDet n (OwR.rd o2) Qr (by omega) hbr _ fun h7 f7 => ⟨_, rfl, .nil, ?_, f1.no_trans ((no_ f2).no_trans f7)⟩
          rw [det_congr er]
          rw [sumZ]
          have b1 := abs_le (pb t.toNat (by omega))
          have b2 := abs_le (pb (t.toNat + 1) (by omega))
          rw [sumZ] at b2
          have b3 : -10 ≤ sgn t.toNat * matL xss 0 t.toNat ∧ sgn t.toNat * matL xss 0 t.toNat ≤ 10 := by
            unfold sgn
            split <;> omega
          rw [w64_eq (sgn t.toNat * matL xss 0 t.toNat) (by omega) (by omega)]
          generalize sgn t.toNat * matL xss 0 t.toNat * det n (fun i j => matL xss (i + 1) (skp t.toNat j)) = y at b2 ⊢
          generalize sumZ (fun k => sgn k * matL xss 0 k * det n (fun i j => matL xss (i + 1) (skp k j))) t.toNat = z at b1 b2 ⊢
          rw [w64_eq y (by omega) (by omega), w64_eq (z + y) (by omega) (by omega)]
      · rw [e00] at e2
        simp only [Bool.not_eq_false', decide_eq_true_eq] at e2
        refine ⟨?_, f1⟩
        rw [sumZ, e2]
        simp
    · have ht := r1.ge e
      have : t.toNat = n + 1 := by omega
      rw [this]
      exact HK h1 f1

theorem k_trLaplace {S : Nat → Prop} {h : Heap} {g : Sl} {xss : List (List Int)} (G : RdR S h g xss) (hg : graphB xss = true) {s : Int} (s0 : 0 ≤ s) (s1 : s < (xss.length : Int)) (K : Value → Heap → Prop) (HK : ∀ t h', OwX h' (Iv h.size h'.size) t (lapL xss s) → Fr No h h' → K t.v h') : callM Try.prog 92 #[.agg #[g.v], VI s] h K := by
  refine v92 g s h K fun b1 h1 hb1 f1 hL1 => ?_
  have f1 := f1.in_nil
  have z1 := f1.size
  have l1 : b1 < h1.size := hL1.head.lt
  have gl := graph_len hg
  have gn := G.len
  have no_ : ∀ {x : Heap}, Fr (fun k => h.size ≤ k) h x → Fr No h x := fun f => f.mono fun k hk hk2 => absurd hk2 (by omega)
  refine ⟨fun m x p h' => 0 ≤ p ∧ p + m = (xss.length : Int) ∧ OwX h' (fun k => h1.size ≤ k) x (((List.range p.toNat).filter (notS s)).map (lapRow xss s)) ∧ Fr (fun k => h.size ≤ k) h h' ∧ h1.size ≤ h'.size, ⟨xss.length, Int.le_refl _, by omega, OwR.nil _ _ _ _, f1.of_no, Nat.le_refl _⟩, ?_⟩
  rintro m x p h3 ⟨p0, p1, o3, f3, z3⟩ hL3
  have g3 := no_ f3
  refine ⟨fun e => ?_, fun e => ?_⟩
  · have hp := G.lt e
    have G3 := G.no g3
    obtain ⟨sp, cp, rp⟩ := G3.get p0 hp
    have pl := rp.len
    have eg : xss.getD p.toNat [] = xss[p.toNat]'(by omega) := getD_get (by omega)
    have gm := graph_mem hg (List.getElem_mem (show p.toNat < xss.length by omega))
    rw [G.succ p0 hp]
    refine ⟨G3.inb p0 hp, sp, cp, fun e2 => ?_, fun e2 => ?_⟩
    · simp only [decide_eq_true_eq] at e2
      refine ⟨m - 1, by omega, by omega, by omega, ?_, f3, z3⟩
      rw [show (p + 1).toNat = p.toNat + 1 by omega, List.range_succ, List.filter_append, List.filter_cons_of_neg (notS_f (by omega)), List.filter_nil, List.append_nil]
      exact o3
    simp only [decide_eq_false_iff_not] at e2
    refine eop_make rIs (fun k => h3.size ≤ k) (fun _ h => h) .i64 .i64 g.n g.n (Nat.le_refl _) (by omega) fun t h4 n4 c4 o4 f4 m4 _ => ⟨t, rfl, hL3.of_no f4, ?_⟩
    have z4 := f4.size
    have o4 : OwI h4 (fun k => h3.size ≤ k) t (List.replicate xss.length 0) := by
      have e : (List.replicate g.n [VI 0]).flatten = (List.replicate xss.length (0 : Int)).map VI := by rw [gn]; simp [List.flatten_replicate_singleton]
      rw [e] at o4; exact o4
    refine int_set (L := [(b1, [g.v])]) (F := fun k => h3.size ≤ k) o4 p0 (by rw [List.length_replicate]; omega) (hL3.of_no f4) (fun q hq => by
      simp only [List.mem_cons, List.not_mem_nil, or_false] at hq
      subst hq; show ¬ h3.size ≤ b1; omega) _ fun h5 o5 f5 V5 => ?_
    rw [pl, ← rowV_start (by omega)] at o5
    have f35 := (f4.of_no (T := fun k => h3.size ≤ k)).trans f5
    refine ⟨fun m2 j h' => 0 ≤ j ∧ j + m2 = ((xss[p.toNat]'(by omega)).length : Int) ∧ OwI h' (fun k => h3.size ≤ k) t (rowV xss.length p.toNat (xss[p.toNat]'(by omega)).length ((xss[p.toNat]'(by omega)).take j.toNat)) ∧ Fr (fun k => h3.size ≤ k) h3 h', ⟨(xss[p.toNat]'(by omega)).length, Int.le_refl _, by omega, by simpa using o5, f35⟩, ?_⟩
    rintro m2 j h6 ⟨j0, j1, o6, f6⟩ hL6
    have r6 := (rp.low.fr f6 fun k hk hk2 => by omega)
    refine ⟨fun e3 => ?_, fun e3 => ?_⟩
    · have hj := r6.lt e3
      have hv := gm.2 _ (List.getElem_mem (show j.toNat < (xss[p.toNat]'(by omega)).length by omega))
      have R6 := o6.rdF
      have rl := rowV_len xss.length p.toNat (xss[p.toNat]'(by omega)).length ((xss[p.toNat]'(by omega)).take j.toNat)
      have hvl : (xss[p.toNat]'(by omega))[j.toNat]'(by omega) < ((rowV xss.length p.toNat (xss[p.toNat]'(by omega)).length ((xss[p.toNat]'(by omega)).take j.toNat)).length : Int) := by rw [rl]; omega
      refine ⟨r6.inb j0 hj, _, r6.get j0 hj, RdI.inb R6 hv.1 hvl, _, RdI.get R6 hv.1 hvl, int_set (L := [(b1, [g.v])]) (F := fun k => h3.size ≤ k) o6 hv.1 hvl hL6 (fun q hq => by
        simp only [List.mem_cons, List.not_mem_nil, or_false] at hq
        subst hq; show ¬ h3.size ≤ b1; omega) _ fun h7 o7 f7 V7 => ?_⟩
      rw [RdI.succ r6 j0 hj]
      refine ⟨m2 - 1, by omega, by omega, by omega, ?_, f6.trans f7⟩
      rw [take_snoc _ j0 hj, rowV_step hv.1 hv.2, getD_getI (show ((xss[p.toNat]'(by omega))[j.toNat]'(by omega)).toNat < (rowV xss.length p.toNat (xss[p.toNat]'(by omega)).length ((xss[p.toNat]'(by omega)).take j.toNat)).length by omega)]
      have hb : w64 ((rowV xss.length p.toNat (xss[p.toNat]'(by omega)).length ((xss[p.toNat]'(by omega)).take j.toNat))[((xss[p.toNat]'(by omega))[j.toNat]'(by omega)).toNat]'(by omega) - 1) = (rowV xss.length p.toNat (xss[p.toNat]'(by omega)).length ((xss[p.toNat]'(by omega)).take j.toNat))[((xss[p.toNat]'(by omega))[j.toNat]'(by omega)).toNat]'(by omega) - 1 := by
        rw [rowV_get]
        have ob := occ_bound ((((xss[p.toNat]'(by omega))[j.toNat]'(by omega)).toNat : Nat) : Int) ((xss[p.toNat]'(by omega)).take j.toNat)
        rw [List.length_take] at ob
        have := gm.1
        exact w64_eq _ (by split <;> omega) (by split <;> omega)
      rw [hb] at o7
      exact o7
    · have hj := r6.ge e3
      rw [List.take_of_length_le (by omega)] at o6
      refine eop_erase o6.rdF s0 (by rw [rowV_len]; omega) (by rw [rowV_len]; omega) hL6 _ fun t8 h8 o8 f8 V8 => ?_
      have f8' : Fr (fun k => h3.size ≤ k) h6 h8 := f8.of_no
      have z6 := f6.size
      have o8 := o8.mono (F' := fun k => h3.size ≤ k) fun k _ hk => by omega
      have f38 := f6.trans f8'
      have z8 := f38.size
      have hL8 : Vars h8 [(b1, [g.v])] := V8
      refine eop_putR (lo := h1.size) (m := h3.size) (OwR.fr (OwR.toIv o3) f38 fun k hk hk2 hk3 => by have := hk2.2; omega) o8 z3 z8 hL8 (fun q hq => by
        simp only [List.mem_cons, List.not_mem_nil, or_false] at hq
        subst hq; exact l1) (by
          rw [List.length_map]
          have := List.length_filter_le (notS s) (List.range p.toNat)
          rw [List.length_range] at this
          omega) _ fun t2 h10 o10 f10 V10 => ?_
      refine ⟨m - 1, by omega, by omega, by omega, ?_, (f3.trans (f38.mono fun k _ hk => by omega)).trans (f10.mono fun k _ hk => by omega), by have := f10.size; omega⟩
      rw [show (p + 1).toNat = p.toNat + 1 by omega, List.range_succ, List.filter_append, List.filter_cons_of_pos (notS_t.2 (by omega)), List.filter_nil, List.map_append, List.map_cons, List.map_nil]
      have el : lapRow xss s p.toNat = (rowV xss.length p.toNat (xss[p.toNat]'(by omega)).length (xss[p.toNat]'(by omega))).eraseIdx s.toNat := by unfold lapRow; rw [eg]
      rw [el]
      exact o10
  · have hp := G.ge e
    have ep : p.toNat = xss.length := by omega
    rw [ep] at o3
    exact HK x h3 (o3.mono fun k hk hk2 => ⟨by omega, hk⟩) g3

theorem k_loops {S S' : Nat → Prop} {h : Heap} {b : Nat} {g r f : Sl} {xss : List (List Int)} {rs : List Int} {a s mo : Int} (V : IsVar h b [g.v, VI s, r.v, f.v, VI mo]) (G : RdR S h g xss) (H : RdI S' h r rs) (W : WOK xss (rs, a)) {p : Int} (p0 : 0 ≤ p) (p1 : p < (xss.length : Int)) (K : Value → Heap → Prop) (HK : ∀ h', Fr No h h' → K (VB (lpB xss s rs p)) h') : callM Try.prog 140 #[VP b 0, VI p] h K := by
  have gn := G.len
  have gl := graph_len W.graph
  refine v140 b g s r f mo p h K (.cons V (by simp) .nil) ⟨fun m q n6 h' => 0 ≤ n6 ∧ n6 + m = (xss.length : Int) + 1 ∧ 0 ≤ q ∧ q < (xss.length : Int) ∧ lpB xss s rs p = lpG xss s rs p m q ∧ Fr No h h', ⟨xss.length + 1, Int.le_refl _, by omega, p0, p1, rfl, Fr.refl _ _⟩, ?_⟩
  rintro m q n6 h1 ⟨n0, n1, q0, q1, el, f1⟩ hL1
  refine ⟨fun e => ?_, fun e => ?_⟩
  · simp only [decide_eq_true_eq] at e
    obtain ⟨k, rfl⟩ : ∃ k, m = k + 1 := ⟨m - 1, by omega⟩
    rw [lpG] at el
    refine ⟨fun e2 => ?_, fun e2 => ⟨fun e3 => ?_, fun e3 => ?_⟩⟩
    · simp only [decide_eq_true_eq] at e2
      rw [if_pos (.inl e2)] at el
      rw [← el]
      exact HK h1 f1
    · simp only [decide_eq_true_eq] at e3
      rw [if_pos (.inr e3)] at el
      rw [← el]
      exact HK h1 f1
    · simp only [decide_eq_false_iff_not] at e2 e3
      rw [if_neg (by rintro (x | x); exact e2 x; exact e3 x)] at el
      refine k_trNext (G.no f1) (RdI.no H f1) W q0 q1 _ fun h2 f2 => ⟨_, rfl, hL1.of_no f2, fun e4 => ?_, fun e4 => ?_⟩
      · simp only [decide_eq_true_eq] at e4
        rw [if_pos e4] at el
        rw [← el]
        exact HK h2 (f1.no_trans f2)
      · simp only [decide_eq_false_iff_not] at e4
        rw [if_neg e4] at el
        rw [w64_eq _ (by omega) (by omega)]
        exact ⟨k, by omega, by omega, by omega, by omega, (nx_lt W q1).2, el, f1.no_trans f2⟩
  · simp only [decide_eq_false_iff_not] at e
    have : m = 0 := by omega
    subst this
    rw [show lpG xss s rs p 0 q = true from rfl] at el
    rw [← el]
    exact HK h1 f1

theorem set_self {rs : List Int} {p : Nat} (h : p < rs.length) (e : rs[p] = 0) : rs.set p 0 = rs := by rw [← e]; exact List.set_getElem_self h
theorem wok_set {g : List (List Int)} {rs : List Int} {a c : Int} (W : WOK g (rs, a)) {p : Nat} (h : p < g.length) (c0 : 0 ≤ c) (c1 : c ≤ max ((g[p].length : Int) - 1) 0) : WOK g (rs.set p c, a) := ⟨W.graph, by simpa using W.len, W.lo, W.hi, fun i x y => by
  (try simp only at x ⊢)
  rw [List.getElem_set]
  split
  · rename_i e; subst e; exact ⟨c0, c1⟩
  · exact W.rot i (by rw [List.length_set] at x; exact x) y⟩
theorem getD_set_ne {rs : List Int} {p i : Nat} {c : Int} (h : i ≠ p) : (rs.set p c).getD i 0 = rs.getD i 0 := by
  rw [List.getD_eq_getElem?_getD, List.getElem?_set, if_neg fun e => h e.symm, List.getD_eq_getElem?_getD]
theorem rngI_snoc (k : Nat) : rngI (k + 1) = rngI k ++ [(k : Int)] := by unfold rngI; rw [List.range_succ, List.map_append]; rfl
theorem k_look : ∀ (d : Nat) {S R : Nat → Prop} {h : Heap} {b lo : Nat} {g r f : Sl} {xss found : List (List Int)} {rs : List Int} {a s : Int} {p mo : Nat} (V : IsVar h b [g.v, VI s, r.v, f.v, VI mo]) (G : RdR S h g xss) (H : OwI h R r rs) (O : OwX h (fun k => lo ≤ k) f found) (W : WOK xss (rs, a)) (hS : ∀ k, S k → k ≠ b ∧ ¬ R k ∧ k < lo) (hR : ∀ k, R k → k ≠ b ∧ k < lo) (hb : b < lo) (hlo : lo ≤ h.size)
    (s0 : 0 ≤ s) (s1 : s < (xss.length : Int)) (hd : p + d = xss.length) (hz : ∀ i (hi : i < rs.length), p ≤ i → rs[i] = 0) (hn : ∀ i : Nat, i < p → (i : Int) ≠ s → lpB xss s rs i = false) (hf : found.length ≤ mo + 1) (hm : mo ≤ 1000) (K : Value → Heap → Prop)
    (HK : ∀ h' f', IsVar h' b [g.v, VI s, r.v, Sl.v f', VI mo] → OwI h' R r rs → OwX h' (fun k => lo ≤ k) f' ((found ++ ptL xss s rs p).take (mo + 1)) → Fr (fun k => k = b ∨ R k ∨ lo ≤ k) h h' → K (.tuple #[]) h'), callM Try.prog 131 #[VP b 0, VI p] h K := by
  intro d
  induction d using Nat.strongRecOn with
  | ind d ih =>
  intro S R h b lo g r f xss found rs a s p mo V G H O W hS hR hb hlo s0 s1 hd hz hn hf hm K HK
  have gn := G.len
  have gl := graph_len W.graph
  have on := O.len
  have rl : rs.length = xss.length := W.len
  refine v131 b g s r f mo p h K (.cons V (by simp) .nil) ⟨fun e => ?_, fun e => ⟨fun e2 => ?_, fun e2 => ⟨fun e3 => ?_, fun e3 => ?_⟩⟩⟩
  · simp only [decide_eq_true_eq] at e
    refine HK h f V H ?_ (Fr.refl _ _)
    rw [List.take_append_of_le_length (by omega), List.take_of_length_le (by omega)]
    exact O
  · simp only [decide_eq_false_iff_not] at e
    simp only [decide_eq_true_eq] at e2
    have ep : p = xss.length := by omega
    subst ep
    refine k_l1Own H.rdF (by omega) _ fun t h1 o1 f1 => ⟨t, rfl, .cons (V.fr f1 fun x => x) (by simp) .nil, ?_⟩
    refine eop_putR (lo := lo) (m := h.size) (OwR.toIv O |>.no f1) (o1.mono fun k _ hk => hk.1) hlo f1.size (L := [(b, [g.v, VI s, r.v, f.v, VI mo])]) (.cons (V.fr f1 fun x => x) (by simp) .nil) (fun q hq => by
      simp only [List.mem_cons, List.not_mem_nil, or_false] at hq
      subst hq; exact hb) (by omega) _ fun t2 h3 o3 f3 V3 => ?_
    intro h4 f4 hL4
    have fb : Fr (fun k => k = b ∨ R k ∨ lo ≤ k) h3 h4 := f4.mono fun k _ hk => .inl (by simpa [In] using hk)
    have f13 : Fr (fun k => k = b ∨ R k ∨ lo ≤ k) h h3 := f1.of_no.trans (f3.mono fun k _ hk => .inr (.inr hk))
    refine HK h4 t2 hL4.head ?_ ?_ (f13.trans fb)
    · refine Ow.fr (Ow.fr (Ow.no H f1) f3 fun k hk hk2 => ?_) f4 fun k hk hk2 => ?_
      · have := (hR k (Ow.foot H hk).1).2; omega
      · exact (hR k (Ow.foot H hk).1).1 (by simpa [In] using hk2)
    · rw [ptL_end rl, lp_tree W s0 fun i hi his => hn i hi his, if_pos rfl, List.take_of_length_le (by simp; omega)]
      exact OwR.fr o3 f4 fun k _ hk hk2 => by
        have : k = b := by simpa [In] using hk2
        omega
  · simp only [decide_eq_false_iff_not] at e e2
    simp only [decide_eq_true_eq] at e3
    have pw : w64 ((p : Int) + 1) = ((p + 1 : Nat) : Int) := by rw [w64_eq _ (by omega) (by omega)]; omega
    rw [pw]
    have hp : p < xss.length := by omega
    have rp := hz p (by omega) (Nat.le_refl _)
    refine ih (d - 1) (by omega) V G H O W hS hR hb hlo s0 s1 (by omega) (fun i hi hpi => hz i hi (by omega)) (fun i hi his => hn i (by omega) his) hf hm _ fun h5 f5 V5 H5 O5 F5 => ⟨g, s, r, f5, mo, .cons V5 (by simp) .nil, ?_⟩
    refine HK h5 f5 V5 H5 ?_ F5
    rw [ptL_step rl hp]
    have hc : cand xss s p = [0] := by unfold cand; rw [if_pos (.inl e3)]
    rw [hc, List.flatMap_cons, List.flatMap_nil, List.append_nil, set_self (by omega) rp]
    exact O5
  · simp only [decide_eq_false_iff_not] at e e2 e3
    have hp : p < xss.length := by omega
    have rp := hz p (by omega) (Nat.le_refl _)
    obtain ⟨sp, cp, rp'⟩ := G.get (i := (p : Int)) (by omega) (by omega)
    have spl : sp.n = xss[p].length := rp'.len
    have gm := graph_mem W.graph (List.getElem_mem hp)
    have ge : xss[((p : Nat) : Int).toNat]'(by omega) = xss[p] := rfl
    have pw : w64 ((p : Int) + 1) = ((p + 1 : Nat) : Int) := by rw [w64_eq _ (by omega) (by omega)]; omega
    refine ⟨G.inb (by omega) (by omega), sp, cp, fun m k x6 x7 x8 x9 x10 h' => x6 = g ∧ x7 = s ∧ x8 = r ∧ x10 = (mo : Int) ∧ 0 ≤ k ∧ k + m = (xss[p].length : Int) ∧ (∃ c, OwI h' R r (rs.set p c)) ∧ OwX h' (fun k => lo ≤ k) x9 ((found ++ (rngI k.toNat).flatMap fun j => ptL xss s (rs.set p j) (p + 1)).take (mo + 1)) ∧ Fr (fun k => k = b ∨ R k ∨ lo ≤ k) h h', ⟨xss[p].length, rfl, rfl, rfl, rfl, Int.le_refl _, by omega, ⟨0, by rw [set_self (by omega) rp]; exact H⟩, ?_, Fr.refl _ _⟩, ?_⟩
    · have : rngI (0 : Int).toNat = [] := rfl
      rw [this, List.flatMap_nil, List.append_nil, List.take_of_length_le hf]
      exact O
    rintro m k x6 x7 x8 x9 x10 h6 ⟨rfl, rfl, rfl, rfl, k0, k1, ⟨c, H6⟩, O6, F6⟩ hL6
    have off : ∀ q, q ∈ [(b, [x6.v, VI x7, x8.v, x9.v, VI mo])] → ¬ R q.1 := fun q hq => by
      simp only [List.mem_cons, List.not_mem_nil, or_false] at hq
      subst hq
      exact fun hr => (hR _ hr).1 rfl
    refine ⟨fun e4 => ?_, fun e4 => ?_⟩
    · simp only [decide_eq_true_eq] at e4
      have k2 : k < (xss[p].length : Int) := by omega
      have kw : w64 (k + 1) = k + 1 := w64_eq _ (by omega) (by omega)
      refine int_set H6 (by omega) (by rw [List.length_set]; omega) hL6 off _ fun h7 H7 f7 V7 => ?_
      rw [show ((p : Nat) : Int).toNat = p from rfl, List.set_set] at H7
      have W7 : WOK xss (rs.set p k, a) := wok_set W hp k0 (by omega)
      have F7 : Fr (fun k => k = b ∨ R k ∨ lo ≤ k) h h7 := F6.trans (f7.mono fun q _ hq => .inr (.inl hq))
      have G7 := G.fr F7 fun q hq hq2 => by
        obtain ⟨a1, a2, a3⟩ := hS q hq
        rcases hq2 with x | x | x
        · exact a1 x
        · exact a2 x
        · omega
      have O7 := OwR.fr O6 f7 fun q _ hq hq2 => by have := (hR q hq2).2; omega
      rw [kw]
      have snoc : rngI (k + 1).toNat = rngI k.toNat ++ [k] := by
        rw [show (k + 1).toNat = k.toNat + 1 by omega, rngI_snoc, show ((k.toNat : Nat) : Int) = k by omega]
      refine k_loops V7.head G7 H7.rdF W7 (by omega) (by omega) _ fun h8 f8 => ⟨x6, x7, x8, x9, mo, _, rfl, V7.of_no f8, fun e5 => ?_, fun e5 => ?_⟩
      · simp only [Bool.not_eq_true'] at e5
        rw [pw]
        refine ih (d - 1) (by omega) (V7.of_no f8).head (G7.no f8) (Ow.no H7 f8) (OwR.no O7 f8) W7 hS hR hb (by have := F7.size; have := f8.size; omega) s0 s1 (by omega) (fun i hi hpi => ?_) (fun i hi his => ?_) (by rw [List.length_take]; omega) hm _ fun h9 f9 V9 H9 O9 F9 => ⟨x6, x7, x8, f9, mo, .cons V9 (by simp) .nil, m - 1, by omega, rfl, rfl, rfl, rfl, by omega, by omega, ⟨k, H9⟩, ?_, (F7.trans f8.of_no).trans F9⟩
        · rw [List.getElem_set, if_neg (by omega)]
          exact hz i (by rw [List.length_set] at hi; exact hi) (by omega)
        · by_cases hip : i = p
          · subst hip; exact e5
          · have := hn i (by omega) his
            unfold lpB at this ⊢
            rw [← this]
            exact lpG_agree (fun j hj => getD_set_ne (by omega)) _ _
        · rw [take_app] at O9
          rw [snoc, List.flatMap_append, List.flatMap_cons, List.flatMap_nil, List.append_nil, ← List.append_assoc]
          exact O9
      · simp only [Bool.not_eq_false'] at e5
        have en := ptL_no W.graph s0 hp (by rw [List.length_set]; exact rl) (fun i h1 h2 _ => W7.rot i h1 h2) e5
        refine ⟨m - 1, by omega, rfl, rfl, rfl, rfl, by omega, by omega, ⟨k, Ow.no H7 f8⟩, ?_, F7.trans f8.of_no⟩
        rw [snoc, List.flatMap_append, List.flatMap_cons, List.flatMap_nil, List.append_nil, en, List.append_nil]
        exact OwR.no O7 f8
    · simp only [decide_eq_false_iff_not] at e4
      have ek : k.toNat = xss[p].length := by omega
      refine int_set H6 (by omega) (by rw [List.length_set]; omega) hL6 off _ fun h7 H7 f7 V7 => ?_
      rw [show ((p : Nat) : Int).toNat = p from rfl, List.set_set, set_self (by omega) rp] at H7
      have F7 : Fr (fun k => k = b ∨ R k ∨ lo ≤ k) h h7 := F6.trans (f7.mono fun q _ hq => .inr (.inl hq))
      have O7 := OwR.fr O6 f7 fun q _ hq hq2 => by have := (hR q hq2).2; omega
      refine HK h7 x9 V7.head H7 ?_ F7
      rw [ptL_step rl hp]
      rw [ek] at O7
      by_cases hl : xss[p].length = 0
      · have hc : cand xss x7 p = [0] := by unfold cand; rw [if_pos (.inr (by rw [getD_get hp]; exact hl))]
        have lpt : lpB xss x7 rs p = true := by
          unfold lpB
          rw [lpG, if_neg (by rintro (x | x) <;> omega), if_pos]
          unfold nx
          rw [if_neg (by omega), show ((p : Nat) : Int).toNat = p from rfl, getD_get hp, if_pos hl]
          omega
        have en := ptL_no W.graph s0 hp rl (fun i h1 h2 _ => W.rot i h1 h2) lpt
        rw [hc, List.flatMap_cons, List.flatMap_nil, set_self (by omega) rp, en]
        rw [hl] at O7
        exact O7
      · have hc : cand xss x7 p = rngI xss[p].length := by
          unfold cand
          rw [getD_get hp, if_neg (by rintro (x | x); exact e3 x; exact hl x)]
        rw [hc]
        exact O7

theorem k_trAll {S : Nat → Prop} {h : Heap} {g : Sl} {xss : List (List Int)} (G : RdR S h g xss) (hg : graphB xss = true) {s : Int} (s0 : 0 ≤ s) (s1 : s < (xss.length : Int)) {mo : Nat} (hm : mo ≤ 1000) (K : Value → Heap → Prop) (HK : ∀ t h', OwX h' (Iv h.size h'.size) t ((treesL xss s).take (mo + 1)) → Fr No h h' → K t.v h') : callM Try.prog 93 #[.agg #[g.v], VI s, VI mo] h K := by
  refine v93 g s mo h K fun b1 h1 hb1 f1 hL1 => ?_
  have f1 := f1.in_nil
  have z1 := f1.size
  have l1 : b1 < h1.size := hL1.head.lt
  have gl := graph_len hg
  have gn := G.len
  refine eop_make rIs (fun k => h1.size ≤ k) (fun _ h => h) .i64 .i64 g.n g.n (Nat.le_refl _) (by omega) fun t h2 n2 c2 o2 f2 m2 _ => ⟨t, rfl, hL1.of_no f2, fun b2 h3 hb2 f3 hL3 => ?_⟩
  have f3 := f3.in_nil
  have z2 := f2.size
  have z3 := f3.size
  have l2 : b2 < h3.size := hL3.head.lt
  have o2 : OwI h2 (Iv h1.size h2.size) t (List.replicate xss.length 0) := by
    have e : (List.replicate g.n [VI 0]).flatten = (List.replicate xss.length (0 : Int)).map VI := by rw [gn]; simp [List.flatten_replicate_singleton]
    rw [e] at o2
    exact o2.mono fun k hk hF => ⟨hF, (Ow.foot o2 hk).2⟩
  have f13 := f2.no_trans f3
  have W : WOK xss (List.replicate xss.length 0, s) := ⟨hg, by simp, s0, s1, fun i a b => by
    (try simp only at a ⊢)
    rw [List.getElem_replicate]
    omega⟩
  refine k_look xss.length (S := fun k => k < h1.size) (R := Iv h1.size h2.size) (lo := h3.size) (found := []) (p := 0) hL3.head ((G.no f1).low.no f13) (Ow.no o2 f3) (OwR.nil _ _ _ _) W (fun k hk => ⟨by omega, fun hr => by have := hr.1; omega, by omega⟩) (fun k hk => ⟨by have := hk.2; omega, by have := hk.2; omega⟩) l2 (Nat.le_refl _) s0 s1 (by omega) (fun i hi _ => by simp) (fun i hi => by omega) (by simp) hm _ fun h4 f4 V4 H4 O4 F4 => ⟨g, s, t, f4, mo, .cons V4 (fun p hp => ?_) (.cons ?_ (by simp) .nil), ?_⟩
  · simp only [List.mem_cons, List.not_mem_nil, or_false] at hp
    subst hp
    show b1 ≠ b2
    omega
  · refine hL3.tail.head.fr F4 fun hk => ?_
    rcases hk with x | x | x
    · omega
    · have := x.1; omega
    · omega
  · rw [List.nil_append, ptL_zero] at O4
    refine HK f4 h4 (O4.mono fun k hk hF => ⟨by omega, hk⟩) ((f1.no_trans f13).of_no.trans (F4.mono (T' := fun k => h.size ≤ k) fun k _ hk => ?_) |>.mono fun k hk hk2 => absurd hk2 (by omega))
    rcases hk with x | x | x
    · omega
    · have := x.1; omega
    · omega

theorem row_put2 {L : List (Nat × List Value)} {F : Nat → Prop} {h : Heap} {s si : Sl} {xss : List (List Int)} {i : Int} (A : Heap → Prop) (hA : ∀ h', Fr F h h' → A h') (O : OwX h F s xss) (hF : ∀ k, h.size ≤ k → F k) (h0 : 0 ≤ i) (h1 : i < (xss.length : Int)) (c0 : hcell h (s.at i 1) = some si.v) (hL : Vars h L) (hoff : ∀ p, p ∈ L → ¬ F p.1) (hb : (xss[i.toNat]'(by omega)).length ≤ 1000000) (x : Int) (R : Heap → Prop) (HR : ∀ h', OwX h' F s (xss.set i.toNat (xss[i.toNat]'(by omega) ++ [x])) → Fr F h h' → Vars h' L → R h') : eop Try.prog (Instr.buildSlice tIs 1 #[(0, VI x)]) h fun rv h1 => ∃ t : Sl, rv = t.v ∧ Vars h1 L ∧ hcell h1 (s.at i 1) = some si.v ∧ A h1 ∧ A h1 ∧ eop Try.prog (appS tIs tIs tIs si.v t.v) h1 fun rv2 h2 => ∃ t2 : Sl, rv2 = t2.v ∧ Vars h2 L ∧ A h2 ∧ A h2 ∧ InB s i ∧ Writable h2 (s.at i 1) ∧ Vars (hset h2 (s.at i 1) t2.v) L ∧ ∀ h3, h3 = hset h2 (s.at i 1) t2.v → Vars h3 L → R h3 := by
  have Oi : OwX h (fun k => F k ∧ k < h.size) s xss := O.mono fun k hk hk2 => ⟨hk2, hk⟩
  obtain ⟨sj, c1, c2, _⟩ := Oi.inner h0 h1
  have : sj = si := slv_inj (c1.symm.trans c0)
  subst this
  refine eop_lit rIs (fun k => h.size ≤ k) (fun _ h => h) 1 (by omega) [VI x] rfl rfl fun t h9 n9 c9 o9 f9 m9 _ => ⟨t, rfl, hL.of_no f9, hcell_fr c1 f9 (fun h => h), hA _ f9.of_no, hA _ f9.of_no, ?_⟩
  have s9 := f9.size
  have O9 := OwR.no Oi f9
  have c2' : OwI h9 F sj (xss[i.toNat]'(by omega)) := (Ow.no c2 f9).mono fun k _ hk => hk.1
  have on := c2'.rd.len
  have tn := o9.rd.len
  simp only [List.length_map, Nat.mul_one, List.length_cons, List.length_nil] at on tn
  refine eop_append rIs c2' (fun k hk => hF k (by omega)) o9.rd (plainVI [x]) (by omega) fun w h10 n10 o10 f10 d10 => ?_
  have g10 : Fr F h9 h10 := f10.mono fun k _ hk => (c2'.foot hk).1
  have V10 : Vars h10 L := (hL.of_no f9).fr g10 hoff
  have o10' : OwI h10 F w (xss[i.toNat]'(by omega) ++ [x]) := by rw [OwI, List.map_append]; exact o10
  obtain ⟨i11, w11, o11, f11⟩ := O9.outer2 h0 h1 (hcell_fr c1 f9 fun h => h) f10 (F' := F) o10' (fun k _ hk => hk.1) fun k hk => (d10 k hk).imp id fun hk2 hk3 => by have := hk3.2; omega
  have g11 : Fr F h10 _ := (O9.ownF f11).mono fun k _ hk => hk.1
  have V11 := V10.fr g11 hoff
  have a10 := hA _ (f9.of_no.trans g10)
  exact ⟨w, rfl, V10, a10, a10, i11, w11, V11, fun h3 e3 V3 => HR h3 (by rw [e3]; exact o11) (by rw [e3]; exact (f9.of_no.trans g10).trans g11) V3⟩
theorem RdR.tl {S : Nat → Prop} {h : Heap} {s : Sl} {xss : List (List Int)} (H : RdR S h s xss) (h1 : 1 ≤ xss.length) : RdR S h (s.cut 1 1 s.n s.c) xss.tail := by
  obtain ⟨ss, e, V, R⟩ := H.out
  have sn := V.len
  simp only [List.length_map, Nat.mul_one] at sn
  have hc := RdV.cut V (l := 1) (m := s.n) (by omega) (Nat.le_refl _)
  have e2 : ((ss.map Sl.v).drop (1 * 1)).take ((s.n - 1) * 1) = ss.tail.map Sl.v := by
    cases ss with
    | nil => simp
    | cons x ss =>
      simp only [List.length_cons] at sn
      rw [show s.n - 1 = ss.length by omega]; simp [List.take_of_length_le]
  rw [e2] at hc
  refine ⟨ss.tail, by simp [e], hc, fun i a b => ?_⟩
  have := R (i + 1) (by simp at a; omega) (by simp at b; omega)
  simpa using this
theorem cycL_rows (n : Int) (both : Bool) : ∀ p r, r ∈ cycL' n both p → r.length ≤ 2
  | 0, r, h => by cases h
  | p + 1, r, h => by
    rw [cycL', List.mem_append] at h
    rcases h with h | h
    · exact cycL_rows n both p r h
    · simp only [List.mem_cons, List.not_mem_nil, or_false] at h
      subst h
      unfold cycR
      cases both <;> simp
theorem rows_set {xss : List (List Int)} {B : Nat} (H : ∀ r, r ∈ xss → r.length ≤ B) (i : Nat) (hi : i < xss.length) (x : Int) : ∀ r, r ∈ xss.set i (xss[i] ++ [x]) → r.length ≤ B + 1 := fun r hr => by
  rcases List.mem_or_eq_of_mem_set hr with h | h
  · exact Nat.le_succ_of_le (H r h)
  · subst h
    have := H _ (List.getElem_mem hi)
    simp
    omega

theorem k_drbalanced {a n b : Nat} {h : Heap} {c : Sl} {i sd : Int} (V : IsVar h b [c.v, VI i, .int .u64 sd]) (hb : a ≤ b) (D : CurD a n h c i) (hn : n ≤ 1000000) (K : Value → Heap → Prop) (HK : ∀ (t : Sl) (gs : List (List Int)) (i' sd' : Int) h', gs.length ≤ 9 → RdR (fun k => h.size ≤ k) h' t gs → IsVar h' b [c.v, VI i', .int .u64 sd'] → CurD a (n + 500) h' c i' → Fr (In [b]) h h' → K (.agg #[t.v]) h') : callM Try.prog 109 #[VP b 0] h K := by
  have lb := V.lt
  refine v109 b c i sd h K (.cons V (by simp) .nil) fun b2 h1 hb2 f1 hL1 => ?_
  have f1 := f1.in_nil
  have z1 := f1.size
  have l2 : b2 < h1.size := hL1.head.lt
  have fin : ∀ (h' : Heap), Fr (fun k => k = b ∨ h.size ≤ k) h h' → Fr (In [b]) h h' := fun h' f => f.mono fun k hk hk2 => by
    rcases hk2 with e | e
    · simp [In, e]
    · omega
  have inb : ∀ {x y : Heap}, Fr (In [b]) x y → Fr (fun k => k = b ∨ h.size ≤ k) x y := fun f => f.mono fun k _ hk => .inl (by simpa [In] using hk)
  refine k_one hL1.tail.head hb (D.no f1) (by omega) 6 _ fun q i2 sd2 h2 V2 D2 f2 => ⟨c, i2, sd2, q, rfl, vcur hL1 1 rfl f2 V2, fun _ => ?_, fun _ => ?_⟩
  · have hL2 := vcur hL1 1 rfl f2 V2
    have z2 := f2.size
    refine k_drgraph9 hL2.tail.head hb D2 (by omega) _ fun t gs i3 sd3 h3 gl G3 V3 D3 f3 => ⟨c, i3, sd3, t, rfl, vcur hL2 1 rfl f3 V3, fun h4 f4 hL4 => ?_⟩
    have g4 : Fr (fun k => k = b ∨ h.size ≤ k) h3 h4 := f4.mono fun k _ hk => .inr (by simp [In] at hk; omega)
    exact HK t gs i3 sd3 h4 gl ((G3.fr f4 fun k hk hk2 => by simp [In] at hk2; omega).mono fun k hk => by omega) hL4.tail.head ((D3.fr f4 fun k hk hk2 => by simp [In] at hk2; omega).up (by omega)) (fin _ (((f1.of_no.trans (inb f2)).trans (inb f3)).trans g4))
  have hL2 := vcur hL1 1 rfl f2 V2
  have z2 := f2.size
  refine k_pick hL2.tail.head hb D2 (by omega) 5 _ fun y i5 sd5 h5 y0 y1 V5 D5 f5 => ⟨c, i5, sd5, y, rfl, vcur hL2 1 rfl f5 V5, ?_⟩
  have y1 := y1 (by omega)
  have hL5 := vcur hL2 1 rfl f5 V5
  have z5 := f5.size
  refine k_one hL5.tail.head hb D5 (by omega) 2 _ fun q2 i6 sd6 h6 V6 D6 f6 => ⟨c, i6, sd6, q2, rfl, vcur hL5 1 rfl f6 V6, ?_⟩
  have hL6 := vcur hL5 1 rfl f6 V6
  have z6 := f6.size
  rw [w64_eq (1 + y) (by omega) (by omega)]
  obtain ⟨N, eN⟩ : ∃ N : Nat, 1 + y = (N : Int) := ⟨(1 + y).toNat, by omega⟩
  rw [eN]
  refine k_grCycle N (by omega) q2 _ fun t h7 o7 f7 => ⟨t, rfl, hL6.of_no f7, fun b3 h9 hb3 f9 hL9 => ?_⟩
  have f9 := f9.in_nil
  have z7 := f7.size
  have z9 := f9.size
  have l3 : b3 < h9.size := hL9.head.lt
  generalize hF : (fun k => (h6.size ≤ k ∧ k < h7.size) ∨ h9.size ≤ k) = F
  have F1 : ∀ k, F k → h6.size ≤ k := fun k hk => by rw [← hF] at hk; rcases hk with a | a <;> omega
  have F2 : ∀ k, h9.size ≤ k → F k := fun k hk => by rw [← hF]; exact .inr hk
  have F3 : ¬ F b3 := fun hk => by rw [← hF] at hk; rcases hk with a | a <;> omega
  have o9 : OwX h9 F t (cycP N q2) := (OwR.no o7 f9).mono fun k hk hk2 => by rw [← hF]; exact .inl hk2
  have gb : ∀ {X Y : Heap} {w : Sl} {zs : List (List Int)}, OwX X F w zs → Fr (In [b]) X Y → OwX Y F w zs := fun O f => OwR.fr O f fun k hk hk2 hk3 => by simp [In] at hk3; have := F1 _ hk2; omega
  have fT : ∀ {x y : Heap}, Fr F x y → Fr (fun k => k = b ∨ h.size ≤ k) x y := fun f => f.mono fun k _ hk => .inr (by have := F1 _ hk; omega)
  have f09 : Fr (fun k => k = b ∨ h.size ≤ k) h h9 := (((f1.of_no.trans (inb f2)).trans (inb f5)).trans (inb f6)).trans (f7.of_no.trans f9.of_no)
  refine k_pick hL9.tail.tail.head hb ((D6.no f7).no f9) (by omega) 3 _ fun k i10 sd10 h10 k0 k1 V10 D10 f10 => ⟨c, i10, sd10, k, rfl, vcur hL9 2 rfl f10 V10, ?_⟩
  have k1 := k1 (by omega)
  have z10 := f10.size
  refine ⟨fun m k d i' sd' h' => d = c ∧ m = k.toNat ∧ 0 ≤ k ∧ k ≤ 2 ∧ CurD a (n + 50 + 210 * (2 - k).toNat) h' c i' ∧ (∃ xss, OwX h' F t xss ∧ xss.length = N ∧ ∀ r, r ∈ xss → r.length ≤ 2 + 5 * (2 - k).toNat) ∧ Fr (fun k => k = b ∨ h.size ≤ k) h h' ∧ h9.size ≤ h'.size, ⟨k.toNat, rfl, rfl, k0, by omega, D10.up (by omega), ⟨_, gb o9 f10, cycL_length _ _ _, fun r hr => by have := cycL_rows _ _ _ r hr; omega⟩, f09.trans (inb f10), by omega⟩, ?_⟩
  rintro m k d i11 sd11 h11 ⟨rfl, em, kk0, k2, D11, ⟨xss, o11, e11, r11⟩, f11, z11⟩ hL11
  refine ⟨fun e => ?_, fun e h18 f18 hL18 => ?_⟩
  · simp only [decide_eq_true_eq] at e
    refine k_shufB hL11.tail.tail.head hb D11 (by omega) (m := N) (by omega) _ fun w os i12 sd12 h12 O12 e12 A12 V12 D12 f12 => ⟨d, i12, sd12, w, rfl, vcur hL11 2 rfl f12 V12, ?_⟩
    have hL12 := vcur hL11 2 rfl f12 V12
    have z12 := f12.size
    refine k_pick hL12.tail.tail.head hb D12 (by omega) N _ fun y3 i13 sd13 h13 u0 u1 V13 D13 f13 => ⟨d, i13, sd13, y3, rfl, vcur hL12 2 rfl f13 V13, ?_⟩
    have u1 := u1 (by omega)
    have hL13 := vcur hL12 2 rfl f13 V13
    have z13 := f13.size
    have W13 : RdI (fun k => h11.size ≤ k ∧ k < h13.size) h13 w os := by
      have : OwI h13 (fun k => h11.size ≤ k) w os := Ow.fr O12 f13 fun k hk hk2 => by have := (O12.foot hk).1; simp [In] at hk2; omega
      exact (this.mono (F' := fun k => h11.size ≤ k ∧ k < h13.size) fun k hk hk2 => ⟨hk2, (this.foot hk).2⟩).rdF
    have o13 : OwX h13 F t xss := gb (gb o11 f12) f13
    have sep : ∀ k, F k ∧ k < h11.size ∨ h13.size ≤ k → F k := fun k hk => by
      rcases hk with hk | hk
      · exact hk.1
      · exact F2 _ (by omega)
    have o13' : OwX h13 (fun k => F k ∧ k < h11.size ∨ h13.size ≤ k) t xss := by
      have q1 : OwX h11 (fun k => F k ∧ k < h11.size) t xss := o11.mono fun k hk hk2 => ⟨hk2, hk⟩
      have q2 : OwX h12 (fun k => F k ∧ k < h11.size) t xss := OwR.fr q1 f12 fun k hk hk2 hk3 => by simp [In] at hk3; have := F1 _ hk2.1; omega
      have q3 : OwX h13 (fun k => F k ∧ k < h11.size) t xss := OwR.fr q2 f13 fun k hk hk2 hk3 => by simp [In] at hk3; have := F1 _ hk2.1; omega
      exact q3.mono fun k hk hk2 => .inl hk2
    rw [w64_eq (1 + y3) (by omega) (by omega)]
    refine ⟨fun m2 j h' => 0 ≤ j ∧ j ≤ 1 + y3 ∧ m2 = (1 + y3 - j).toNat ∧ CurD a (n + 50 + 210 * (2 - k).toNat + 202) h' d i13 ∧ RdI (fun k => h11.size ≤ k ∧ k < h13.size) h' w os ∧ (∃ zss, OwX h' (fun k => F k ∧ k < h11.size ∨ h13.size ≤ k) t zss ∧ zss.length = N ∧ ∀ r, r ∈ zss → r.length ≤ 2 + 5 * (2 - k).toNat + j.toNat) ∧ Fr (fun k => k = b ∨ h.size ≤ k) h h' ∧ h13.size ≤ h'.size, ⟨(1 + y3).toNat, by omega, by omega, by omega, D13.up (by omega), W13, ⟨xss, o13', e11, fun r hr => by have := r11 r hr; omega⟩, (f11.trans (inb f12)).trans (inb f13), by omega⟩, ?_⟩
    rintro m2 j h14 ⟨j0, j1, em2, D14, W14, ⟨zss, o14, e14, r14⟩, f14, z14⟩ hL14
    refine ⟨fun e2 => ?_, fun e2 => ?_⟩
    · simp only [decide_eq_true_eq] at e2
      rw [w64_eq (j + 1) (by omega) (by omega)]
      have mo0 : 0 ≤ (j + 1).tmod (1 + y3) := Int.tmod_nonneg _ (by omega)
      have mo1 : (j + 1).tmod (1 + y3) < 1 + y3 := Int.tmod_lt_of_pos _ (by omega)
      have aj := A12.get (show j.toNat < os.length by omega)
      generalize hpj : (os[j.toNat]'(by omega)) = pj at aj
      obtain ⟨aj0, aj1⟩ := aj
      have cj : hcell h14 (w.at j 1) = some (VI pj) := by rw [W14.get j0 (by omega), hpj]
      obtain ⟨si, c1, _⟩ := OwR.inner o14 aj0 (show pj < (zss.length : Int) by omega)
      have r14' := OwR.rd o14
      refine ⟨W14.inb j0 (by omega), pj, cj, W14.inb j0 (by omega), pj, cj, r14'.inb aj0 (by omega), si, c1, by omega, W14.inb mo0 (by omega), _, W14.get mo0 (by omega), ?_⟩
      have hin : ∀ h', Fr (fun k => F k ∧ k < h11.size ∨ h13.size ≤ k) h14 h' → RdI (fun k => h11.size ≤ k ∧ k < h13.size) h' w os := fun h' f => W14.fr f fun k hk hk2 => by rcases hk2 with hk2 | hk2 <;> omega
      refine row_put2 (A := fun x => hcell x (w.at j 1) = some (VI pj)) (fun h' f => by rw [(hin h' f).get j0 (by omega), hpj]) o14 (fun k hk => .inr (by omega)) aj0 (by omega) c1 hL14 (fun p hp hk => ?_) (by have := r14 _ (List.getElem_mem (show pj.toNat < zss.length by omega)); omega) _ _ fun h17 o17 f17 V17 => ?_
      · have := sep _ hk
        simp only [List.mem_cons, List.not_mem_nil, or_false] at hp
        rcases hp with rfl | rfl | rfl
        · exact F3 this
        · have := F1 _ this; simp only at this; omega
        · have := F1 _ this; simp only at this; omega
      have z17 := f17.size
      refine ⟨m2 - 1, by omega, by omega, by omega, by omega, D14.fr f17 fun k hk hk2 => ?_, hin _ f17, ⟨_, o17, by simp [e14], fun r hr => ?_⟩, f14.trans (f17.mono fun k _ hk => .inr ?_), by omega⟩
      · have := F1 _ (sep _ hk2); omega
      · have := rows_set r14 _ (show pj.toNat < zss.length by omega) _ r hr
        omega
      · have := F1 _ (sep _ hk); omega
    · simp only [decide_eq_false_iff_not] at e2
      rw [w64_eq (k - 1) (by omega) (by omega)]
      exact ⟨m - 1, by omega, rfl, by omega, by omega, by omega, D14.up (by omega), ⟨zss, o14.mono fun k _ hk => sep k hk, e14, fun r hr => by have := r14 r hr; omega⟩, f14, by omega⟩
  · have g18 : Fr (fun k => k = b ∨ h.size ≤ k) h11 h18 := f18.mono fun k _ hk => .inr (by simp [In] at hk; omega)
    have o18 : OwX h18 F t xss := OwR.fr o11 f18 fun k hk hk2 hk3 => by simp [In] at hk3; subst hk3; have := F1 _ hk2; omega
    simp only [decide_eq_false_iff_not] at e
    exact HK t xss i11 sd11 h18 (by omega) ((OwR.rd o18).mono fun k hk => by have := F1 _ hk.1; omega) hL18.tail.tail.head ((D11.fr f18 fun k hk hk2 => by simp [In] at hk2; omega).up (by omega)) (fin _ (f11.trans g18))

theorem k_drsinking {a n b : Nat} {h : Heap} {c : Sl} {i sd : Int} (V : IsVar h b [c.v, VI i, .int .u64 sd]) (hb : a ≤ b) (D : CurD a n h c i) (hn : n ≤ 100000) (K : Value → Heap → Prop) (HK : ∀ (t : Sl) (gs : List (List Int)) (p i' sd' : Int) h', gs.length ≤ 9 → RdR (fun k => h.size ≤ k) h' t gs → IsVar h' b [c.v, VI i', .int .u64 sd'] → CurD a (n + 710) h' c i' → Fr (In [b]) h h' → K (.tuple #[.agg #[t.v], VI p]) h') : callM Try.prog 127 #[VP b 0] h K := by
  have lb := V.lt
  refine v127 b c i sd h K (.cons V (by simp) .nil) fun b2 h1 hb2 f1 hL1 => ?_
  have f1 := f1.in_nil
  have z1 := f1.size
  have l2 : b2 < h1.size := hL1.head.lt
  have fin : ∀ (h' : Heap), Fr (fun k => k = b ∨ h.size ≤ k) h h' → Fr (In [b]) h h' := fun h' f => f.mono fun k hk hk2 => by
    rcases hk2 with e | e
    · simp [In, e]
    · omega
  have inb : ∀ {x y : Heap}, Fr (In [b]) x y → Fr (fun k => k = b ∨ h.size ≤ k) x y := fun f => f.mono fun k _ hk => .inl (by simpa [In] using hk)
  refine k_drgraph9 hL1.tail.head hb (D.no f1) (by omega) _ fun t gs i2 sd2 h2 gl G2 V2 D2 f2 => ⟨c, i2, sd2, t, rfl, vcur hL1 1 rfl f2 V2, fun b3 h4 hb3 f4 hL4 => ?_⟩
  have f4 := f4.in_nil
  have z2 := f2.size
  have z4 := f4.size
  have l3 : b3 < h4.size := hL4.head.lt
  have G4 : RdR (fun k => h.size ≤ k ∧ k ≠ b2 ∧ k ≠ b3 ∧ k ≠ b) h4 t gs := (G2.lowS.no f4).mono fun k hk => by omega
  have f04 : Fr (fun k => k = b ∨ h.size ≤ k) h h4 := (f1.of_no.trans (inb f2)).trans f4.of_no
  refine ⟨fun x d i' sd' h' => d = c ∧ CurD a (n + 704) h' c i' ∧ (∃ gs, gs.length ≤ 9 ∧ RdR (fun k => h.size ≤ k ∧ k ≠ b2 ∧ k ≠ b3 ∧ k ≠ b) h' x gs) ∧ Fr (fun k => k = b ∨ h.size ≤ k) h h' ∧ h4.size ≤ h'.size, ?_, ?_⟩
  · refine k_one hL4.tail.tail.head hb (D2.no f4) (by omega) 3 _ fun q i5 sd5 h5 V5 D5 f5 => ⟨c, i5, sd5, q, rfl, vcur hL4 2 rfl f5 V5, fun _ => ?_, fun _ => ?_⟩
    · have hL5 := vcur hL4 2 rfl f5 V5
      have z5 := f5.size
      refine k_drbalanced hL5.tail.tail.head hb D5 (by omega) _ fun t6 gs6 i6 sd6 h6 gl6 G6 V6 D6 f6 => ⟨c, i6, sd6, t6, rfl, vcur hL5 2 rfl f6 V6, fun h7 f7 hL7 => ?_⟩
      have z6 := f6.size
      refine ⟨rfl, (D6.fr f7 fun k hk hk2 => by simp [In] at hk2; omega).up (by omega), ⟨gs6, gl6, (G6.fr f7 fun k hk hk2 => by simp [In] at hk2; omega).mono fun k hk => by omega⟩, ((f04.trans (inb f5)).trans (inb f6)).trans (f7.mono fun k _ hk => .inr (by simp [In] at hk; omega)), by have := f7.size; omega⟩
    · exact ⟨rfl, D5.up (by omega), ⟨gs, gl, G4.fr f5 fun k hk hk2 => by simp [In] at hk2; omega⟩, f04.trans (inb f5), f5.size⟩
  rintro x d i8 sd8 h8 ⟨rfl, D8, ⟨gs8, gl8, G8⟩, f8, z8⟩ hL8
  refine k_drplace hL8.tail.tail.head hb D8 (by omega) x _ fun p i9 sd9 h9 V9 D9 f9 => ⟨d, i9, sd9, p, rfl, vcur hL8 2 rfl f9 V9, fun h10 f10 hL10 => ?_⟩
  have z9 := f9.size
  have G10 : RdR (fun k => h.size ≤ k ∧ k ≠ b2 ∧ k ≠ b3 ∧ k ≠ b) h10 x gs8 := (G8.fr f9 fun k hk hk2 => by simp [In] at hk2; omega).fr f10 fun k hk hk2 => by simp [In] at hk2; omega
  exact HK x gs8 p i9 sd9 h10 gl8 (G10.mono fun k hk => hk.1) hL10.tail.tail.head ((D9.fr f10 fun k hk hk2 => by simp [In] at hk2; omega).up (by omega)) (fin _ ((f8.trans (inb f9)).trans (f10.mono fun k _ hk => .inr (by simp [In] at hk; omega))))

/-! The least lengths of ways. -/
def Way (g : List (List Int)) (p : Int) : Nat → Int → Prop
  | 0, q => p = q
  | k + 1, q => ∃ x, Way g p k x ∧ q ∈ g.getD x.toNat []
theorem Way.rng {g : List (List Int)} (hg : graphB g = true) {p : Int} (h0 : 0 ≤ p) (h1 : p < (g.length : Int)) : ∀ {k : Nat} {q : Int}, Way g p k q → 0 ≤ q ∧ q < (g.length : Int)
  | 0, q, h => by rw [← show p = q from h]; exact ⟨h0, h1⟩
  | k + 1, q, h => by
    obtain ⟨x, hx, hq⟩ := h
    have hr := Way.rng hg h0 h1 hx
    rw [getD_get (by omega)] at hq
    exact (graph_mem hg (List.getElem_mem (show x.toNat < g.length by omega))).2 q hq
theorem Way.trans {g : List (List Int)} {p q r : Int} {a : Nat} (h : Way g p a q) : ∀ {b : Nat}, Way g q b r → Way g p (a + b) r
  | 0, k => by rw [← show q = r from k]; exact h
  | b + 1, k => by
    obtain ⟨x, hx, hr⟩ := k
    exact ⟨x, h.trans hx, hr⟩
theorem set_getI {l : List Int} {i j : Nat} {v : Int} (hi : i < l.length) : (l.set i v).getD j 0 = if i = j then v else l.getD j 0 := by
  rw [List.getD_eq_getElem?_getD, List.getElem?_set, List.getD_eq_getElem?_getD]
  by_cases h : i = j
  · subst h; simp [hi]
  · simp [h]
/-- What one place makes of the lengths. -/
structure BIn (x : Int) (qs far : List Int) (far' new : List Int) : Prop where
  len : far'.length = far.length
  old : ∀ y : Nat, 0 ≤ far.getD y 0 → far'.getD y 0 = far.getD y 0
  chg : ∀ y : Nat, far.getD y 0 < 0 → far'.getD y 0 = far.getD y 0 ∨ far'.getD y 0 = far.getD x.toNat 0 + 1 ∧ (y : Int) ∈ qs ∧ (y : Int) ∈ new
  met : ∀ y, y ∈ qs → 0 ≤ far'.getD y.toNat 0
  nw : ∀ z, z ∈ new → z ∈ qs ∧ far'.getD z.toNat 0 = far.getD x.toNat 0 + 1
  cnt : new.length + negs far' = negs far
theorem bfsIn_spec (x : Int) : ∀ (qs far out : List Int), (∀ q, q ∈ qs → 0 ≤ q ∧ q < (far.length : Int)) → 0 ≤ far.getD x.toNat 0 → ∃ far' new, bfsIn x qs (far, out) = (far', out ++ new) ∧ BIn x qs far far' new
  | [], far, out, _, _ => ⟨far, [], by rw [bfsIn, List.append_nil], rfl, fun _ _ => rfl, fun _ _ => .inl rfl, fun y hy => by simp at hy, fun z hz => by simp at hz, by simp⟩
  | q :: qs, far, out, hr, hx => by
    have hq := hr q List.mem_cons_self
    rw [bfsIn]
    by_cases hn : far.getD q.toNat 0 < 0
    · rw [if_pos hn]
      simp only
      have hqx : q.toNat ≠ x.toNat := fun e => by rw [e] at hn; omega
      have gx : (far.set q.toNat (far.getD x.toNat 0 + 1)).getD x.toNat 0 = far.getD x.toNat 0 := by rw [set_getI (by omega), if_neg hqx]
      obtain ⟨far', new, e, B⟩ := bfsIn_spec x qs (far.set q.toNat (far.getD x.toNat 0 + 1)) (out ++ [q]) (fun r h => by rw [List.length_set]; exact hr r (List.mem_cons_of_mem _ h)) (by rw [gx]; exact hx)
      have hc := negs_set (l := far) (i := q.toNat) (v := far.getD x.toNat 0 + 1) (by omega) (by rw [← getD_getI (by omega)]; exact hn) (by omega)
      have hqf : far'.getD q.toNat 0 = far.getD x.toNat 0 + 1 := by
        have := B.old q.toNat (by rw [set_getI (by omega), if_pos rfl]; omega)
        rw [this, set_getI (by omega), if_pos rfl]
      refine ⟨far', q :: new, by rw [e, List.append_assoc]; rfl, by rw [B.len, List.length_set], fun y hy => ?_, fun y hy => ?_, fun y hy => ?_, fun z hz => ?_, by have := B.cnt; simp only [List.length_cons]; omega⟩
      · have hne : q.toNat ≠ y := fun e => by rw [e] at hn; omega
        have := B.old y (by rw [set_getI (by omega), if_neg hne]; exact hy)
        rw [this, set_getI (by omega), if_neg hne]
      · by_cases hne : q.toNat = y
        · subst hne
          refine .inr ⟨hqf, ?_, ?_⟩ <;> rw [show ((q.toNat : Nat) : Int) = q by omega] <;> exact List.mem_cons_self
        · have g1 : (far.set q.toNat (far.getD x.toNat 0 + 1)).getD y 0 = far.getD y 0 := by rw [set_getI (by omega), if_neg hne]
          rcases B.chg y (by rw [g1]; exact hy) with h | ⟨h1, h2, h3⟩
          · exact .inl (h.trans g1)
          · exact .inr ⟨by rw [h1, gx], List.mem_cons_of_mem _ h2, List.mem_cons_of_mem _ h3⟩
      · rcases List.mem_cons.1 hy with rfl | hy
        · rw [hqf]; omega
        · exact B.met y hy
      · rcases List.mem_cons.1 hz with rfl | hz
        · exact ⟨List.mem_cons_self, hqf⟩
        · have := B.nw z hz
          exact ⟨List.mem_cons_of_mem _ this.1, by rw [this.2, gx]⟩
    · rw [if_neg hn]
      obtain ⟨far', new, e, B⟩ := bfsIn_spec x qs far out (fun r h => hr r (List.mem_cons_of_mem _ h)) hx
      refine ⟨far', new, e, B.len, B.old, fun y hy => ?_, fun y hy => ?_, fun z hz => ⟨List.mem_cons_of_mem _ (B.nw z hz).1, (B.nw z hz).2⟩, B.cnt⟩
      · rcases B.chg y hy with h | ⟨h1, h2, h3⟩
        · exact .inl h
        · exact .inr ⟨h1, List.mem_cons_of_mem _ h2, h3⟩
      · rcases List.mem_cons.1 hy with rfl | hy
        · rw [B.old _ (by omega)]; omega
        · exact B.met y hy
/-- Lengths on the way, and the places that wait. -/
structure BQ (g : List (List Int)) (p : Int) (far qu : List Int) : Prop where
  len : far.length = g.length
  way : ∀ y : Nat, y < g.length → 0 ≤ far.getD y 0 → Way g p (far.getD y 0).toNat y
  lo : ∀ y : Nat, -1 ≤ far.getD y 0
  qin : ∀ x, x ∈ qu → 0 ≤ x ∧ x < (g.length : Int) ∧ 0 ≤ far.getD x.toNat 0
  ord : qu.Pairwise fun a b => far.getD a.toNat 0 ≤ far.getD b.toNat 0
  top : ∀ x r, qu = x :: r → ∀ y : Nat, y < g.length → far.getD y 0 ≤ far.getD x.toNat 0 + 1
  done : ∀ x : Nat, x < g.length → 0 ≤ far.getD x 0 → (x : Int) ∈ qu ∨ ∀ y, y ∈ g.getD x [] → 0 ≤ far.getD y.toNat 0 ∧ far.getD y.toNat 0 ≤ far.getD x 0 + 1
  home : far.getD p.toNat 0 = 0
  hi : ∀ y : Nat, y < g.length → far.getD y 0 + negs far < g.length
theorem bfs_done {g : List (List Int)} (hg : graphB g = true) {p : Int} : ∀ (f : Nat) (far qu : List Int), BQ g p far qu → qu.length + negs far ≤ f → BQ g p (bfsP g f far qu) []
  | 0, far, qu, B, h => by
    have : qu = [] := List.eq_nil_of_length_eq_zero (by omega)
    subst this
    exact B
  | f + 1, far, [], B, h => B
  | f + 1, far, x :: rest, B, h => by
    have hx := B.qin x List.mem_cons_self
    have hxl : x.toNat < g.length := by omega
    have hq : ∀ q, q ∈ g.getD x.toNat [] → 0 ≤ q ∧ q < (far.length : Int) := fun q hq => by
      rw [getD_get hxl] at hq
      rw [B.len]
      exact (graph_mem hg (List.getElem_mem hxl)).2 q hq
    obtain ⟨far', new, e, C⟩ := bfsIn_spec x (g.getD x.toNat []) far [] hq hx.2.2
    rw [bfsP, e]
    simp only [List.nil_append]
    have gx : far'.getD x.toNat 0 = far.getD x.toNat 0 := C.old _ hx.2.2
    have hgrow : ∀ y : Nat, 0 ≤ far.getD y 0 → far'.getD y 0 = far.getD y 0 := C.old
    have hle : ∀ y : Nat, y < g.length → far'.getD y 0 ≤ far.getD x.toNat 0 + 1 := fun y hy => by
      by_cases h0 : 0 ≤ far.getD y 0
      · rw [C.old y h0]; exact B.top x rest rfl y hy
      · rcases C.chg y (by omega) with h | ⟨h, _⟩
        · rw [h]; omega
        · omega
    have hrest : ∀ z, z ∈ rest → far'.getD z.toNat 0 = far.getD z.toNat 0 := fun z hz => C.old _ (B.qin z (List.mem_cons_of_mem _ hz)).2.2
    obtain ⟨o1, o2⟩ := List.pairwise_cons.1 B.ord
    refine bfs_done hg f far' (rest ++ new) ⟨by rw [C.len, B.len], fun y hy h0 => ?_, fun y => ?_, fun z hz => ?_, ?_, fun z r hz y hy => ?_, fun y hy h0 => ?_, ?_, fun y hy => ?_⟩ ?_
    · by_cases h1 : 0 ≤ far.getD y 0
      · rw [C.old y h1]; exact B.way y hy h1
      · rcases C.chg y (by omega) with h | ⟨h, h2, _⟩
        · rw [h] at h0; omega
        · rw [h, show (far.getD x.toNat 0 + 1).toNat = (far.getD x.toNat 0).toNat + 1 by omega]
          refine ⟨x, ?_, h2⟩
          have := B.way x.toNat hxl hx.2.2
          rwa [show ((x.toNat : Nat) : Int) = x by omega] at this
    · by_cases h1 : 0 ≤ far.getD y 0
      · rw [C.old y h1]; omega
      · have := B.lo y
        rcases C.chg y (by omega) with h | ⟨h, _⟩ <;> omega
    · rcases List.mem_append.1 hz with hz | hz
      · have := B.qin z (List.mem_cons_of_mem _ hz)
        exact ⟨this.1, this.2.1, by rw [hrest z hz]; exact this.2.2⟩
      · have a := C.nw z hz
        have b := hq z a.1
        rw [B.len] at b
        exact ⟨b.1, b.2, by rw [a.2]; omega⟩
    · rw [List.pairwise_append]
      refine ⟨o2.imp_of_mem fun {a b} ha hb hab => by rw [hrest a ha, hrest b hb]; exact hab, ?_, fun a ha b hb => ?_⟩
      · rw [List.pairwise_iff_getElem]
        intro i j hi hj _
        rw [(C.nw _ (List.getElem_mem hi)).2, (C.nw _ (List.getElem_mem hj)).2]
        omega
      · rw [hrest a ha, (C.nw b hb).2]
        have := B.qin a (List.mem_cons_of_mem _ ha)
        exact B.top x rest rfl a.toNat (by omega)
    · have hz1 : far.getD x.toNat 0 ≤ far'.getD z.toNat 0 := by
        have hzm : z ∈ rest ++ new := by rw [hz]; exact List.mem_cons_self
        rcases List.mem_append.1 hzm with h | h
        · rw [hrest z h]; exact o1 z h
        · rw [(C.nw z h).2]; omega
      have := hle y hy
      omega
    · by_cases hyx : (y : Int) = x
      · refine .inr fun z hz => ?_
        have hyx' : y = x.toNat := by omega
        rw [hyx'] at hz ⊢
        have := hq z hz
        rw [B.len] at this
        exact ⟨C.met z hz, by rw [gx]; exact hle z.toNat (by omega)⟩
      · by_cases h1 : 0 ≤ far.getD y 0
        · rcases B.done y hy h1 with h | h
          · rcases List.mem_cons.1 h with h | h
            · exact absurd h hyx
            · exact .inl (List.mem_append.2 (.inl h))
          · refine .inr fun z hz => ?_
            obtain ⟨a, b⟩ := h z hz
            rw [C.old _ a, C.old _ h1]
            exact ⟨a, b⟩
        · rcases C.chg y (by omega) with h | ⟨_, _, h⟩
          · rw [h] at h0; omega
          · exact .inl (List.mem_append.2 (.inr h))
    · rw [C.old _ (by rw [B.home]; omega)]; exact B.home
    · have hc := C.cnt
      by_cases h1 : 0 ≤ far.getD y 0
      · rw [C.old y h1]; have := B.hi y hy; omega
      · rcases C.chg y (by omega) with h | ⟨h, _, h3⟩
        · rw [h]; have := B.hi y hy; omega
        · have := List.length_pos_of_mem h3
          have := B.hi x.toNat hxl
          rw [h]; omega
    · have := C.cnt
      simp only [List.length_cons, List.length_append] at *
      omega
theorem far_bq {g : List (List Int)} (hg : graphB g = true) {p : Int} (h0 : 0 ≤ p) (h1 : p < (g.length : Int)) : BQ g p (farP g p) [] := by
  obtain ⟨b1, b2⟩ := bok0 (n := g.length) (p := p.toNat) (by omega)
  have gd : ∀ y : Nat, ((List.replicate g.length (-1 : Int)).set p.toNat 0).getD y 0 = if p.toNat = y then 0 else if y < g.length then -1 else 0 := fun y => by
    rw [set_getI (by simp; omega)]
    split
    · rfl
    · rw [List.getD_eq_getElem?_getD, List.getElem?_replicate]; split <;> rfl
  refine bfs_done hg g.length _ [p] ⟨by simp, fun y hy h => ?_, fun y => ?_, fun x hx => ?_, by simp, fun x r hx y hy => ?_, fun x hx h => ?_, ?_, fun y hy => ?_⟩ (by simp only [List.length_cons, List.length_nil]; omega)
  · rw [gd] at h ⊢
    split at h
    · rename_i e
      rw [if_pos e]
      show p = (y : Int)
      omega
    · simp at h
  · rw [gd]; split
    · omega
    · split <;> omega
  · simp only [List.mem_cons, List.not_mem_nil, or_false] at hx
    subst hx
    exact ⟨h0, h1, by rw [gd, if_pos rfl]; omega⟩
  · simp only [List.cons.injEq] at hx
    rw [← hx.1, gd, gd, if_pos rfl]
    split
    · omega
    · (try split) <;> omega
  · rw [gd] at h
    split at h
    · exact .inl (by simp; omega)
    · simp at h
  · rw [gd, if_pos rfl]
  · rw [gd]
    split
    · omega
    · (try split) <;> omega
/-- A way is no shorter than told. -/
theorem far_le {g : List (List Int)} (hg : graphB g = true) {p : Int} (h0 : 0 ≤ p) (h1 : p < (g.length : Int)) : ∀ {k : Nat} {q : Int}, Way g p k q → 0 ≤ (farP g p).getD q.toNat 0 ∧ (farP g p).getD q.toNat 0 ≤ k
  | 0, q, h => by rw [← show p = q from h, (far_bq hg h0 h1).home]; omega
  | k + 1, q, h => by
    obtain ⟨x, hx, hq⟩ := h
    obtain ⟨a, b⟩ := far_le hg h0 h1 hx
    have hr := hx.rng hg h0 h1
    rcases (far_bq hg h0 h1).done x.toNat (by omega) a with c | c
    · simp at c
    · have := c q hq
      omega
theorem far_way {g : List (List Int)} (hg : graphB g = true) {p q : Int} (h0 : 0 ≤ p) (h1 : p < (g.length : Int)) (q0 : 0 ≤ q) (q1 : q < (g.length : Int)) (h : 0 ≤ (farP g p).getD q.toNat 0) : Way g p ((farP g p).getD q.toNat 0).toNat q := by
  have := (far_bq hg h0 h1).way q.toNat (by omega) h
  rwa [show ((q.toNat : Nat) : Int) = q by omega] at this
theorem far_iff {g : List (List Int)} (hg : graphB g = true) {p q : Int} (h0 : 0 ≤ p) (h1 : p < (g.length : Int)) (q0 : 0 ≤ q) (q1 : q < (g.length : Int)) : 0 ≤ (farP g p).getD q.toNat 0 ↔ ∃ k, Way g p k q :=
  ⟨fun h => ⟨_, far_way hg h0 h1 q0 q1 h⟩, fun ⟨k, h⟩ => (far_le hg h0 h1 h).1⟩
theorem far_lo {g : List (List Int)} (hg : graphB g = true) {p : Int} (h0 : 0 ≤ p) (h1 : p < (g.length : Int)) (q : Nat) : -1 ≤ (farP g p).getD q 0 := (far_bq hg h0 h1).lo q
/-- Lengths are told by ways alone. -/
theorem far_eq {g g' : List (List Int)} (hg : graphB g = true) (hg' : graphB g' = true) {p q p' q' : Int} (h0 : 0 ≤ p) (h1 : p < (g.length : Int)) (q0 : 0 ≤ q) (q1 : q < (g.length : Int)) (h0' : 0 ≤ p') (h1' : p' < (g'.length : Int)) (q0' : 0 ≤ q') (q1' : q' < (g'.length : Int)) (hw : ∀ k, Way g p k q ↔ Way g' p' k q') : (farP g p).getD q.toNat 0 = (farP g' p').getD q'.toNat 0 := by
  have a1 := far_lo hg h0 h1 q.toNat
  have a2 := far_lo hg' h0' h1' q'.toNat
  by_cases h : 0 ≤ (farP g p).getD q.toNat 0
  · have w := (hw _).1 (far_way hg h0 h1 q0 q1 h)
    obtain ⟨b1, b2⟩ := far_le hg' h0' h1' w
    have w' := (hw _).2 (far_way hg' h0' h1' q0' q1' b1)
    obtain ⟨c1, c2⟩ := far_le hg h0 h1 w'
    omega
  · have : ¬ 0 ≤ (farP g' p').getD q'.toNat 0 := fun h' => h ((far_iff hg h0 h1 q0 q1).2 ⟨_, (hw _).2 (far_way hg' h0' h1' q0' q1' h')⟩)
    omega
theorem far_zero {g : List (List Int)} (hg : graphB g = true) {p q : Int} (h0 : 0 ≤ p) (h1 : p < (g.length : Int)) (q0 : 0 ≤ q) (q1 : q < (g.length : Int)) : (farP g p).getD q.toNat 0 = 0 ↔ p = q := by
  constructor
  · intro h
    have := far_way hg h0 h1 q0 q1 (by omega)
    rw [h] at this
    exact this
  · rintro rfl; exact (far_bq hg h0 h1).home
theorem far_hi {g : List (List Int)} (hg : graphB g = true) {p : Int} (h0 : 0 ≤ p) (h1 : p < (g.length : Int)) (q : Nat) (hq : q < g.length) : (farP g p).getD q 0 < g.length := by
  have := (far_bq hg h0 h1).hi q hq
  omega

/-! A place that every place leads to has a tree, and the other way round. -/
theorem Way.head {g : List (List Int)} {p : Int} : ∀ {k : Nat} {s : Int}, Way g p (k + 1) s → ∃ e, e ∈ g.getD p.toNat [] ∧ Way g e k s
  | 0, s, h => by
    obtain ⟨x, hx, hs⟩ := h
    rw [← show p = x from hx] at hs
    exact ⟨s, hs, rfl⟩
  | k + 1, s, h => by
    obtain ⟨x, hx, hs⟩ := h
    obtain ⟨e, he, hw⟩ := Way.head hx
    exact ⟨e, he, x, hw, hs⟩
theorem lead_iff {g : List (List Int)} {s : Int} : leadB g s = true ↔ ∀ p : Nat, p < g.length → 0 ≤ (farP g p).getD s.toNat 0 := by
  unfold leadB
  rw [range_all]
  constructor
  · intro h p hp
    have := h p hp
    simp only [Bool.not_eq_true', decide_eq_false_iff_not] at this
    omega
  · intro h p hp
    have := h p hp
    simp only [Bool.not_eq_true', decide_eq_false_iff_not]
    omega
theorem nx_mem {g : List (List Int)} {rs : List Int} {a : Int} (W : WOK g (rs, a)) {p : Int} (h0 : 0 ≤ p) (h1 : p < (g.length : Int)) (h : 0 ≤ nx g rs p) : nx g rs p ∈ g.getD p.toNat [] := by
  by_cases hz : (g[p.toNat]'(by omega)).length = 0
  · rw [nx_none h0 h1 hz] at h; omega
  · obtain ⟨hr, hm, _, e⟩ := nx_some W h0 h1 hz
    rw [e, getD_get (show p.toNat < g.length by omega)]
    exact List.getElem_mem hm
theorem itx_way {g : List (List Int)} {rs : List Int} {a : Int} (W : WOK g (rs, a)) {p : Int} (h0 : 0 ≤ p) (h1 : p < (g.length : Int)) : ∀ k, 0 ≤ itx g rs p k → Way g p k (itx g rs p k)
  | 0, _ => rfl
  | k + 1, h => by
    have hk : 0 ≤ itx g rs p k := by
      by_cases hx : itx g rs p k < 0
      · have := itx_neg_mono hx (show k ≤ k + 1 by omega)
        omega
      · omega
    exact ⟨_, itx_way W h0 h1 k hk, nx_mem W hk (itx_lt W h0 h1 k).2 h⟩
theorem lead_tree {g : List (List Int)} (hg : graphB g = true) {s : Int} (s0 : 0 ≤ s) (s1 : s < (g.length : Int)) : leadB g s = true ↔ treesL g s ≠ [] := by
  rw [lead_iff]
  constructor
  · intro hl
    have step : ∀ p : Nat, ∃ j : Nat, p < g.length → (p : Int) ≠ s → j < (g.getD p []).length ∧ 0 ≤ (g.getD p []).getD j 0 ∧ (g.getD p []).getD j 0 < (g.length : Int) ∧ (farP g ((g.getD p []).getD j 0)).getD s.toNat 0 < (farP g p).getD s.toNat 0 := fun p => by
      by_cases hp : p < g.length ∧ (p : Int) ≠ s
      · have p0 : (0 : Int) ≤ p := by omega
        have p1 : (p : Int) < (g.length : Int) := by omega
        have hw := far_way hg p0 p1 s0 s1 (hl p hp.1)
        have hz : (farP g p).getD s.toNat 0 ≠ 0 := fun h => hp.2 ((far_zero hg p0 p1 s0 s1).1 h)
        have h0 := hl p hp.1
        generalize hD : (farP g (p : Int)).getD s.toNat 0 = D at hw hz h0
        obtain ⟨m, hm⟩ : ∃ m : Nat, D.toNat = m + 1 := ⟨D.toNat - 1, by omega⟩
        rw [hm] at hw
        obtain ⟨e, he, hw⟩ := Way.head hw
        rw [show ((p : Int)).toNat = p from rfl] at he
        obtain ⟨j, hj, ej⟩ := List.getElem_of_mem he
        have er := (graph_mem hg (List.getElem_mem hp.1)).2 e (by rw [getD_get hp.1] at he; exact he)
        refine ⟨j, fun _ _ => ⟨hj, ?_⟩⟩
        rw [getD_getI hj, ej]
        have := far_le hg er.1 (by omega) hw
        omega
      · exact ⟨0, fun a b => absurd ⟨a, b⟩ hp⟩
    let f : Nat → Nat := fun p => Classical.choose (step p)
    have hf : ∀ p : Nat, p < g.length → (p : Int) ≠ s → f p < (g.getD p []).length ∧ 0 ≤ (g.getD p []).getD (f p) 0 ∧ (g.getD p []).getD (f p) 0 < (g.length : Int) ∧ (farP g ((g.getD p []).getD (f p) 0)).getD s.toNat 0 < (farP g p).getD s.toNat 0 := fun p => Classical.choose_spec (step p)
    let rs : List Int := (List.range g.length).map fun p : Nat => if (p : Int) = s then 0 else ((f p : Nat) : Int)
    have hl' : rs.length = g.length := by simp [rs]
    have hg' : ∀ (p : Nat) (h : p < rs.length), rs[p] = if (p : Int) = s then 0 else ((f p : Nat) : Int) := fun p h => by simp [rs]
    have hr : rs ∈ allRot g s := mem_allRot.2 ⟨hl', fun i hi => by
      rw [hg' i hi]
      unfold cand
      by_cases e : (i : Int) = s
      · rw [if_pos e, if_pos (.inl e)]; exact List.mem_singleton.2 rfl
      · have := (hf i (by omega) e).1
        rw [if_neg e, if_neg (by rintro (a | a); exact e a; omega)]
        exact mem_rngI.2 ⟨by omega, by omega⟩⟩
    have W := (rot_ok (a := s) hg s0 s1 hr).1
    have ht : ∀ (N p : Nat), p < g.length → (farP g p).getD s.toNat 0 ≤ N → ∃ k, itx g rs p k = s := fun N => by
      induction N with
      | zero =>
        intro p hp h
        have := hl p hp
        exact ⟨0, (far_zero (p := (p : Int)) hg (by omega) (by omega) s0 s1).1 (by omega)⟩
      | succ N ih =>
        intro p hp h
        by_cases e : (p : Int) = s
        · exact ⟨0, e⟩
        obtain ⟨a1, a2, a3, a4⟩ := hf p hp e
        have hn : nx g rs p = (g.getD p []).getD (f p) 0 := by
          unfold nx
          rw [if_neg (by omega), show ((p : Int)).toNat = p from rfl, if_neg (by omega), getD_getI (show p < rs.length by omega), hg' p (by omega), if_neg e]
          rfl
        obtain ⟨k, hk⟩ := ih ((g.getD p []).getD (f p) 0).toNat (by omega) (by rw [Int.toNat_of_nonneg a2]; omega)
        rw [Int.toNat_of_nonneg a2, ← hn, itx_cons] at hk
        exact ⟨k + 1, hk⟩
    have hm : rs ∈ treesL g s := List.mem_filter.2 ⟨hr, (treeB_iff W s0).2 fun p hp => ht ((farP g p).getD s.toNat 0).toNat p hp (by have := hl p hp; omega)⟩
    exact List.ne_nil_of_mem hm
  · intro hne p hp
    obtain ⟨rs, hrs⟩ := List.exists_mem_of_ne_nil _ hne
    have hr := List.mem_filter.1 hrs
    have W := (rot_ok (a := s) hg s0 s1 hr.1).1
    obtain ⟨k, hk⟩ := (treeB_iff W s0).1 hr.2 p hp
    have hw := itx_way W (p := (p : Int)) (by omega) (by omega) k (by omega)
    rw [hk] at hw
    exact (far_iff (p := (p : Int)) hg (by omega) (by omega) s0 s1).2 ⟨k, hw⟩

theorem lasso_uni {g : List (List Int)} {rs : List Int} {p : Int} {i d i' d' : Nat} (L : Lasso g rs p i d) (L' : Lasso g rs p i' d') : i = i' ∧ d = d' := by
  have a1 := L.d1
  have a2 := L'.d1
  have e : i + d = i' + d' := by
    rcases Nat.lt_trichotomy (i + d) (i' + d') with h | h | h
    · exact absurd L.eq (L'.inj i (i + d) (by omega) h)
    · exact h
    · exact absurd L'.eq (L.inj i' (i' + d') (by omega) h)
  have e2 : i = i' := by
    rcases Nat.lt_trichotomy i i' with h | h | h
    · exact absurd (L.eq.trans (by rw [e]; exact L'.eq.symm)) (L.inj i i' h (by omega))
    · exact h
    · exact absurd (L'.eq.trans (by rw [← e]; exact L.eq.symm)) (L.inj i' i h (by omega))
  exact ⟨e2, by omega⟩
/-- The round that a place leads into, from where it is met. -/
noncomputable def cyF (g : List (List Int)) (rs : List Int) (p : Int) : List Int × Bool :=
  @dite _ (0 ≤ itx g rs p g.length ∧ ∃ t : Nat × Nat, Lasso g rs p t.1 t.2) (Classical.propDecidable _) (fun h => ((List.range (Classical.choose h.2).2).map fun r => itx g rs p ((Classical.choose h.2).1 + r), true)) fun _ => ([], false)
theorem cyF_none {g : List (List Int)} {rs : List Int} {p : Int} (h : itx g rs p g.length < 0) : cyF g rs p = ([], false) := by
  unfold cyF
  rw [dif_neg (fun h2 => by have := h2.1; omega)]
theorem cyF_some {g : List (List Int)} {rs : List Int} {p : Int} (h : 0 ≤ itx g rs p g.length) {i d : Nat} (L : Lasso g rs p i d) : cyF g rs p = ((List.range d).map fun r => itx g rs p (i + r), true) := by
  have h2 : 0 ≤ itx g rs p g.length ∧ ∃ t : Nat × Nat, Lasso g rs p t.1 t.2 := ⟨h, (i, d), L⟩
  unfold cyF
  rw [dif_pos h2]
  obtain ⟨e1, e2⟩ := lasso_uni L (Classical.choose_spec h2.2)
  rw [← e1, ← e2]
noncomputable def cyFP (g : List (List Int)) (rs : List Int) (p : Int) : List Int × Bool := if walkB g rs p then cyF g rs p else ([], false)

noncomputable def touP (g : List (List Int)) (rs : List Int) (p : Int) : List Int × Bool := if walkB g rs p && uniB g rs p then (rs.set p.toNat 0, true) else ([], false)

theorem walkB_pl2 {g : List (List Int)} {p : Int} {rs : List Int} (h : (graphB g && inR 0 ((g.length : Int) - 1) p) = true) : walkB g rs p = walkB g rs 0 := by
  rw [Bool.and_eq_true] at h
  have gl := graph_len h.1
  have h0 : inR 0 ((g.length : Int) - 1) 0 = true := inR_iff.2 ⟨Int.le_refl _, by omega⟩
  unfold walkB
  rw [h.2, h0]

theorem k_trFar {S S' : Nat → Prop} {h : Heap} {g w : Sl} {xss : List (List Int)} {rs : List Int} {a : Int} (G : RdR S h g xss) (H : RdI S' h w rs) (W : WOK xss (rs, a)) {s : Int} (s0 : 0 ≤ s) {p : Int} (h0 : 0 ≤ p) (h1 : p < (xss.length : Int)) (K : Value → Heap → Prop)
    (HN : (∀ m, m < xss.length → itx xss rs p m ≠ s) → ∀ h', Fr No h h' → K (VI (-1)) h')
    (HS : ∀ m : Nat, m < xss.length → itx xss rs p m = s → (∀ j, j < m → itx xss rs p j ≠ s) → ∀ h', Fr No h h' → K (VI m) h') : callM Try.prog 105 #[.agg #[g.v], VI s, w.v, VI p] h K := by
  refine v105 g s w p h K fun b1 h2 hb1 f2 hL2 => ?_
  have f2 := f2.in_nil
  have hgl := graph_len W.graph
  refine ⟨fun n q i h' => ∃ m : Nat, i = (m : Int) ∧ m ≤ xss.length ∧ n = xss.length - m ∧ q = itx xss rs p m ∧ 0 ≤ q ∧ (∀ j, j < m → itx xss rs p j ≠ s) ∧ Fr No h h', ⟨xss.length, 0, rfl, by omega, rfl, rfl, h0, fun j hj => by omega, f2⟩, ?_⟩
  rintro n q i h3 ⟨m, rfl, hm, rfl, rfl, q0, mj, f3⟩ hL3
  refine ⟨fun e => ⟨fun e2 => ?_, fun e2 => ?_⟩, fun e => ?_⟩
  · have hi := (G.no f3).lt e
    simp only [decide_eq_true_eq] at e2
    exact HS m (by omega) e2 mj h3 f3
  · have hi := (G.no f3).lt e
    simp only [decide_eq_false_iff_not] at e2
    have mj2 : ∀ j, j < m + 1 → itx xss rs p j ≠ s := fun j hj => by
      by_cases hj2 : j < m
      · exact mj j hj2
      · obtain rfl : j = m := by omega
        exact e2
    refine k_trNext (G.no f3) (H.no f3) W q0 (itx_lt W h0 h1 _).2 _ fun h4 f4 => ⟨_, rfl, hL3.of_no f4, fun e3 => ?_, fun e3 => ?_⟩
    · simp only [decide_eq_true_eq] at e3
      refine HN (fun j hj => ?_) h4 (f3.no_trans f4)
      by_cases hj2 : j < m + 1
      · exact mj2 j hj2
      · have : itx xss rs p j < 0 := itx_neg_mono (k := m + 1) (by rw [itx]; exact e3) (by omega)
        omega
    · simp only [decide_eq_false_iff_not] at e3
      rw [w64_eq _ (by omega) (by omega)]
      exact ⟨xss.length - (m + 1), by omega, m + 1, by omega, by omega, rfl, rfl, by omega, mj2, f3.no_trans f4⟩
  · have hi := (G.no f3).ge e
    obtain rfl : m = xss.length := by omega
    exact HN mj h3 f3

theorem k_trIs {S S' : Nat → Prop} {h : Heap} {g w : Sl} {xss : List (List Int)} {rs : List Int} {a : Int} (G : RdR S h g xss) (H : RdI S' h w rs) (W : WOK xss (rs, a)) {s : Int} (s0 : 0 ≤ s) : Ret Try.prog 103 #[.agg #[g.v], VI s, w.v] h (VB (treeB xss rs s)) := by
  intro K HK
  refine v103 g s w h K fun b1 h2 hb1 f2 hL2 => ?_
  have f2 := f2.in_nil
  refine ⟨fun n i h' => 0 ≤ i ∧ i + n = (xss.length : Int) ∧ (∀ p : Nat, (p : Int) < i → ∃ k, itx xss rs p k = s) ∧ Fr No h h', ⟨xss.length, by omega, by omega, fun p hp => by omega, f2⟩, ?_⟩
  rintro n i h3 ⟨i0, i1, i2, f3⟩ hL3
  refine ⟨fun e => ?_, fun e => ?_⟩
  · have hi := (G.no f3).lt e
    have ei : ((i.toNat : Nat) : Int) = i := by omega
    refine k_trFar (G.no f3) (H.no f3) W s0 i0 hi _ (fun hn h4 f4 => ⟨_, rfl, hL3.of_no f4, fun _ => ?_, fun e => by simp at e⟩) fun m hm em _ h4 f4 => ⟨_, rfl, hL3.of_no f4, fun e => ?_, fun _ => ?_⟩
    · have ef : treeB xss rs s = false := by
        rw [Bool.eq_false_iff]
        intro ht
        obtain ⟨k, hk⟩ := (treeB_iff W s0).1 ht i.toNat (by omega)
        rw [ei] at hk
        obtain ⟨m, m1, m2⟩ := reach_low W i0 hi s0 hk
        exact hn m m1 m2
      rw [ef] at HK
      exact HK h4 (f3.no_trans f4)
    · simp only [decide_eq_true_eq] at e
      omega
    · rw [(G.no f3).succ i0 hi]
      refine ⟨n - 1, by omega, by omega, by omega, fun p hp => ?_, f3.no_trans f4⟩
      by_cases hp2 : (p : Int) < i
      · exact i2 p hp2
      · have : (p : Int) = i := by omega
        rw [this]
        exact ⟨m, em⟩
  · have hi := (G.no f3).ge e
    rw [(treeB_iff W s0).2 fun p hp => i2 p (by omega)] at HK
    exact HK h3 f3

theorem k_trGood {S S' : Nat → Prop} {h : Heap} {g w : Sl} {xss : List (List Int)} {rs : List Int} (G : RdR S h g xss) (H : RdI S' h w rs) (s : Int) : Ret Try.prog 102 #[.agg #[g.v], VI s, w.v] h (VB (sinkrB xss s rs)) := by
  intro K HK
  refine v102 g s w h K fun b1 h2 hb1 f2 hL2 => ?_
  have f2 := f2.in_nil
  refine k_spec_grPlace (G.no f2) s _ fun h3 f3 => ⟨_, rfl, hL2.of_no f3, fun e => ?_, fun e => ?_⟩
  · have f03 := f2.no_trans f3
    refine k_spec_waGood (G.no f03) (H.no f03) s _ fun h4 f4 => ⟨_, rfl, (hL2.of_no f3).of_no f4, fun e2 => ?_, fun e2 => ?_⟩
    · have f04 := f03.no_trans f4
      have W := wok_of e2
      have wl : rs.length = xss.length := W.len
      have s0 : 0 ≤ s := W.lo
      have s1 : s < (xss.length : Int) := W.hi
      have H4 := H.no f04
      refine ⟨H4.inb s0 (by omega), _, H4.get s0 (by omega), ?_⟩
      have er : sinkrB xss s rs = decide (rs[s.toNat]'(by omega) = 0) := by
        unfold sinkrB
        rw [e, ← walkB_pl2 e, e2, getD_getI (show s.toNat < rs.length by omega), Bool.true_and, Bool.true_and]
      rw [er] at HK
      exact HK h4 f04
    · have er : sinkrB xss s rs = false := by unfold sinkrB; rw [← walkB_pl2 e, e2, Bool.false_and, Bool.and_false]
      rw [er] at HK
      exact HK h4 (f03.no_trans f4)
  · have er : sinkrB xss s rs = false := by unfold sinkrB; rw [e, Bool.false_and]
    rw [er] at HK
    exact HK h3 (f2.no_trans f3)

def uotP (g : List (List Int)) (s : Int) (rs : List Int) (k : Int) : (List Int × Int) × Bool := if sinkrB g s rs && (treeB g rs s && inR 0 (((g.getD s.toNat []).length : Int) - 1) k) then ((rs.set s.toNat k, s), true) else (([], 0), false)

def uniS (g : List (List Int)) : Nat → Int
  | 0 => 0
  | k + 1 => uniS g k + treesN g k * (g.getD k []).length
def cntuP (g : List (List Int)) : Int × Bool := if graphB g then (uniS g g.length, true) else (0, false)
theorem uni_row {g : List (List Int)} (hg : graphB g = true) {p : Nat} (h : p < g.length) : 0 ≤ treesN g p * (g.getD p []).length ∧ treesN g p * (g.getD p []).length ≤ 252000000000 := by
  have gl := graph_len hg
  have p0 : (0 : Int) ≤ p := by omega
  have p1 : (p : Int) < (g.length : Int) := by omega
  have gm := graph_mem hg (List.getElem_mem h)
  have hb := abs_le (Nat.le_trans (det_bound (lap_small hg p0 p1)) (Nat.le_trans (dbN_le (show g.length - 1 ≤ 7 by omega)) (show dbN 7 ≤ 50400000000 by rw [dbN7]; exact Nat.le_refl _)))
  have ht := treesN_eq hg p0 p1
  have hu : treesN g p = det (g.length - 1) (matL (lapL g p)) := rfl
  rw [← hu] at hb
  rw [getD_get h]
  have e : g[p].length = 0 ∨ g[p].length = 1 ∨ g[p].length = 2 ∨ g[p].length = 3 ∨ g[p].length = 4 ∨ g[p].length = 5 := by omega
  rcases e with e | e | e | e | e | e <;> rw [e] <;> omega
theorem uniS_bd {g : List (List Int)} (hg : graphB g = true) : ∀ k, k ≤ g.length → 0 ≤ uniS g k ∧ uniS g k ≤ 252000000000 * (k : Int)
  | 0, _ => ⟨Int.le_refl _, by simp [uniS]⟩
  | k + 1, h => by
    have := uniS_bd hg k (by omega)
    have := uni_row hg (show k < g.length by omega)
    simp only [uniS]
    omega

theorem k_drrooted {a n b : Nat} {h : Heap} {c : Sl} {i sd : Int} (V : IsVar h b [c.v, VI i, .int .u64 sd]) (hb : a ≤ b) (D : CurD a n h c i) (hn : n ≤ 50000) (K : Value → Heap → Prop) (HK : ∀ (t w : Sl) (gs : List (List Int)) (rs : List Int) (p : Int) (m : Nat) (i' sd' : Int) h', gs.length ≤ 9 → h.size ≤ m → RdR (Iv h.size m) h' t gs → OwI h' (fun k => m ≤ k) w rs → IsVar h' b [c.v, VI i', .int .u64 sd'] → CurD a (n + 800) h' c i' → Fr (In [b]) h h' → K (.tuple #[.agg #[t.v], VI p, w.v]) h') : callM Try.prog 101 #[VP b 0] h K := by
  have lb := V.lt
  refine v101 b c i sd h K (.cons V (by simp) .nil) fun b2 h1 hb2 f1 hL1 => ?_
  have f1 := f1.in_nil
  have z1 := f1.size
  have l2 : b2 < h1.size := hL1.head.lt
  have fin : ∀ (h' : Heap), Fr (fun k => k = b ∨ h.size ≤ k) h h' → Fr (In [b]) h h' := fun h' f => f.mono fun k hk hk2 => by
    rcases hk2 with e | e
    · simp [In, e]
    · omega
  have inb : ∀ {x y : Heap}, Fr (In [b]) x y → Fr (fun k => k = b ∨ h.size ≤ k) x y := fun f => f.mono fun k _ hk => .inl (by simpa [In] using hk)
  have in2 : ∀ {x y : Heap}, Fr (In [b2]) x y → Fr (fun k => k = b ∨ h.size ≤ k) x y := fun f => f.mono fun k _ hk => .inr (by simp [In] at hk; omega)
  refine k_drsinking hL1.tail.head hb (D.no f1) (by omega) _ fun t gs p i2 sd2 h2 gl G2 V2 D2 f2 => ⟨c, i2, sd2, t, p, rfl, vcur hL1 1 rfl f2 V2, fun b3 h4 hb3 f4 hL4 => ?_⟩
  have f4 := f4.in_nil
  have z2 := f2.size
  have z4 := f4.size
  have l3 : b3 < h4.size := hL4.head.lt
  have G4 : RdR (Iv h1.size h2.size) h4 t gs := G2.lowS.no f4
  have f04 : Fr (fun k => k = b ∨ h.size ≤ k) h h4 := (f1.of_no.trans (inb f2)).trans f4.of_no
  refine k_spec_grPlace G4 p _ fun h5 f5 => ⟨_, rfl, hL4.of_no f5, fun e h6 f6 hL6 => ?_, fun e => ?_⟩
  · exact HK t nilSl gs [] p h2.size i2 sd2 h6 gl (by omega) (((G4.no f5).fr f6 fun k hk hk2 => by simp [In] at hk2; have := hk.1; omega).mono fun k hk => ⟨by have := hk.1; omega, hk.2⟩) (Ow.nil _ _ _ _) hL6.tail.tail.head ((((D2.no f4).no f5).fr f6 fun k hk hk2 => by simp [In] at hk2; omega).up (by omega)) (fin _ ((f04.trans f5.of_no).trans (in2 f6)))
  have z5 := f5.size
  obtain ⟨hg, ep⟩ := Bool.and_eq_true_iff.1 (not_f e)
  have pr := inR_iff.1 ep
  have p0 : 0 ≤ p := pr.1
  have p1 : p < (gs.length : Int) := by omega
  have F5 : Fr (fun k => k = b ∨ h.size ≤ k) h h5 := f04.trans f5.of_no
  have hL5 := hL4.of_no f5
  refine k_grLeads (G4.no f5) hg p0 p1 _ fun h7 f7 => ⟨_, rfl, hL5.of_no f7, fun e2 => ?_, fun e2 => ?_⟩
  · have z7 := f7.size
    have hL7 := hL5.of_no f7
    have G7 : RdR (Iv h1.size h2.size) h7 t gs := (G4.no f5).no f7
    have D7 := ((D2.no f4).no f5).no f7
    refine k_one hL7.tail.tail.head hb D7 (by omega) 3 _ fun x i8 sd8 h8 V8 D8 f8 => ⟨c, i8, sd8, x, rfl, vcur hL7 2 rfl f8 V8, fun _ => ?_, fun _ => ?_⟩
    · have z8 := f8.size
      have hL8 := vcur hL7 2 rfl f8 V8
      have G8 : RdR (Iv h1.size h2.size) h8 t gs := G7.fr f8 fun k hk hk2 => by simp [In] at hk2; have := hk.1; omega
      refine k_trAll G8 hg p0 p1 (mo := 20) (by omega) _ fun t9 h9 o9 f9 => ⟨t9, rfl, hL8.of_no f9, ?_⟩
      have z9 := f9.size
      have hL9 := hL8.of_no f9
      have hne : treesL gs p ≠ [] := (lead_tree hg p0 p1).1 e2
      have hlen : 1 ≤ ((treesL gs p).take (20 + 1)).length := by
        rw [List.length_take]
        have := List.length_pos_iff.2 hne
        omega
      have tn := OwR.len o9
      refine k_pick hL9.tail.tail.head hb (D8.no f9) (by omega) _ _ fun y i10 sd10 h10 y0 y1 V10 D10 f10 => ⟨c, i10, sd10, y, rfl, vcur hL9 2 rfl f10 V10, ?_⟩
      have y1 := y1 (by omega)
      have z10 := f10.size
      have R10 : RdR (Iv h8.size h9.size) h10 t9 ((treesL gs p).take (20 + 1)) := (OwR.rdI o9).fr f10 fun k hk hk2 => by simp [In] at hk2; have := hk.1; omega
      obtain ⟨s39, c39, r39⟩ := R10.get y0 (by omega)
      have hrl : (((treesL gs p).take (20 + 1))[y.toNat]'(by omega)).length = gs.length := by
        have hm := List.mem_of_mem_take (List.getElem_mem (show y.toNat < ((treesL gs p).take (20 + 1)).length by omega))
        exact (mem_allRot.1 (List.mem_filter.1 hm).1).1
      refine ⟨R10.inb y0 (by omega), s39, c39, k_l1Own r39 (by omega) _ fun t11 h11 o11 f11 => ⟨t11, rfl, (vcur hL9 2 rfl f10 V10).of_no f11, fun h12 f12 hL12 => ?_⟩⟩
      have z11 := f11.size
      refine HK t t11 gs _ p h10.size i10 sd10 h12 gl (by omega) (((((G8.no f9).fr f10 fun k hk hk2 => by simp [In] at hk2; have := hk.1; omega).no f11).fr f12 fun k hk hk2 => by simp [In] at hk2; have := hk.1; omega).mono fun k hk => ⟨by have := hk.1; omega, by have := hk.2; omega⟩) ((Ow.fr o11 f12 fun k hk hk2 => by have := (o11.foot hk).1.1; simp [In] at hk2; omega).mono fun k _ hk => hk.1) hL12.tail.tail.head (((D10.no f11).fr f12 fun k hk hk2 => by simp [In] at hk2; omega).up (by omega)) (fin _ ?_)
      exact (((((F5.trans f7.of_no).trans (inb f8)).trans f9.of_no).trans (inb f10)).trans f11.of_no).trans (in2 f12)
    · have z8 := f8.size
      have hL8 := vcur hL7 2 rfl f8 V8
      have G8 : RdR (Iv h1.size h2.size) h8 t gs := G7.fr f8 fun k hk hk2 => by simp [In] at hk2; have := hk.1; omega
      have F8 : Fr (fun k => k = b ∨ h.size ≤ k) h h8 := (F5.trans f7.of_no).trans (inb f8)
      refine k_sureWalk hL8.tail.tail.head hb D8 (by omega) G8 (fun hk => by have := hk.1; omega) (by omega) _ fun w rs q i13 sd13 h13 O13 el V13 D13 f13 => ⟨c, i13, sd13, w, q, rfl, vcur hL8 2 rfl f13 V13, fun b4 h15 hb4 f15 hL15 => ?_⟩
      have f15 := f15.in_nil
      have z13 := f13.size
      have z15 := f15.size
      have O15 : OwI h15 (Iv h8.size h13.size) w rs := Ow.no O13 f15
      have G15 : RdR (Iv h1.size h2.size) h15 t gs := (G8.fr f13 fun k hk hk2 => by simp [In] at hk2; have := hk.1; omega).no f15
      have F15 : Fr (fun k => k = b ∨ h.size ≤ k) h h15 := (F8.trans (inb f13)).trans f15.of_no
      refine ⟨fun c' i' sd' h' => c' = c ∧ CurD a (n + 780) h' c i' ∧ RdR (Iv h1.size h2.size) h' t gs ∧ (∃ rs, OwI h' (Iv h8.size h13.size) w rs) ∧ Fr (fun k => k = b ∨ h.size ≤ k) h h', ?_, ?_⟩
      · refine k_one hL15.tail.tail.tail.head hb (D13.no f15) (by omega) 8 _ fun x i16 sd16 h16 V16 D16 f16 => ?_
        have hL16 := vcur hL15 3 rfl f16 V16
        have O16 : OwI h16 (Iv h8.size h13.size) w rs := Ow.fr O15 f16 fun k hk hk2 => by have := (O15.foot hk).1.1; simp [In] at hk2; omega
        have G16 : RdR (Iv h1.size h2.size) h16 t gs := G15.fr f16 fun k hk hk2 => by simp [In] at hk2; have := hk.1; omega
        refine ⟨c, i16, sd16, x, rfl, hL16, fun _ => ?_, fun _ => ⟨rfl, D16.up (by omega), G16, ⟨rs, O16⟩, F15.trans (inb f16)⟩⟩
        refine int_set O16 p0 (by omega) hL16 (fun q hq hk => by
          have hk1 := hk.1
          have hk2 := hk.2
          change q ∈ [(b4, _), (b3, _), (b2, _), (b, _)] at hq
          simp only [List.mem_cons, List.not_mem_nil, or_false] at hq
          rcases hq with rfl | rfl | rfl | rfl <;> (try simp only at hk1 hk2) <;> omega) _ fun h17 O17 f17 _ => ⟨rfl, (D16.fr f17 fun k hk hk2 => by have := hk2.1; omega).up (by omega), G16.fr f17 fun k hk hk2 => by have := hk.2; have := hk2.1; omega, ⟨_, O17⟩, (F15.trans (inb f16)).trans (f17.mono fun k _ hk => .inr (by have := hk.1; omega))⟩
      · rintro c' i18 sd18 h18 ⟨rfl, D18, G18, ⟨rs', O18⟩, f18⟩ hL18 h19 f19 hL19
        exact HK t w gs rs' p h8.size i18 sd18 h19 gl (by omega) ((G18.fr f19 fun k hk hk2 => by simp [In] at hk2; have := hk.1; omega).mono fun k hk => ⟨by have := hk.1; omega, by have := hk.2; omega⟩) ((Ow.fr O18 f19 fun k hk hk2 => by have := (O18.foot hk).1.1; simp [In] at hk2; omega).mono fun k _ hk => hk.1) hL19.tail.tail.tail.head ((D18.fr f19 fun k hk hk2 => by simp [In] at hk2; omega).up (by omega)) (fin _ (f18.trans (in2 f19)))
  · have z7 := f7.size
    have hL7 := hL5.of_no f7
    have G7 : RdR (Iv h1.size h2.size) h7 t gs := (G4.no f5).no f7
    have D7 := ((D2.no f4).no f5).no f7
    have F7 : Fr (fun k => k = b ∨ h.size ≤ k) h h7 := F5.trans f7.of_no
    refine k_sureWalk hL7.tail.tail.head hb D7 (by omega) G7 (fun hk => by have := hk.1; omega) (by omega) _ fun w rs q i13 sd13 h13 O13 el V13 D13 f13 => ⟨c, i13, sd13, w, q, rfl, vcur hL7 2 rfl f13 V13, fun b4 h15 hb4 f15 hL15 => ?_⟩
    have f15 := f15.in_nil
    have z13 := f13.size
    have z15 := f15.size
    have O15 : OwI h15 (Iv h7.size h13.size) w rs := Ow.no O13 f15
    have G15 : RdR (Iv h1.size h2.size) h15 t gs := (G7.fr f13 fun k hk hk2 => by simp [In] at hk2; have := hk.1; omega).no f15
    have F15 : Fr (fun k => k = b ∨ h.size ≤ k) h h15 := (F7.trans (inb f13)).trans f15.of_no
    refine ⟨fun c' i' sd' h' => c' = c ∧ CurD a (n + 780) h' c i' ∧ RdR (Iv h1.size h2.size) h' t gs ∧ (∃ rs, OwI h' (Iv h7.size h13.size) w rs) ∧ Fr (fun k => k = b ∨ h.size ≤ k) h h', ?_, ?_⟩
    · refine k_one hL15.tail.tail.tail.head hb (D13.no f15) (by omega) 8 _ fun x i16 sd16 h16 V16 D16 f16 => ?_
      have hL16 := vcur hL15 3 rfl f16 V16
      have O16 : OwI h16 (Iv h7.size h13.size) w rs := Ow.fr O15 f16 fun k hk hk2 => by have := (O15.foot hk).1.1; simp [In] at hk2; omega
      have G16 : RdR (Iv h1.size h2.size) h16 t gs := G15.fr f16 fun k hk hk2 => by simp [In] at hk2; have := hk.1; omega
      refine ⟨c, i16, sd16, x, rfl, hL16, fun _ => ?_, fun _ => ⟨rfl, D16.up (by omega), G16, ⟨rs, O16⟩, F15.trans (inb f16)⟩⟩
      refine int_set O16 p0 (by omega) hL16 (fun q hq hk => by
        have hk1 := hk.1
        have hk2 := hk.2
        change q ∈ [(b4, _), (b3, _), (b2, _), (b, _)] at hq
        simp only [List.mem_cons, List.not_mem_nil, or_false] at hq
        rcases hq with rfl | rfl | rfl | rfl <;> (try simp only at hk1 hk2) <;> omega) _ fun h17 O17 f17 _ => ⟨rfl, (D16.fr f17 fun k hk hk2 => by have := hk2.1; omega).up (by omega), G16.fr f17 fun k hk hk2 => by have := hk.2; have := hk2.1; omega, ⟨_, O17⟩, (F15.trans (inb f16)).trans (f17.mono fun k _ hk => .inr (by have := hk.1; omega))⟩
    · rintro c' i18 sd18 h18 ⟨rfl, D18, G18, ⟨rs', O18⟩, f18⟩ hL18 h19 f19 hL19
      exact HK t w gs rs' p h7.size i18 sd18 h19 gl (by omega) ((G18.fr f19 fun k hk hk2 => by simp [In] at hk2; have := hk.1; omega).mono fun k hk => ⟨by have := hk.1; omega, by have := hk.2; omega⟩) ((Ow.fr O18 f19 fun k hk hk2 => by have := (O18.foot hk).1.1; simp [In] at hk2; omega).mono fun k _ hk => hk.1) hL19.tail.tail.tail.head ((D18.fr f19 fun k hk hk2 => by simp [In] at hk2; omega).up (by omega)) (fin _ (f18.trans (in2 f19)))

theorem k_DrawCountTrees {S : Nat → Prop} {h : Heap} {code : Sl} {vs : List Value} (C : RdV S h 1 code vs) (B : ∀ v, v ∈ vs → ∃ m : Int, v = Value.int .u8 m ∧ 0 ≤ m ∧ m ≤ 255) (K : Value → Heap → Prop) (HK : ∀ (t : Sl) (gs : List (List Int)) (p : Int) h', RdR (fun k => h.size ≤ k) h' t gs → Fr No h h' → K (.tuple #[.agg #[t.v], VI p]) h') : callM Try.prog 87 #[code.v] h K := by
  refine v87 code h K fun b1 b2 h2 hb1 hb2 f2 hL2 => ?_
  have f2 := f2.in_nil
  have z2 := f2.size
  have l2 : b2 < h2.size := hL2.head.lt
  have l1 : b1 < h2.size := hL2.tail.head.lt
  have D2 : CurD h.size 0 h2 code 0 := ⟨⟨vs, ((RdV.lt C).mono fun k hk => hk.2).no f2, B⟩, by omega, by omega⟩
  refine k_drsinking hL2.head hb2 D2 (by omega) _ fun t gs p i3 sd3 h3 gl G3 V3 D3 f3 => ⟨code, i3, sd3, t, p, rfl, vcur hL2 0 rfl f3 V3, fun h4 f4 hL4 => ?_⟩
  have u3 : Fr (fun k => h.size ≤ k) h2 h3 := f3.mono fun k _ hk => by simp [In] at hk; omega
  have u4 : Fr (fun k => h.size ≤ k) h3 h4 := f4.mono fun k _ hk => by simp [In] at hk; omega
  exact HK t gs p h4 ((G3.fr f4 fun k hk hk2 => by simp [In] at hk2; omega).mono fun k hk => by omega) (((f2.of_no.trans u3).trans u4).mono fun k hk hk2 => absurd hk2 (by omega))

theorem k_LeadsTo {S : Nat → Prop} {h : Heap} {g : Sl} {xss : List (List Int)} (G : RdR S h g xss) (p : Int) (K : Value → Heap → Prop) (HK : ∀ h', Fr No h h' → K (.tuple #[VB ((graphB xss && inR 0 ((xss.length : Int) - 1) p) && leadB xss p), VB (graphB xss && inR 0 ((xss.length : Int) - 1) p)]) h') : callM Try.prog 48 #[.agg #[g.v], VI p] h K := by
  refine v48 g p h K fun b1 h1 hb1 f1 hL1 => ?_
  have f1 := f1.in_nil
  refine eop_lit rIs (fun k => h1.size ≤ k) (fun _ h => h) 1 (by omega) [VI p] rfl rfl fun t h2 n2 c2 o2 f2 m2 _ => ⟨t, rfl, hL1.of_no f2, ?_⟩
  have o2 : RdI (fun k => h1.size ≤ k) h2 t [p] := o2.rdF
  refine k_has ((G.no f1).no f2) o2 _ fun h3 f3 => ⟨_, rfl, (hL1.of_no f2).of_no f3, fun e => ?_, fun e => ?_⟩
  all_goals simp only [List.all_cons, List.all_nil, Bool.and_true] at e
  · rw [not_t e, Bool.false_and] at HK
    exact HK _ ((f1.no_trans f2).no_trans f3)
  have e := not_f e
  have f13 := (f1.no_trans f2).no_trans f3
  rw [e, Bool.true_and] at HK
  rw [Bool.and_eq_true, inR_iff] at e
  exact k_leadsTo (G.no f13) e.1 e.2.1 (by omega) _ fun h4 f4 => ⟨_, rfl, ((hL1.of_no f2).of_no f3).of_no f4, HK _ (f13.no_trans f4)⟩

theorem vars4 {h : Heap} {a b c d : Nat} {A B C D : List Value} (V : Vars h [(a, A), (b, B), (c, C), (d, D)]) : Vars h [(c, C), (d, D), (b, B), (a, A)] := by
  have nba : b ≠ a := V.ne (b, B) (by simp)
  have nca : c ≠ a := V.ne (c, C) (by simp)
  have nda : d ≠ a := V.ne (d, D) (by simp)
  have ncb : c ≠ b := V.tail.ne (c, C) (by simp)
  have ndb : d ≠ b := V.tail.ne (d, D) (by simp)
  have ndc : d ≠ c := V.tail.tail.ne (d, D) (by simp)
  refine .cons V.tail.tail.head (fun q hq => ?_) (.cons V.tail.tail.tail.head (fun q hq => ?_) (.cons V.tail.head (fun q hq => ?_) (.cons V.head (by simp) .nil)))
  all_goals simp only [List.mem_cons, List.not_mem_nil, or_false] at hq
  · rcases hq with rfl | rfl | rfl
    · exact ndc
    · exact ncb.symm
    · exact nca.symm
  · rcases hq with rfl | rfl
    · exact ndb.symm
    · exact nda.symm
  · subst hq
    exact nba.symm
theorem vars4b {h : Heap} {a b c d : Nat} {A B C D : List Value} (V : Vars h [(a, A), (b, B), (c, C), (d, D)]) : Vars h [(d, D), (c, C), (a, A), (b, B)] := by
  have nba : b ≠ a := V.ne (b, B) (by simp)
  have nca : c ≠ a := V.ne (c, C) (by simp)
  have nda : d ≠ a := V.ne (d, D) (by simp)
  have ncb : c ≠ b := V.tail.ne (c, C) (by simp)
  have ndb : d ≠ b := V.tail.ne (d, D) (by simp)
  have ndc : d ≠ c := V.tail.tail.ne (d, D) (by simp)
  refine .cons V.tail.tail.tail.head (fun q hq => ?_) (.cons V.tail.tail.head (fun q hq => ?_) (.cons V.head (fun q hq => ?_) (.cons V.tail.head (by simp) .nil)))
  all_goals simp only [List.mem_cons, List.not_mem_nil, or_false] at hq
  · rcases hq with rfl | rfl | rfl
    · exact ndc.symm
    · exact nda.symm
    · exact ndb.symm
  · rcases hq with rfl | rfl
    · exact nca.symm
    · exact ncb.symm
  · subst hq
    exact nba

theorem k_allTrees1 {S S' : Nat → Prop} {h : Heap} {bg bs bo bm : Nat} {g o t : Sl} {xss : List (List Int)} {x : List Int} {rows : List (List Int)} {s mo a : Int} (V : Vars h [(bg, [g.v]), (bs, [VI s]), (bo, [o.v]), (bm, [VI mo])]) (G : RdR S h g xss) (X : RdI S' h t x) (W : WOK xss (x, a)) {F : Nat → Prop} (O : OwX h F o rows) (hF : ∀ k, h.size ≤ k → F k) (hob : ∀ q, q ∈ [bg, bs, bo, bm] → ¬ F q) (hw : rows.length ≤ 1000000) (K : Value → Heap → Prop)
    (HK : ∀ h' o', Vars h' [(bg, [g.v]), (bs, [VI s]), (bo, [Sl.v o']), (bm, [VI mo])] → OwX h' F o' (if treeB xss x s then rows ++ [x] else rows) → Fr (fun k => k = bo ∨ F k) h h' → K (VB (decide (((if treeB xss x s then rows ++ [x] else rows).length : Int) < mo))) h') : callV Try.prog (.func (.func 130) #[] #[VP bg 0, VP bs 0, VP bo 0, VP bm 0]) [t.v] h K := by
  have gl := graph_len W.graph
  have xl : x.length = xss.length := W.len
  refine v130 t bg g bs s bo o bm mo h K V ⟨fun o' h' => OwX h' F o' (if treeB xss x s then rows ++ [x] else rows) ∧ Fr (fun k => k = bo ∨ F k) h h', ?_, ?_⟩
  · refine k_isTree G X W (by omega) s _ fun h3 f3 => ⟨_, rfl, V.of_no f3, fun e => ?_, fun e => ?_⟩
    · simp only [e, if_true]
      have V3 := V.of_no f3
      refine k_Clone (RdI.no X f3) (by omega) _ fun t4 h4 o4 f4 => ⟨t4, rfl, V3.of_no f4, ?_⟩
      have V4 := V3.of_no f4
      have f04 := f3.no_trans f4
      have z4 := f04.size
      have z3 := f3.size
      refine eop_lit rIss (fun k => h4.size ≤ k) (fun _ h => h) 1 (by omega) [t4.v] rfl rfl fun u h5 n5 c5 o5 f5 m5 _ => ⟨u, rfl, V4.of_no f5, ?_⟩
      have V5 := V4.of_no f5
      have z5 := f5.size
      have O5 : OwX h5 (fun k => F k ∧ k < h.size) o rows := OwR.no (OwR.no (O.mono fun k hk hF => ⟨hF, hk⟩) f04) f5
      refine OwR.snoc rIss O5 (F' := F) (fun k _ hk => hk.1) (fun k hk => hF k (by omega)) ((Ow.no o4 f5).mono fun k _ hk => hF k (by have := hk.1; omega)) (fun k hk hk2 => by have := (Ow.foot o4 hk).1.1; have := hk2.2; omega) o5.rd (by omega) fun y h6 o6 f6 => ⟨y, rfl, ?_, fun h7 f7 hL7 => ?_⟩
      · refine V5.fr f6 fun q hq hk => ?_
        simp only [List.mem_cons, List.not_mem_nil, or_false] at hq
        rcases hq with rfl | rfl | rfl | rfl
        · exact hob bg (by simp) hk.1
        · exact hob bs (by simp) hk.1
        · exact hob bo (by simp) hk.1
        · exact hob bm (by simp) hk.1
      · have e7 : ∀ k, In [bo] k → k = bo := fun k hk => by simpa [In] using hk
        exact ⟨o6.fr f7 fun k _ hk hk2 => hob bo (by simp) (e7 k hk2 ▸ hk), ((f04.no_trans f5).of_no.trans (f6.mono fun k _ hk => .inr hk.1)).trans (f7.mono fun k _ hk => .inl (e7 k hk))⟩
    · simp only [e, Bool.false_eq_true, if_false]
      exact ⟨OwR.no O f3, f3.of_no⟩
  · rintro o' h6 ⟨O6, F6⟩ hL6
    rw [OwR.len O6]
    exact HK h6 o' hL6 O6 F6

theorem k_allTrees {S : Nat → Prop} {h : Heap} {g : Sl} {xss : List (List Int)} (G : RdR S h g xss) (hg : graphB xss = true) {s : Int} (s0 : 0 ≤ s) (s1 : s < (xss.length : Int)) {mo : Nat} (m1 : 1 ≤ mo) (hm : mo ≤ 1000) (K : Value → Heap → Prop) (HK : ∀ t h', OwX h' (Iv h.size h'.size) t ((treesL xss s).take mo) → Fr No h h' → K t.v h') : callM Try.prog 90 #[.agg #[g.v], VI s, VI mo] h K := by
  refine v90 g s mo h K fun b1 b2 b3 h3 hb1 hb2 hb3 f3 hL3 => ?_
  have f3 := f3.in_nil
  have z3 := f3.size
  have l3 : b3 < h3.size := hL3.head.lt
  have l2 : b2 < h3.size := hL3.tail.head.lt
  have l1 : b1 < h3.size := hL3.tail.tail.head.lt
  refine eop_lit rIss (fun k => h3.size ≤ k) (fun _ h => h) 0 (by omega) [] rfl rfl fun o h6 n6 c6 o6 f6 m6 _ => ⟨o, rfl, hL3.of_no f6, fun b4 h8 hb4 f8 hL8 => ?_⟩
  have f8 := f8.in_nil
  have z6 := f6.size
  have z8 := f8.size
  have l4 : b4 < h8.size := hL8.head.lt
  have O8 : OwX h8 (fun k => h3.size ≤ k ∧ k < h6.size) o [] := ⟨[], rfl, (Ow.no o6 f8).mono fun k hk hF => ⟨hF, (Ow.foot o6 hk).2⟩, fun i h1 => by simp at h1, fun i j h1 => by simp at h1, fun i h1 => by simp at h1⟩
  have f38 : Fr No h3 h8 := f6.no_trans f8
  have f08 := f3.no_trans f38
  have G8 : RdR (fun k => k < h3.size) h8 g xss := ((G.no f3).low).no f38
  have pf : ∀ {a b k : Nat}, a = h8.size → Iv a b k → ¬ ((h3.size ≤ k ∧ k < h6.size) ∨ (h8.size ≤ k ∧ ¬ Iv a b k)) := fun ha hk hh => by
    have := hk.1
    rcases hh with x | x
    · omega
    · exact x.2 hk
  have hfil : ∀ (pre : List (List Int)) (x : List Int), ((pre ++ [x]).filter fun rs => treeB xss rs s) = if treeB xss x s then (pre.filter fun rs => treeB xss rs s) ++ [x] else pre.filter fun rs => treeB xss rs s := fun pre x => by
    rw [List.filter_append]
    by_cases hu : treeB xss x s = true
    · rw [if_pos hu, List.filter_cons_of_pos (p := fun rs => treeB xss rs s) hu, List.filter_nil]
    · rw [if_neg hu, List.filter_cons_of_neg (p := fun rs => treeB xss rs s) hu, List.filter_nil, List.append_nil]
  refine k_allRotors G8 hg s _ (fun a b pre h' => ∃ y, Vars h' [(b4, [Sl.v y]), (b3, [VI mo]), (b2, [VI s]), (b1, [g.v])] ∧ RdR (fun k => k < h3.size) h' g xss ∧ OwX h' (fun k => (h3.size ≤ k ∧ k < h6.size) ∨ (h8.size ≤ k ∧ ¬ Iv a b k)) y (pre.filter fun rs => treeB xss rs s) ∧ Fr (fun k => h3.size ≤ k) h3 h' ∧ h8.size ≤ h'.size ∧ (pre.filter fun rs => treeB xss rs s).length ≤ mo) (fun pre => (pre.filter fun rs => treeB xss rs s).length = mo) (fun pre => (pre.filter fun rs => treeB xss rs s).length < mo) (by simp; omega)
    ?_ ?_ ?_ ?_ _ ?_
  · rintro a b pre h' ⟨y, _, G', _⟩
    exact G'
  · intro h' f'
    exact ⟨o, hL8.of_no f', G8.no f', (OwR.no O8 f').mono fun k _ hk => .inl hk, f38.of_no.trans f'.of_no, f'.size, by simp⟩
  · rintro a b pre h1 h2' ⟨y, V', G', O', F', z', hle⟩ f' ha
    have nb : ∀ {k : Nat}, k < h8.size → ¬ Iv a b k := fun hk hh => by have := hh.1; omega
    refine ⟨y, V'.fr f' fun q hq => ?_, G'.fr f' fun k hk => nb (by omega), OwR.fr O' f' fun k _ hk hk2 => pf ha hk2 hk, F'.trans (f'.mono fun k _ hk => by have := hk.1; omega), by have := f'.size; omega, hle⟩
    simp only [List.mem_cons, List.not_mem_nil, or_false] at hq
    rcases hq with rfl | rfl | rfl | rfl <;> exact nb (by (try simp only); omega)
  · rintro b pre x post t h1 K' eA hgo ⟨y, V', G', O', F', z', hle⟩ hb X HK'
    have W := (rot_ok (s := s) (a := s) hg s0 s1 (show x ∈ allRot xss s by rw [eA]; simp)).1
    have hb9 : ∀ q, q ∈ [b1, b2, b4, b3] → q < h8.size ∧ (q < h3.size ∨ h6.size ≤ q) := fun q hq => by
      simp only [List.mem_cons, List.not_mem_nil, or_false] at hq
      rcases hq with rfl | rfl | rfl | rfl <;> omega
    refine k_allTrees1 (vars4b V') G' X W O' (fun k hk => .inr ⟨by omega, fun hh => by have := hh.2; omega⟩) (fun q hq hh => by have := hb9 q hq; rcases hh with z | z <;> omega) (by omega) _ fun h2' o' V2 O2 F2 => ?_
    rw [← hfil] at O2 ⊢
    have hl2 : ((pre ++ [x]).filter fun rs => treeB xss rs s).length ≤ mo := by
      rw [hfil]
      split
      · rw [List.length_append]; simp only [List.length_cons, List.length_nil]; omega
      · omega
    refine HK' _ h2' ⟨o', vars4 V2, G'.fr F2 fun k hk hk2 => ?_, O2, F'.trans (F2.mono fun k _ hk => ?_), by have := F2.size; omega, hl2⟩ (F2.mono fun k _ hk hh => ?_) (fun e => ?_) fun e => ?_
    · rcases hk2 with z | z | z <;> omega
    · rcases hk with z | z | z <;> omega
    · have := hh.1
      rcases hk with z | z
      · omega
      · exact pf rfl hh z
    · simp only [decide_eq_false_iff_not] at e
      omega
    · simp only [decide_eq_true_eq] at e
      omega
  · rintro b pre post h' eA hpost ⟨y, V', G', O', F', z', hle⟩
    have et : (treesL xss s).take mo = pre.filter fun rs => treeB xss rs s := by
      unfold treesL
      rw [eA, List.filter_append]
      rcases hpost with e | e
      · rw [e, List.filter_nil, List.append_nil, List.take_of_length_le hle]
      · exact List.take_left' e
    rw [← et] at O'
    refine ⟨y, mo, s, g, V', HK y h' (O'.mono fun k hk hF => ⟨?_, hk⟩) (f3.fresh F' fun k hk => by omega)⟩
    rcases hF with z | z <;> omega

def plB (g : List (List Int)) (s : Int) : Bool := graphB g && inR 0 ((g.length : Int) - 1) s
theorem plB_o {g : List (List Int)} {s : Int} (h : plB g s = true) : graphB g = true ∧ 0 ≤ s ∧ s < (g.length : Int) := by
  obtain ⟨a, b⟩ := Bool.and_eq_true_iff.1 h
  have := inR_iff.1 b
  exact ⟨a, this.1, by omega⟩
def cntP (g : List (List Int)) (s : Int) : Int × Bool := if plB g s then (treesN g s, true) else (0, false)
def lapP (g : List (List Int)) (s : Int) : List (List Int) × Bool := if plB g s then (lapL g s, true) else ([], false)
def allP (g : List (List Int)) (s : Int) : List (List Int) × Bool := if plB g s then (if treesN g s ≤ 300 then (treesL g s, true) else ([], false)) else ([], false)
def firP (g : List (List Int)) (s : Int) : List Int × Bool := if plB g s && leadB g s then ((treesL g s).headD [], true) else ([], false)

theorem k_CountTrees {S : Nat → Prop} {h : Heap} {g : Sl} {xss : List (List Int)} (G : RdR S h g xss) (s : Int) (K : Value → Heap → Prop) (HK : ∀ h', Fr No h h' → K (.tuple #[VI (cntP xss s).1, VB (cntP xss s).2]) h') : callM Try.prog 40 #[.agg #[g.v], VI s] h K := by
  refine v40 g s h K fun b1 h2 hb1 f2 hL2 => ?_
  have f2 := f2.in_nil
  refine eop_lit rIs (fun k => h2.size ≤ k) (fun _ h => h) 1 (by omega) [VI s] rfl rfl fun t h3 n3 c3 o3 f3 m3 _ => ⟨t, rfl, hL2.of_no f3, ?_⟩
  have r3 : RdI (fun k => h2.size ≤ k) h3 t [s] := o3.rdF
  have f03 := f2.no_trans f3
  refine k_has (G.no f03) r3 _ fun h4 f4 => ⟨_, rfl, (hL2.of_no f3).of_no f4, fun e => ?_, fun e => ?_⟩
  all_goals simp only [List.all_cons, List.all_nil, Bool.and_true] at e
  all_goals have f04 := f03.no_trans f4
  · have er : cntP xss s = (0, false) := by unfold cntP plB; rw [not_t e]; rfl
    rw [er] at HK
    exact HK h4 f04
  have e : plB xss s = true := not_f e
  obtain ⟨hg, s0, s1⟩ := plB_o e
  have gl := graph_len hg
  have er : cntP xss s = (treesN xss s, true) := by unfold cntP; rw [if_pos e]
  rw [er] at HK
  obtain ⟨ll, Q⟩ := lap_sq s0 s1
  refine k_laplace (G.no f04) hg s0 s1 _ fun t5 h5 o5 f5 => ⟨t5, rfl, ((hL2.of_no f3).of_no f4).of_no f5, ?_⟩
  refine k_determinant (OwR.rd o5) (by rw [ll]; exact Q) (by omega) (by rw [ll]; exact lap_small hg s0 s1) _ fun h6 f6 => ⟨_, rfl, (((hL2.of_no f3).of_no f4).of_no f5).of_no f6, ?_⟩
  rw [ll]
  exact HK h6 (f04.no_trans (f5.no_trans f6))

theorem k_spec_CountTrees {S : Nat → Prop} {h : Heap} {g : Sl} {xss : List (List Int)} (G : RdR S h g xss) (s : Int) (K : Value → Heap → Prop) (HK : ∀ h', Fr No h h' → K (.tuple #[VI (cntP xss s).1, VB (cntP xss s).2]) h') : callM Try.prog 41 #[.agg #[g.v], VI s] h K := by
  refine v41 g s h K fun b1 h2 hb1 f2 hL2 => ?_
  have f2 := f2.in_nil
  refine k_spec_grPlace (G.no f2) s _ fun h4 f4 => ⟨_, rfl, hL2.of_no f4, fun e => ?_, fun e => ?_⟩
  all_goals have f04 := f2.no_trans f4
  · have er : cntP xss s = (0, false) := by unfold cntP plB; rw [not_t e]; rfl
    rw [er] at HK
    exact HK h4 f04
  have e : plB xss s = true := not_f e
  obtain ⟨hg, s0, s1⟩ := plB_o e
  have gl := graph_len hg
  have er : cntP xss s = (treesN xss s, true) := by unfold cntP; rw [if_pos e]
  rw [er] at HK
  obtain ⟨ll, Q⟩ := lap_sq s0 s1
  refine k_trLaplace (G.no f04) hg s0 s1 _ fun t5 h5 o5 f5 => ⟨t5, rfl, (hL2.of_no f4).of_no f5, ?_⟩
  refine k_trDet (xss.length - 1) (OwR.rd o5) Q (by omega) (lap_small hg s0 s1) _ fun h6 f6 => ⟨_, rfl, ((hL2.of_no f4).of_no f5).of_no f6, ?_⟩
  exact HK h6 (f04.no_trans (f5.no_trans f6))

theorem k_LaplaceOf {S : Nat → Prop} {h : Heap} {g : Sl} {xss : List (List Int)} (G : RdR S h g xss) (s : Int) (K : Value → Heap → Prop) (HK : ∀ t h', OwX h' (Iv h.size h'.size) t (lapP xss s).1 → Fr No h h' → K (.tuple #[t.v, VB (lapP xss s).2]) h') : callM Try.prog 42 #[.agg #[g.v], VI s] h K := by
  refine v42 g s h K fun b1 h2 hb1 f2 hL2 => ?_
  have f2 := f2.in_nil
  refine eop_lit rIs (fun k => h2.size ≤ k) (fun _ h => h) 1 (by omega) [VI s] rfl rfl fun t h3 n3 c3 o3 f3 m3 _ => ⟨t, rfl, hL2.of_no f3, ?_⟩
  have r3 : RdI (fun k => h2.size ≤ k) h3 t [s] := o3.rdF
  have f03 := f2.no_trans f3
  refine k_has (G.no f03) r3 _ fun h4 f4 => ⟨_, rfl, (hL2.of_no f3).of_no f4, fun e => ?_, fun e => ?_⟩
  all_goals simp only [List.all_cons, List.all_nil, Bool.and_true] at e
  all_goals have f04 := f03.no_trans f4
  · have er : lapP xss s = ([], false) := by unfold lapP plB; rw [not_t e]; rfl
    rw [er] at HK
    exact HK nilSl h4 (OwR.nil _ _ _ _) f04
  have e : plB xss s = true := not_f e
  obtain ⟨hg, s0, s1⟩ := plB_o e
  have er : lapP xss s = (lapL xss s, true) := by unfold lapP; rw [if_pos e]
  rw [er] at HK
  have z4 := f04.size
  exact k_laplace (G.no f04) hg s0 s1 _ fun t5 h5 o5 f5 => ⟨t5, rfl, ((hL2.of_no f3).of_no f4).of_no f5, HK t5 h5 (o5.mono fun k _ hk => ⟨by have := hk.1; omega, hk.2⟩) (f04.no_trans f5)⟩

theorem k_spec_LaplaceOf {S : Nat → Prop} {h : Heap} {g : Sl} {xss : List (List Int)} (G : RdR S h g xss) (s : Int) (K : Value → Heap → Prop) (HK : ∀ t h', OwX h' (Iv h.size h'.size) t (lapP xss s).1 → Fr No h h' → K (.tuple #[t.v, VB (lapP xss s).2]) h') : callM Try.prog 43 #[.agg #[g.v], VI s] h K := by
  refine v43 g s h K fun b1 h2 hb1 f2 hL2 => ?_
  have f2 := f2.in_nil
  refine k_spec_grPlace (G.no f2) s _ fun h4 f4 => ⟨_, rfl, hL2.of_no f4, fun e => ?_, fun e => ?_⟩
  all_goals have f04 := f2.no_trans f4
  · have er : lapP xss s = ([], false) := by unfold lapP plB; rw [not_t e]; rfl
    rw [er] at HK
    exact HK nilSl h4 (OwR.nil _ _ _ _) f04
  have e : plB xss s = true := not_f e
  obtain ⟨hg, s0, s1⟩ := plB_o e
  have er : lapP xss s = (lapL xss s, true) := by unfold lapP; rw [if_pos e]
  rw [er] at HK
  have z4 := f04.size
  exact k_trLaplace (G.no f04) hg s0 s1 _ fun t5 h5 o5 f5 => ⟨t5, rfl, (hL2.of_no f4).of_no f5, HK t5 h5 (o5.mono fun k _ hk => ⟨by have := hk.1; omega, hk.2⟩) (f04.no_trans f5)⟩

theorem k_AllTrees {S : Nat → Prop} {h : Heap} {g : Sl} {xss : List (List Int)} (G : RdR S h g xss) (s : Int) (K : Value → Heap → Prop) (HK : ∀ t h', OwX h' (Iv h.size h'.size) t (allP xss s).1 → Fr No h h' → K (.tuple #[t.v, VB (allP xss s).2]) h') : callM Try.prog 38 #[.agg #[g.v], VI s] h K := by
  refine v38 g s h K fun b1 h2 hb1 f2 hL2 => ?_
  have f2 := f2.in_nil
  refine eop_lit rIs (fun k => h2.size ≤ k) (fun _ h => h) 1 (by omega) [VI s] rfl rfl fun t h3 n3 c3 o3 f3 m3 _ => ⟨t, rfl, hL2.of_no f3, ?_⟩
  have r3 : RdI (fun k => h2.size ≤ k) h3 t [s] := o3.rdF
  have f03 := f2.no_trans f3
  refine k_has (G.no f03) r3 _ fun h4 f4 => ⟨_, rfl, (hL2.of_no f3).of_no f4, fun e => ?_, fun e => ?_⟩
  all_goals simp only [List.all_cons, List.all_nil, Bool.and_true] at e
  all_goals have f04 := f03.no_trans f4
  · have er : allP xss s = ([], false) := by unfold allP plB; rw [not_t e]; rfl
    rw [er] at HK
    exact HK nilSl h4 (OwR.nil _ _ _ _) f04
  have e : plB xss s = true := not_f e
  obtain ⟨hg, s0, s1⟩ := plB_o e
  have gl := graph_len hg
  obtain ⟨ll, Q⟩ := lap_sq s0 s1
  refine k_laplace (G.no f04) hg s0 s1 _ fun t5 h5 o5 f5 => ⟨t5, rfl, ((hL2.of_no f3).of_no f4).of_no f5, ?_⟩
  refine k_determinant (OwR.rd o5) (by rw [ll]; exact Q) (by omega) (by rw [ll]; exact lap_small hg s0 s1) _ fun h6 f6 => ⟨_, rfl, (((hL2.of_no f3).of_no f4).of_no f5).of_no f6, ?_⟩
  rw [ll, show det (xss.length - 1) (matL (lapL xss s)) = treesN xss s from rfl]
  have f06 := f04.no_trans (f5.no_trans f6)
  have z6 := f06.size
  refine ⟨fun e2 => ?_, fun e2 => ?_⟩
  · simp only [decide_eq_true_eq] at e2
    have er : allP xss s = ([], false) := by unfold allP; rw [if_pos e, if_neg (by omega)]
    rw [er] at HK
    exact HK nilSl h6 (OwR.nil _ _ _ _) f06
  · simp only [decide_eq_false_iff_not] at e2
    have er : allP xss s = (treesL xss s, true) := by unfold allP; rw [if_pos e, if_pos (by omega)]
    rw [er] at HK
    refine k_allTrees (G.no f06) hg s0 s1 (mo := 301) (by omega) (by omega) _ fun t7 h7 o7 f7 => ⟨t7, rfl, ((((hL2.of_no f3).of_no f4).of_no f5).of_no f6).of_no f7, ?_⟩
    have := treesN_eq hg s0 s1
    rw [List.take_of_length_le (by omega)] at o7
    exact HK t7 h7 (o7.mono fun k _ hk => ⟨by have := hk.1; omega, hk.2⟩) (f06.no_trans f7)

theorem k_spec_AllTrees {S : Nat → Prop} {h : Heap} {g : Sl} {xss : List (List Int)} (G : RdR S h g xss) (s : Int) (K : Value → Heap → Prop) (HK : ∀ t h', OwX h' (Iv h.size h'.size) t (allP xss s).1 → Fr No h h' → K (.tuple #[t.v, VB (allP xss s).2]) h') : callM Try.prog 39 #[.agg #[g.v], VI s] h K := by
  refine v39 g s h K fun b1 h2 hb1 f2 hL2 => ?_
  have f2 := f2.in_nil
  refine k_spec_grPlace (G.no f2) s _ fun h4 f4 => ⟨_, rfl, hL2.of_no f4, fun e => ?_, fun e => ?_⟩
  all_goals have f04 := f2.no_trans f4
  · have er : allP xss s = ([], false) := by unfold allP plB; rw [not_t e]; rfl
    rw [er] at HK
    exact HK nilSl h4 (OwR.nil _ _ _ _) f04
  have e : plB xss s = true := not_f e
  obtain ⟨hg, s0, s1⟩ := plB_o e
  have gl := graph_len hg
  obtain ⟨ll, Q⟩ := lap_sq s0 s1
  refine k_trLaplace (G.no f04) hg s0 s1 _ fun t5 h5 o5 f5 => ⟨t5, rfl, (hL2.of_no f4).of_no f5, ?_⟩
  refine k_trDet (xss.length - 1) (OwR.rd o5) Q (by omega) (lap_small hg s0 s1) _ fun h6 f6 => ⟨_, rfl, ((hL2.of_no f4).of_no f5).of_no f6, ?_⟩
  rw [show det (xss.length - 1) (matL (lapL xss s)) = treesN xss s from rfl]
  have f06 := f04.no_trans (f5.no_trans f6)
  have z6 := f06.size
  refine ⟨fun e2 => ?_, fun e2 => ?_⟩
  · simp only [decide_eq_true_eq] at e2
    have er : allP xss s = ([], false) := by unfold allP; rw [if_pos e, if_neg (by omega)]
    rw [er] at HK
    exact HK nilSl h6 (OwR.nil _ _ _ _) f06
  · simp only [decide_eq_false_iff_not] at e2
    have er : allP xss s = (treesL xss s, true) := by unfold allP; rw [if_pos e, if_pos (by omega)]
    rw [er] at HK
    refine k_trAll (G.no f06) hg s0 s1 (mo := 300) (by omega) _ fun t7 h7 o7 f7 => ⟨t7, rfl, (((hL2.of_no f4).of_no f5).of_no f6).of_no f7, ?_⟩
    have := treesN_eq hg s0 s1
    rw [List.take_of_length_le (by omega)] at o7
    exact HK t7 h7 (o7.mono fun k _ hk => ⟨by have := hk.1; omega, hk.2⟩) (f06.no_trans f7)

theorem take_one {l : List (List Int)} (h : l ≠ []) : l.take 1 = [l.headD []] := by
  cases l with
  | nil => exact absurd rfl h
  | cons x l => rfl

theorem k_FirstTree {S : Nat → Prop} {h : Heap} {g : Sl} {xss : List (List Int)} (G : RdR S h g xss) (s : Int) (K : Value → Heap → Prop) (HK : ∀ t h', RdI (Iv h.size h'.size) h' t (firP xss s).1 → Fr No h h' → K (.tuple #[t.v, VB (firP xss s).2]) h') : callM Try.prog 44 #[.agg #[g.v], VI s] h K := by
  refine v44 g s h K fun b1 h2 hb1 f2 hL2 => ?_
  have f2 := f2.in_nil
  refine k_hasSink (G.no f2) s _ fun h4 f4 => ⟨_, rfl, hL2.of_no f4, fun e => ?_, fun e => ?_⟩
  all_goals have f04 := f2.no_trans f4
  · have er : firP xss s = ([], false) := by unfold firP; rw [show (plB xss s && leadB xss s) = false from not_t e]; rfl
    rw [er] at HK
    exact HK nilSl h4 ((Ow.nil _ _ _ _ : OwI h4 (Iv h.size h4.size) nilSl []).rdF) f04
  have e : (plB xss s && leadB xss s) = true := not_f e
  have er : firP xss s = ((treesL xss s).headD [], true) := by unfold firP; rw [if_pos e]
  rw [er] at HK
  obtain ⟨ep, el⟩ := Bool.and_eq_true_iff.1 e
  obtain ⟨hg, s0, s1⟩ := plB_o ep
  have hne := (lead_tree hg s0 s1).1 el
  have z4 := f04.size
  refine k_allTrees (G.no f04) hg s0 s1 (mo := 1) (by omega) (by omega) _ fun t h5 o5 f5 => ⟨t, rfl, (hL2.of_no f4).of_no f5, ?_⟩
  rw [take_one hne] at o5
  have R5 := OwR.rdI o5
  obtain ⟨si, ci, ri⟩ := R5.get (i := 0) (by omega) (by simp)
  exact ⟨R5.inb (by omega) (by simp), si, ci, HK si h5 (ri.mono fun k hk => ⟨by have := hk.1; omega, hk.2⟩) (f04.no_trans f5)⟩

theorem k_spec_FirstTree {S : Nat → Prop} {h : Heap} {g : Sl} {xss : List (List Int)} (G : RdR S h g xss) (s : Int) (K : Value → Heap → Prop) (HK : ∀ t h', RdI (Iv h.size h'.size) h' t (firP xss s).1 → Fr No h h' → K (.tuple #[t.v, VB (firP xss s).2]) h') : callM Try.prog 45 #[.agg #[g.v], VI s] h K := by
  refine v45 g s h K fun b1 h2 hb1 f2 hL2 => ?_
  have f2 := f2.in_nil
  refine k_spec_grPlace (G.no f2) s _ fun h4 f4 => ⟨_, rfl, hL2.of_no f4, fun e => ?_, fun e => ?_⟩
  all_goals have f04 := f2.no_trans f4
  · have er : firP xss s = ([], false) := by unfold firP plB; rw [not_t e]; rfl
    rw [er] at HK
    exact HK nilSl h4 ((Ow.nil _ _ _ _ : OwI h4 (Iv h.size h4.size) nilSl []).rdF) f04
  have ep : plB xss s = true := not_f e
  obtain ⟨hg, s0, s1⟩ := plB_o ep
  have z4 := f04.size
  refine k_grLeads (G.no f04) hg s0 s1 _ fun h5 f5 => ⟨_, rfl, (hL2.of_no f4).of_no f5, fun e2 => ?_, fun e2 => ?_⟩
  all_goals have f05 := f04.no_trans f5
  · have er : firP xss s = ([], false) := by unfold firP; rw [not_t e2, Bool.and_false]; rfl
    rw [er] at HK
    exact HK nilSl h5 ((Ow.nil _ _ _ _ : OwI h5 (Iv h.size h5.size) nilSl []).rdF) f05
  have er : firP xss s = ((treesL xss s).headD [], true) := by unfold firP; rw [ep, not_f e2]; rfl
  rw [er] at HK
  have hne := (lead_tree hg s0 s1).1 (not_f e2)
  have z5 := f05.size
  refine k_trAll (G.no f05) hg s0 s1 (mo := 0) (by omega) _ fun t h6 o6 f6 => ⟨t, rfl, ((hL2.of_no f4).of_no f5).of_no f6, ?_⟩
  rw [show 0 + 1 = 1 from rfl, take_one hne] at o6
  have R6 := OwR.rdI o6
  obtain ⟨si, ci, ri⟩ := R6.get (i := 0) (by omega) (by simp)
  exact ⟨R6.inb (by omega) (by simp), si, ci, HK si h6 (ri.mono fun k hk => ⟨by have := hk.1; omega, hk.2⟩) (f05.no_trans f6)⟩

theorem k_spec_IsTree {S S' : Nat → Prop} {h : Heap} {g w : Sl} {xss : List (List Int)} {rs : List Int} (G : RdR S h g xss) (H : RdI S' h w rs) (s : Int) : Ret Try.prog 52 #[.agg #[g.v], VI s, w.v] h (.tuple #[VB (isTreeP xss s rs).1, VB (isTreeP xss s rs).2]) := by
  intro K HK
  refine v52 g s w h K fun b1 h2 hb1 f2 hL2 => ?_
  have f2 := f2.in_nil
  refine k_trGood (G.no f2) (H.no f2) s _ fun h3 f3 => ⟨_, rfl, hL2.of_no f3, fun e => ?_, fun e => ?_⟩
  all_goals have f03 := f2.no_trans f3
  · have er : isTreeP xss s rs = (false, false) := by unfold isTreeP; rw [not_t e]; rfl
    rw [er] at HK
    exact HK h3 f03
  have e := not_f e
  have e' := e
  unfold sinkrB at e'
  obtain ⟨ea, eb⟩ := Bool.and_eq_true_iff.1 e'
  have W : WOK xss (rs, s) := wok_of (by rw [walkB_pl2 ea]; exact (Bool.and_eq_true_iff.1 eb).1)
  have er : isTreeP xss s rs = (treeB xss rs s, true) := by unfold isTreeP; rw [if_pos e]
  rw [er] at HK
  exact k_trIs (G.no f03) (H.no f03) W W.lo _ fun h4 f4 => ⟨_, rfl, (hL2.of_no f3).of_no f4, HK h4 (f03.no_trans f4)⟩

/-- The first hit of a place, and how it is told. -/
def Hit (g : List (List Int)) (rs : List Int) (s p : Int) (m : Nat) : Prop := itx g rs p m = s ∧ ∀ j, j < m → itx g rs p j ≠ s
theorem hit_uni {g : List (List Int)} {rs : List Int} {s p : Int} {m k : Nat} (H : Hit g rs s p m) (H' : Hit g rs s p k) : m = k := by
  rcases Nat.lt_trichotomy m k with h | h | h
  · exact absurd H.1 (H'.2 m h)
  · exact h
  · exact absurd H'.1 (H.2 k h)
theorem hit_next {g : List (List Int)} {rs : List Int} {s p : Int} {m : Nat} (H : Hit g rs s p (m + 1)) : Hit g rs s (nx g rs p) m := ⟨by rw [itx_cons]; exact H.1, fun j hj => by rw [itx_cons]; exact H.2 (j + 1) (by omega)⟩
theorem twN_hit {g : List (List Int)} {rs : List Int} {s p : Int} {n : Nat} (hs : 0 ≤ s) : ∀ (k r m j : Nat), itx g rs p (j + k) = s → (∀ i, i < k → itx g rs p (j + i) ≠ s) → m + k ≤ n + 1 → k < r → twN (nx g rs) s n r m (itx g rs p j) = some (m + k)
  | k, 0, m, j, _, _, _, h => by omega
  | 0, r + 1, m, j, h, _, _, _ => by
    rw [twN, if_pos (show itx g rs p j = s from h)]
    rfl
  | k + 1, r + 1, m, j, h, h0, h1, h2 => by
    have e : itx g rs p j ≠ s := h0 0 (by omega)
    have h3 : ¬ nx g rs (itx g rs p j) < 0 := fun hh => by
      have : itx g rs p (j + 1) < 0 := hh
      have := itx_neg_mono (m := j + (k + 1)) this (by omega)
      omega
    have hm : m + 1 + k ≤ n + 1 := by omega
    have hr : k < r := by omega
    rw [twN, if_neg e, if_neg (by omega)]
    have := twN_hit hs k r (m + 1) (j + 1) (by rw [show j + 1 + k = j + (k + 1) by omega]; exact h) (fun i hi => by rw [show j + 1 + i = j + (i + 1) by omega]; exact h0 (i + 1) (by omega)) hm hr
    rw [show m + (k + 1) = m + 1 + k by omega]
    exact this
theorem twN_first {g : List (List Int)} {rs : List Int} {s p : Int} {n : Nat} : ∀ (r m j q : Nat), twN (nx g rs) s n r m (itx g rs p j) = some q → ∃ k, q = m + k ∧ itx g rs p (j + k) = s ∧ ∀ i, i < k → itx g rs p (j + i) ≠ s
  | 0, m, j, q, h => by rw [twN] at h; cases h
  | r + 1, m, j, q, h => by
    rw [twN] at h
    by_cases e : itx g rs p j = s
    · rw [if_pos e] at h
      cases h
      exact ⟨0, rfl, e, fun i hi => by omega⟩
    · rw [if_neg e] at h
      split at h
      · cases h
      · obtain ⟨k, h1, h2, h3⟩ := twN_first r (m + 1) (j + 1) q h
        refine ⟨k + 1, by omega, by rw [show j + (k + 1) = j + 1 + k by omega]; exact h2, fun i hi => ?_⟩
        cases i with
        | zero => exact e
        | succ i => rw [show j + (i + 1) = j + 1 + i by omega]; exact h3 i (by omega)
theorem tw_hits {g : List (List Int)} {rs : List Int} {s : Int} : ∀ (i : Nat) (l : List Int), twL g rs s i = some l → l.length = i ∧ ∀ p (h : p < l.length), ∃ m : Nat, l[p] = (m : Int) ∧ Hit g rs s p m
  | 0, l, h => by
    rw [twL] at h
    cases h
    exact ⟨rfl, fun p h => by simp at h⟩
  | i + 1, l, h => by
    rw [twL] at h
    split at h
    · cases h
    · rename_i l0 h0
      split at h
      · cases h
      · rename_i q hq
        cases h
        obtain ⟨e1, e2⟩ := tw_hits i l0 h0
        obtain ⟨k, k1, k2, k3⟩ := twN_first (g.length + 3) 0 0 q (p := (i : Int)) hq
        refine ⟨by simp [e1], fun p hp => ?_⟩
        by_cases hh : p < l0.length
        · obtain ⟨m, a, b⟩ := e2 p hh
          exact ⟨m, by rw [List.getElem_append_left hh]; exact a, b⟩
        · have ep : p = i := by simp at hp; omega
          subst ep
          refine ⟨q, by rw [List.getElem_append_right (by omega)]; simp [e1], ?_⟩
          rw [k1, Nat.zero_add]
          exact ⟨by rw [Nat.zero_add] at k2; exact k2, fun j hj => by have := k3 j hj; rw [Nat.zero_add] at this; exact this⟩
def wayP (g : List (List Int)) (s : Int) (rs : List Int) : List Int × Bool := if sinkrB g s rs then ((twL g rs s g.length).getD [], treeB g rs s) else ([], false)
theorem wayP_t {g : List (List Int)} {s : Int} {rs : List Int} (h : (wayP g s rs).2 = true) : isTreeP g s rs = (true, true) ∧ WOK g (rs, s) ∧ (wayP g s rs).1.length = g.length ∧ ∀ p (hp : p < (wayP g s rs).1.length), ∃ m : Nat, (wayP g s rs).1[p] = (m : Int) ∧ Hit g rs s p m := by
  have hs : sinkrB g s rs = true := by
    unfold wayP at h
    split at h
    · assumption
    · cases h
  have ew : wayP g s rs = ((twL g rs s g.length).getD [], treeB g rs s) := by unfold wayP; rw [if_pos hs]
  rw [ew] at h
  have e' := hs
  unfold sinkrB at e'
  obtain ⟨ea, eb⟩ := Bool.and_eq_true_iff.1 e'
  have W : WOK g (rs, s) := wok_of (by rw [walkB_pl2 ea]; exact (Bool.and_eq_true_iff.1 eb).1)
  obtain ⟨l, hl⟩ := Option.isSome_iff_exists.1 (show (twL g rs s g.length).isSome = true from h)
  have e1 : (wayP g s rs).1 = l := by rw [ew]; show (twL g rs s g.length).getD [] = l; rw [hl]; rfl
  obtain ⟨a, b⟩ := tw_hits g.length l hl
  refine ⟨by unfold isTreeP; rw [if_pos hs]; exact congrArg (fun x => (x, true)) h, W, ?_⟩
  rw [e1]
  exact ⟨a, b⟩

theorem k_TreeWays {S S' : Nat → Prop} {h : Heap} {g w : Sl} {xss : List (List Int)} {rs : List Int} (G : RdR S h g xss) (H : RdI S' h w rs) (s : Int) (K : Value → Heap → Prop) (HK : ∀ t h', OwI h' (Iv h.size h'.size) t (wayP xss s rs).1 → Fr No h h' → K (.tuple #[t.v, VB (wayP xss s rs).2]) h') : callM Try.prog 53 #[.agg #[g.v], VI s, w.v] h K := by
  refine v53 g s w h K fun b1 h2 hb1 f2 hL2 => ?_
  have f2 := f2.in_nil
  refine k_areSinkRotors (G.no f2) (H.no f2) s _ fun h3 f3 => ⟨_, rfl, hL2.of_no f3, fun e => ?_, fun e => ?_⟩
  all_goals have f03 := f2.no_trans f3
  · have er : wayP xss s rs = ([], false) := by unfold wayP; rw [not_t e]; rfl
    rw [er] at HK
    exact HK nilSl h3 (Ow.nil _ _ _ _) f03
  have e := not_f e
  have e' := e
  unfold sinkrB at e'
  obtain ⟨ea, eb⟩ := Bool.and_eq_true_iff.1 e'
  have W : WOK xss (rs, s) := wok_of (by rw [walkB_pl2 ea]; exact (Bool.and_eq_true_iff.1 eb).1)
  have er : wayP xss s rs = ((twL xss rs s xss.length).getD [], treeB xss rs s) := by unfold wayP; rw [if_pos e]
  rw [er] at HK
  have gl := graph_len W.graph
  have z3 := f03.size
  exact k_treeWays (G.no f03) (H.no f03) W (by omega) s _ fun t h4 o4 f4 => ⟨t, _, rfl, (hL2.of_no f3).of_no f4, HK t h4 (o4.mono fun k _ hk => ⟨by have := hk.1; omega, hk.2⟩) (f03.no_trans f4)⟩

theorem k_spec_TreeWays {S S' : Nat → Prop} {h : Heap} {g w : Sl} {xss : List (List Int)} {rs : List Int} (G : RdR S h g xss) (H : RdI S' h w rs) (s : Int) (K : Value → Heap → Prop) (HK : ∀ t h', OwI h' (Iv h.size h'.size) t (wayP xss s rs).1 → Fr No h h' → K (.tuple #[t.v, VB (wayP xss s rs).2]) h') : callM Try.prog 54 #[.agg #[g.v], VI s, w.v] h K := by
  refine v54 g s w h K fun b1 h2 hb1 f2 hL2 => ?_
  have f2 := f2.in_nil
  have l1 : b1 < h2.size := hL2.head.lt
  refine k_trGood (G.no f2) (H.no f2) s _ fun h3 f3 => ⟨_, rfl, hL2.of_no f3, fun e => ?_, fun e => ?_⟩
  all_goals have f03 := f2.no_trans f3
  · have er : wayP xss s rs = ([], false) := by unfold wayP; rw [not_t e]; rfl
    rw [er] at HK
    exact HK nilSl h3 (Ow.nil _ _ _ _) f03
  have e := not_f e
  have e' := e
  unfold sinkrB at e'
  obtain ⟨ea, eb⟩ := Bool.and_eq_true_iff.1 e'
  have W : WOK xss (rs, s) := wok_of (by rw [walkB_pl2 ea]; exact (Bool.and_eq_true_iff.1 eb).1)
  have er : wayP xss s rs = ((twL xss rs s xss.length).getD [], treeB xss rs s) := by unfold wayP; rw [if_pos e]
  rw [er] at HK
  have gl := graph_len W.graph
  have s0 : 0 ≤ s := W.lo
  have gn := G.len
  refine k_trIs (G.no f03) (H.no f03) W s0 _ fun h4 f4 => ⟨_, rfl, (hL2.of_no f3).of_no f4, fun e2 => ?_, fun e2 => ?_⟩
  all_goals have f04 := f03.no_trans f4
  all_goals have hL4 := (hL2.of_no f3).of_no f4
  · have et : treeB xss rs s = false := not_t e2
    have el : (twL xss rs s xss.length).getD [] = [] := by
      unfold treeB at et
      rw [Option.isSome_eq_false_iff, Option.isNone_iff_eq_none] at et
      rw [et]
      rfl
    rw [et, el] at HK
    exact HK nilSl h4 (Ow.nil _ _ _ _) f04
  have et : treeB xss rs s = true := not_f e2
  have z4 : h2.size ≤ h4.size := by have := f3.size; have := f4.size; omega
  have z04 := f04.size
  refine ⟨fun n x i h' => 0 ≤ i ∧ i + n = (xss.length : Int) ∧ (∃ l, twL xss rs s i.toNat = some l ∧ l.length = i.toNat ∧ OwI h' (fun k => h4.size ≤ k) x l) ∧ Fr No h h' ∧ h4.size ≤ h'.size, ⟨xss.length, by omega, by omega, ⟨[], rfl, rfl, Ow.nil _ _ _ _⟩, f04, Nat.le_refl _⟩, ?_⟩
  rintro n x i h5 ⟨i0, i1, ⟨l, hl, ll, o5⟩, f5, z5⟩ hL5
  refine ⟨fun e3 => ?_, fun e3 => ?_⟩
  · have hi := (G.no f5).lt e3
    refine k_trFar (G.no f5) (H.no f5) W s0 i0 hi _ (fun hn h6 f6 => ?_) fun m hm em hj h6 f6 => ⟨_, rfl, hL5.of_no f6, ?_⟩
    · exfalso
      obtain ⟨k, hk⟩ := (treeB_iff W s0).1 et i.toNat (by omega)
      rw [Int.toNat_of_nonneg i0] at hk
      obtain ⟨m, m1, m2⟩ := reach_low W i0 hi s0 hk
      exact hn m m1 m2
    have z6 := f6.size
    have o6 : OwI h6 (fun k => h4.size ≤ k) x l := Ow.no o5 f6
    refine eop_put (lo := h4.size) o6 (by omega) (hL5.of_no f6) (fun q hq => by
      simp only [List.mem_cons, List.not_mem_nil, or_false] at hq
      subst hq
      show b1 < _
      omega) (by omega) _ fun y h7 o7 f7 V7 => ?_
    have ht : twN (nx xss rs) s xss.length (xss.length + 3) 0 ((i.toNat : Nat) : Int) = some m := by
      have := twN_hit (n := xss.length) (g := xss) (rs := rs) (p := ((i.toNat : Nat) : Int)) s0 m (xss.length + 3) 0 0 (by rw [Nat.zero_add, Int.toNat_of_nonneg i0]; exact em) (fun j hj2 => by rw [Nat.zero_add, Int.toNat_of_nonneg i0]; exact hj j hj2) (by omega) (by omega)
      rw [Nat.zero_add] at this
      exact this
    rw [(G.no f5).succ i0 hi]
    refine ⟨n - 1, by omega, by omega, by omega, ⟨l ++ [(m : Int)], ?_, by simp; omega, o7⟩, (f5.no_trans f6).fresh f7 fun k hk => by omega, by have := f7.size; omega⟩
    rw [show (i + 1).toNat = i.toNat + 1 by omega, twL, hl]
    simp only [ht]
  · have hi := (G.no f5).ge e3
    rw [show i.toNat = xss.length by omega] at hl
    rw [hl, et] at HK
    exact HK x h5 (o5.mono fun k hk hF => ⟨by omega, (Ow.foot o5 hk).2⟩) f5

def detP (m : List (List Int)) : Int × Bool := if decide (m.length ≤ 7) && m.all (fun r => decide (r.length = m.length) && r.all (inR (-10) 10)) then (det m.length (matL m), true) else (0, false)
theorem detP_sq {m : List (List Int)} (h : m.all (fun r => decide (r.length = m.length) && r.all (inR (-10) 10)) = true) : Sq m.length m ∧ Small m.length (matL m) := by
  rw [List.all_eq_true] at h
  have hr : ∀ r, r ∈ m → r.length = m.length ∧ ∀ x, x ∈ r → -10 ≤ x ∧ x ≤ 10 := fun r hm => by
    obtain ⟨a, b⟩ := Bool.and_eq_true_iff.1 (h r hm)
    refine ⟨of_decide_eq_true a, fun x hx => ?_⟩
    exact inR_iff.1 (List.all_eq_true.1 b x hx)
  refine ⟨⟨rfl, fun i h => (hr _ (List.getElem_mem h)).1⟩, fun i j hi hj => ?_⟩
  obtain ⟨a, b⟩ := hr m[i] (List.getElem_mem hi)
  unfold matL
  rw [getD_get hi, getD_getI (by omega)]
  have := b _ (List.getElem_mem (show j < m[i].length by omega))
  omega
theorem all_take {p : List Int → Bool} {m : List (List Int)} {i : Nat} (hi : i < m.length) (h : (m.take i).all p = true) (h2 : p m[i] = true) : (m.take (i + 1)).all p = true := by
  rw [List.take_succ_eq_append_getElem hi, List.all_append, h, Bool.true_and]
  simp [h2]

theorem k_DeterminantOf1 (x : Int) (h : Heap) (K : Value → Heap → Prop) (HK : K (VB (!inR (-10) 10 x)) h) : callV Try.prog (.func (.func 97) #[] #[]) [VI x] h K :=
  v97 x h K (k_impl_in _ _ _ _ _ ⟨_, rfl, .nil, HK⟩)

theorem k_DeterminantOf {S : Nat → Prop} {h : Heap} {m : Sl} {xss : List (List Int)} (M : RdR S h m xss) (K : Value → Heap → Prop) (HK : ∀ h', Fr No h h' → K (.tuple #[VI (detP xss).1, VB (detP xss).2]) h') : callM Try.prog 47 #[m.v] h K := by
  have mn := M.len
  refine v47 m h K ⟨fun e => ?_, fun e => ?_⟩
  · simp only [decide_eq_true_eq] at e
    have er : detP xss = (0, false) := by unfold detP; rw [decide_eq_false (by omega)]; rfl
    rw [er] at HK
    exact HK h (Fr.refl _ _)
  simp only [decide_eq_false_iff_not] at e
  have h7 : xss.length ≤ 7 := by omega
  have bad : ∀ (i : Nat) (hi : i < xss.length), (decide ((xss[i]).length = xss.length) && (xss[i]).all (inR (-10) 10)) = false → detP xss = (0, false) := fun i hi hb => by
    unfold detP
    rw [if_neg]
    intro hh
    have := List.all_eq_true.1 (Bool.and_eq_true_iff.1 hh).2 _ (List.getElem_mem hi)
    rw [hb] at this
    cases this
  refine ⟨fun n i h' => 0 ≤ i ∧ i + n = (xss.length : Int) ∧ (xss.take i.toNat).all (fun r => decide (r.length = xss.length) && r.all (inR (-10) 10)) = true ∧ Fr No h h', ⟨xss.length, by omega, by omega, rfl, Fr.refl _ _⟩, ?_⟩
  rintro n i h1 ⟨i0, i1, ia, f1⟩ hL1
  have M1 := M.no f1
  refine ⟨fun e2 => ?_, fun e2 => ?_⟩
  · have hi := M1.lt e2
    obtain ⟨si, ci, ri⟩ := M1.get i0 hi
    have sl := ri.len
    refine ⟨M1.inb i0 hi, si, ci, fun e3 => ?_, fun e3 => ?_⟩
    · have e3 := not_t e3
      simp only [decide_eq_false_iff_not] at e3
      rw [bad i.toNat (by omega) (by rw [decide_eq_false (by omega)]; rfl)] at HK
      exact HK h1 f1
    have e3 := not_f e3
    simp only [decide_eq_true_eq] at e3
    refine k_ContainsFunc ri _ _ (fun x K HK => k_DeterminantOf1 x h1 K HK) _ ⟨_, rfl, hL1, fun e4 => ?_, fun e4 => ?_⟩
    · rw [any_not] at e4
      rw [bad i.toNat (by omega) (by rw [not_t e4, Bool.and_false])] at HK
      exact HK h1 f1
    · rw [any_not] at e4
      rw [M1.succ i0 hi]
      refine ⟨n - 1, by omega, by omega, by omega, ?_, f1⟩
      rw [show (i + 1).toNat = i.toNat + 1 by omega]
      exact all_take (by omega) ia (by rw [not_f e4, decide_eq_true (by omega)]; rfl)
  · have hi := M1.ge e2
    rw [List.take_of_length_le (by omega)] at ia
    obtain ⟨Q, Sm⟩ := detP_sq ia
    have er : detP xss = (det xss.length (matL xss), true) := by unfold detP; rw [ia, decide_eq_true h7]; rfl
    rw [er] at HK
    exact k_determinant M1 Q h7 Sm _ fun h2 f2 => ⟨_, rfl, hL1.of_no f2, HK h2 (f1.no_trans f2)⟩

theorem k_spec_DeterminantOf {S : Nat → Prop} {h : Heap} {m : Sl} {xss : List (List Int)} (M : RdR S h m xss) (K : Value → Heap → Prop) (HK : ∀ h', Fr No h h' → K (.tuple #[VI (detP xss).1, VB (detP xss).2]) h') : callM Try.prog 56 #[m.v] h K := by
  have mn := M.len
  refine v56 m h K ⟨fun e => ?_, fun e => ?_⟩
  · simp only [decide_eq_true_eq] at e
    have er : detP xss = (0, false) := by unfold detP; rw [decide_eq_false (by omega)]; rfl
    rw [er] at HK
    exact HK h (Fr.refl _ _)
  simp only [decide_eq_false_iff_not] at e
  have h7 : xss.length ≤ 7 := by omega
  have bad : ∀ (i : Nat) (hi : i < xss.length), (decide ((xss[i]).length = xss.length) && (xss[i]).all (inR (-10) 10)) = false → detP xss = (0, false) := fun i hi hb => by
    unfold detP
    rw [if_neg]
    intro hh
    have := List.all_eq_true.1 (Bool.and_eq_true_iff.1 hh).2 _ (List.getElem_mem hi)
    rw [hb] at this
    cases this
  refine ⟨fun n i h' => 0 ≤ i ∧ i + n = (xss.length : Int) ∧ (xss.take i.toNat).all (fun r => decide (r.length = xss.length) && r.all (inR (-10) 10)) = true ∧ Fr No h h', ⟨xss.length, by omega, by omega, rfl, Fr.refl _ _⟩, ?_⟩
  rintro n i h1 ⟨i0, i1, ia, f1⟩ hL1
  have M1 := M.no f1
  refine ⟨fun e2 => ?_, fun e2 => ?_⟩
  · have hi := M1.lt e2
    obtain ⟨si, ci, ri⟩ := M1.get i0 hi
    have sl := ri.len
    refine ⟨M1.inb i0 hi, si, ci, fun e3 => ?_, fun e3 => ?_⟩
    · have e3 := not_t e3
      simp only [decide_eq_false_iff_not] at e3
      rw [bad i.toNat (by omega) (by rw [decide_eq_false (by omega)]; rfl)] at HK
      exact HK h1 f1
    have e3 := not_f e3
    simp only [decide_eq_true_eq] at e3
    refine k_spec_l1All ri _ _ _ ⟨_, rfl, hL1, fun e4 => ?_, fun e4 => ?_⟩
    · rw [bad i.toNat (by omega) (by rw [not_t e4, Bool.and_false])] at HK
      exact HK h1 f1
    · rw [M1.succ i0 hi]
      refine ⟨n - 1, by omega, by omega, by omega, ?_, f1⟩
      rw [show (i + 1).toNat = i.toNat + 1 by omega]
      exact all_take (by omega) ia (by rw [not_f e4, decide_eq_true (by omega)]; rfl)
  · have hi := M1.ge e2
    rw [List.take_of_length_le (by omega)] at ia
    obtain ⟨Q, Sm⟩ := detP_sq ia
    have er : detP xss = (det xss.length (matL xss), true) := by unfold detP; rw [ia, decide_eq_true h7]; rfl
    rw [er] at HK
    exact k_trDet xss.length M1 Q h7 Sm _ fun h2 f2 => ⟨_, rfl, hL1.of_no f2, HK h2 (f1.no_trans f2)⟩

theorem k_DrawAllTrees {S : Nat → Prop} {h : Heap} {code : Sl} {vs : List Value} (C : RdV S h 1 code vs) (B : ∀ v, v ∈ vs → ∃ m : Int, v = Value.int .u8 m ∧ 0 ≤ m ∧ m ≤ 255) (K : Value → Heap → Prop) (HK : ∀ (t : Sl) (gs : List (List Int)) (p : Int) h', RdR (fun k => h.size ≤ k) h' t gs → Fr No h h' → K (.tuple #[.agg #[t.v], VI p]) h') : callM Try.prog 37 #[code.v] h K := by
  refine v37 code h K fun b1 h1 hb1 f1 hL1 => ?_
  have f1 := f1.in_nil
  have z1 := f1.size
  have l1 : b1 < h1.size := hL1.head.lt
  refine k_DrawCountTrees (C.no f1) B _ fun t gs p h2 G2 f2 => ⟨t, p, rfl, hL1.of_no f2, fun h3 f3 hL3 => ?_⟩
  refine HK t gs p h3 ((G2.fr f3 fun k hk hk2 => by simp [In] at hk2; omega).mono fun k hk => by omega) ?_
  exact ((f1.no_trans f2).of_no.trans f3 : Fr (In [b1]) h h3).mono fun k hk hk2 => by simp [In] at hk2; omega

theorem k_DrawIsTree {S : Nat → Prop} {h : Heap} {code : Sl} {vs : List Value} (C : RdV S h 1 code vs) (B : ∀ v, v ∈ vs → ∃ m : Int, v = Value.int .u8 m ∧ 0 ≤ m ∧ m ≤ 255) (K : Value → Heap → Prop) (HK : ∀ (t w : Sl) (gs : List (List Int)) (rs : List Int) (p : Int) h', RdR (fun k => h.size ≤ k) h' t gs → RdI (fun k => h.size ≤ k) h' w rs → Fr No h h' → K (.tuple #[.agg #[t.v], VI p, w.v]) h') : callM Try.prog 51 #[code.v] h K := by
  refine v51 code h K fun b1 b2 h2 hb1 hb2 f2 hL2 => ?_
  have f2 := f2.in_nil
  have z2 := f2.size
  have l2 : b2 < h2.size := hL2.head.lt
  have l1 : b1 < h2.size := hL2.tail.head.lt
  have D2 : CurD h.size 0 h2 code 0 := ⟨⟨vs, ((RdV.lt C).mono fun k hk => hk.2).no f2, B⟩, by omega, by omega⟩
  refine k_drrooted hL2.head hb2 D2 (by omega) _ fun t w gs rs p m i3 sd3 h3 gl hm G3 O3 V3 D3 f3 => ⟨code, i3, sd3, t, p, w, rfl, vcur hL2 0 rfl f3 V3, fun h5 f5 hL5 => ?_⟩
  have R3 : RdI (fun k => m ≤ k) h3 w rs := Ow.rdF O3
  have o1 : ∀ k, h2.size ≤ k → ¬ In [b1] k := fun k hk hk2 => by simp [In] at hk2; omega
  have u3 : Fr (fun k => h.size ≤ k) h2 h3 := f3.mono fun k _ hk => by simp [In] at hk; omega
  have u5 : Fr (fun k => h.size ≤ k) h3 h5 := f5.mono fun k _ hk => by simp [In] at hk; omega
  exact HK t w gs rs p h5 ((G3.fr f5 fun k hk => o1 k hk.1).mono fun k hk => by have := hk.1; omega) ((R3.fr f5 fun k hk => o1 k (by omega)).mono fun k hk => by omega) (((f2.of_no.trans u3).trans u5).mono fun k hk hk2 => absurd hk2 (by omega))

/-- A number put into a row. -/
theorem row_cell {L : List (Nat × List Value)} {F : Nat → Prop} {h : Heap} {s si : Sl} {xss : List (List Int)} {i j : Int} (O : OwX h F s xss) (i0 : 0 ≤ i) (i1 : i < (xss.length : Int)) (c : hcell h (s.at i 1) = some si.v) (j0 : 0 ≤ j) (j1 : j < ((xss[i.toNat]'(by omega)).length : Int)) (v : Int) (hL : Vars h L) (hoff : ∀ p, p ∈ L → ¬ F p.1) (R : Heap → Prop) (HR : ∀ h', OwX h' F s (xss.set i.toNat ((xss[i.toNat]'(by omega)).set j.toNat v)) → Fr F h h' → Vars h' L → R h') : InB si j ∧ Writable h (si.at j 1) ∧ Vars (hset h (si.at j 1) (VI v)) L ∧ ∀ h3, h3 = hset h (si.at j 1) (VI v) → Vars h3 L → R h3 := by
  obtain ⟨sj, c1, oi, upd⟩ := O.inner i0 i1
  have e : sj = si := slv_inj (c1.symm.trans c)
  subst e
  have oi' : OwI h sj.own sj (xss[i.toNat]'(by omega)) := Ow.mono oi fun k hk _ => hk
  refine int_set oi' j0 j1 hL (fun p hp hk => hoff p hp (Ow.foot oi hk).1) _ fun h' o' f' V' => HR h' (upd h' _ f' (Ow.mono o' fun k hk _ => (Ow.foot oi hk).1)) (f'.mono fun k _ hk => (Ow.foot oi hk).1) V'
/-- The first row without its first number. -/
theorem row_cut {L : List (Nat × List Value)} {F : Nat → Prop} {h : Heap} {s si : Sl} {xss : List (List Int)} (O : OwX h F s xss) (i1 : 0 < xss.length) (c : hcell h (s.at 0 1) = some si.v) (j1 : 1 ≤ (xss[0]).length) (hL : Vars h L) (hoff : ∀ p, p ∈ L → ¬ F p.1) (R : Heap → Prop) (HR : ∀ h', RdR F h' s (xss.set 0 ((xss[0]).drop 1)) → Fr F h h' → Vars h' L → R h') : InB s 0 ∧ Writable h (s.at 0 1) ∧ Vars (hset h (s.at 0 1) (si.cut 1 1 si.n si.c).v) L ∧ ∀ h3, h3 = hset h (s.at 0 1) (si.cut 1 1 si.n si.c).v → Vars h3 L → R h3 := by
  have ib : InB s 0 := (OwR.rd O).inb (by omega) (by omega)
  have sn := OwR.len O
  obtain ⟨sj, c1, oi, _⟩ := O.inner (i := 0) (by omega) (by omega)
  have e : sj = si := slv_inj (c1.symm.trans c)
  subst e
  obtain ⟨ss, e1, h2, h3, h4, h5⟩ := O.out
  obtain ⟨wr, os, fs⟩ := Ow.store1 h2 (i := 0) (by omega) (by omega) (sj.cut 1 1 sj.n sj.c).v
  have g : Fr F h _ := fs.mono fun k _ hk => (Ow.foot h2 hk).1
  have V' := hL.fr g hoff
  refine ⟨ib, wr, V', fun h' e' W' => HR h' ?_ (by rw [e']; exact g) W'⟩
  subst e'
  have r0 : RdI (fun k => F k ∧ sj.own k) h sj (xss[0]) := RdI.mono (Ow.rdF (Ow.mono oi (F' := fun k => F k ∧ sj.own k) fun k hk hF => ⟨(Ow.foot oi hk).1, hk⟩)) fun k hk => hk
  have ln := r0.len
  have hs0 : ss[0]'(by omega) = sj := by
    have := (Ow.rd h2).get (i := 0) (by omega) (by simp; omega)
    have hh := this.symm.trans c1
    rw [List.getElem_map] at hh
    exact slv_inj hh
  have off0 : ∀ k, sj.own k → ¬ s.own k := fun k hk hk2 => by
    have := h5 0 (by omega) k hk2
    rw [hs0] at this
    exact this hk
  refine ⟨ss.set 0 (sj.cut 1 1 sj.n sj.c), by simp [e1], ?_, fun i a b => ?_⟩
  · have hr : RdV F _ 1 s ((ss.map Sl.v).set (0 : Int).toNat (sj.cut 1 1 sj.n sj.c).v) := os.rdF
    rw [List.map_set]
    exact hr
  · simp only [List.getElem_set]
    by_cases hi : 0 = i
    · subst hi
      simp only [if_true]
      have rc := RdI.cut r0 (l := 1) (m := sj.n) (by omega) (by omega)
      rw [List.take_of_length_le (by simp; omega)] at rc
      exact (rc.fr fs fun k hk => off0 k hk.2).mono fun k hk => hk.1
    · rw [if_neg hi, if_neg hi]
      have a' : i < ss.length := by simpa using a
      have b' : i < xss.length := by simpa using b
      have ri : RdI (fun k => F k ∧ ss[i].own k) h ss[i] xss[i] := Ow.rdF (Ow.mono (h3 i a' b') (F' := fun k => F k ∧ ss[i].own k) fun k hk hF => ⟨hF, hk⟩)
      exact (ri.fr fs fun k hk hk2 => h5 i a' k hk2 hk.2).mono fun k hk => hk.1

set_option maxHeartbeats 4000000 in
theorem k_DrawDeterminantOf {S : Nat → Prop} {h : Heap} {code : Sl} {vs : List Value} (C : RdV S h 1 code vs) (B : ∀ v, v ∈ vs → ∃ m : Int, v = Value.int .u8 m ∧ 0 ≤ m ∧ m ≤ 255) (K : Value → Heap → Prop) (HK : ∀ (t : Sl) (gs : List (List Int)) h', RdR (fun k => h.size ≤ k) h' t gs → Fr No h h' → K t.v h') : callM Try.prog 55 #[code.v] h K := by
  refine v55 code h K fun b1 h1 hb1 f1 hL1 => ?_
  have f1 := f1.in_nil
  have z1 := f1.size
  have l1 : b1 < h1.size := hL1.head.lt
  have D1 : CurD h.size 0 h1 code 0 := ⟨⟨vs, ((RdV.lt C).mono fun k hk => hk.2).no f1, B⟩, by omega, by omega⟩
  have u : ∀ {x y : Heap}, Fr (In [b1]) x y → Fr (fun k => h.size ≤ k) x y := fun f => f.mono fun k _ hk => by simp [In] at hk; omega
  refine k_pick hL1.head hb1 D1 (by omega) 5 _ fun x i2 sd2 h2 x0 x1 V2 D2 f2 => ⟨code, i2, sd2, x, rfl, vcur hL1 0 rfl f2 V2, ?_⟩
  have x1 := x1 (by omega)
  have hL2 := vcur hL1 0 rfl f2 V2
  have F2 : Fr (fun k => h.size ≤ k) h h2 := f1.of_no.trans (u f2)
  have z2 := f2.size
  refine ⟨fun n c i sd h' => c = code ∧ 0 ≤ n ∧ n ≤ 8 ∧ CurD h.size 10 h' code i ∧ Fr (fun k => h.size ≤ k) h h' ∧ h1.size ≤ h'.size, ?_, ?_⟩
  · refine k_one hL2.head hb1 D2 (by omega) 8 _ fun y i3 sd3 h3 V3 D3 f3 => ⟨code, i3, sd3, y, rfl, vcur hL2 0 rfl f3 V3, fun _ => ?_, fun _ => ⟨rfl, x0, by omega, D3.up (by omega), F2.trans (u f3), by have := f3.size; omega⟩⟩
    have hL3 := vcur hL2 0 rfl f3 V3
    refine k_pick hL3.head hb1 D3 (by omega) 2 _ fun z i4 sd4 h4 w0 w1 V4 D4 f4 => ⟨code, i4, sd4, z, rfl, vcur hL3 0 rfl f4 V4, ?_⟩
    have w1 := w1 (by omega)
    rw [w64_eq _ (by omega) (by omega)]
    exact ⟨rfl, by omega, by omega, D4.up (by omega), (F2.trans (u f3)).trans (u f4), by have := f3.size; have := f4.size; omega⟩
  rintro n c i sd h5 ⟨rfl, n0, n8, D5, F5, z5⟩ hL5
  obtain ⟨N, rfl⟩ := Int.eq_ofNat_of_zero_le n0
  refine eop_make rIss (fun k => h5.size ≤ k) (fun _ h => h) .i64 .i64 N N (Nat.le_refl _) (by omega) fun t h6 n6 c6 o6 f6 m6 _ => ⟨t, rfl, hL5.of_no f6, ?_⟩
  have z6 := f6.size
  have tn : t.n = N := by omega
  have o6 : OwX h6 (fun k => h5.size ≤ k) t (List.replicate N []) := OwR.zeros _ o6
  have hoff : ∀ (A : List Value) p, p ∈ [(b1, A)] → ¬ (h5.size ≤ p.1) := fun A p hp => by
    simp only [List.mem_cons, List.not_mem_nil, or_false] at hp
    subst hp
    show ¬ h5.size ≤ b1
    omega
  have uF : ∀ {x y : Heap}, Fr (fun k => h5.size ≤ k) x y → Fr (fun k => h.size ≤ k) x y := fun f => f.mono fun k _ hk => by have := F5.size; omega
  have ob : ∀ k, h5.size ≤ k → ¬ In [b1] k := fun k hk hk2 => by simp [In] at hk2; omega
  have od : ∀ k, k < h.size → ¬ (h5.size ≤ k) := fun k hk hk2 => by have := F5.size; omega
  refine ⟨fun n i d cu sd h' => d = c ∧ 0 ≤ i ∧ i + n = (N : Int) ∧ CurD h.size (10 + 20 * i.toNat) h' c cu ∧ (∃ rows : List (List Int), OwX h' (fun k => h5.size ≤ k) t rows ∧ rows.length = N ∧ ∀ q (hq : q < rows.length), q < i.toNat → (rows[q]).length = N) ∧ Fr (fun k => h.size ≤ k) h h' ∧ h5.size ≤ h'.size, ⟨N, rfl, by omega, by omega, (D5.no f6).up (by omega), ⟨_, o6, by simp, fun q hq hh => by simp at hh⟩, F5.trans f6.of_no, z6⟩, ?_⟩
  rintro n i d cu sd7 h7 ⟨rfl, i0, i1, D7, ⟨rows, o7, rl, rq⟩, F7, z7⟩ hL7
  refine ⟨fun e => ?_, fun e => ?_⟩
  · simp only [decide_eq_true_eq] at e
    have hi : i < (N : Int) := by omega
    refine eop_make rIs (fun k => h7.size ≤ k) (fun _ h => h) .i64 .i64 N N (Nat.le_refl _) (by omega) fun r h8 n8' c8 o8 f8 m8 _ => ⟨r, rfl, hL7.of_no f8, ?_⟩
    have z8 := f8.size
    have o8 : OwI h8 (fun k => h7.size ≤ k) r (List.replicate N 0) := by
      have e : (List.replicate N [VI 0]).flatten = (List.replicate N (0 : Int)).map VI := by simp [List.flatten_replicate_singleton]
      rw [e] at o8
      exact o8
    refine row_set (F := fun k => h5.size ≤ k) (m := h7.size) (OwR.no (o7.mono fun k hk hF => ⟨hF, hk⟩) f8) o8 (fun k hk => by omega) i0 (by omega) (hL7.of_no f8) (hoff _) _ fun h9 o9 f9 V9 => ?_
    have z9 := f9.size
    have hi9 : i.toNat < (rows.set i.toNat (List.replicate N 0)).length := by rw [List.length_set]; omega
    obtain ⟨si, ci, oi, _⟩ := o9.inner i0 (by rw [List.length_set]; omega)
    have sn : si.n = N := by have := (Ow.rd oi).len; simp at this; omega
    refine ⟨(OwR.rd o9).inb i0 (by rw [List.length_set]; omega), si, ci, ?_⟩
    refine ⟨fun n2 j d2 cu2 sd2 h' => d2 = d ∧ 0 ≤ j ∧ j + n2 = (N : Int) ∧ CurD h.size (10 + 20 * i.toNat + 2 * j.toNat) h' d cu2 ∧ (∃ rows : List (List Int), OwX h' (fun k => h5.size ≤ k) t rows ∧ rows.length = N ∧ ∀ q (hq : q < rows.length), q < i.toNat + 1 → (rows[q]).length = N) ∧ Fr (fun k => h.size ≤ k) h h' ∧ h5.size ≤ h'.size, ⟨N, rfl, by omega, by omega, ((D7.no f8).fr f9 od).up (by omega), ⟨_, o9, by rw [List.length_set]; omega, fun q hq hh => ?_⟩, (F7.trans f8.of_no).trans (uF f9), by omega⟩, ?_⟩
    · rw [List.getElem_set]
      by_cases hc : i.toNat = q
      · rw [if_pos hc]; simp
      · rw [if_neg hc]
        exact rq q (by simpa using hq) (by omega)
    rintro n2 j d2 cu2 sd10 h10 ⟨rfl, j0, j1, D10, ⟨rows2, o10, rl2, rq2⟩, F10, z10⟩ hL10
    refine ⟨fun e2 => ?_, fun e2 => ?_⟩
    · simp only [decide_eq_true_eq] at e2
      have hj : j < (N : Int) := by omega
      have R10 := OwR.rd o10
      obtain ⟨s43, c43, r43⟩ := R10.get i0 (by omega)
      refine ⟨R10.inb i0 (by omega), s43, c43, ?_⟩
      refine k_pick hL10.head hb1 D10 (by omega) 9 _ fun y i11 sd11 h11 y0 y1 V11 D11 f11 => ⟨d2, i11, sd11, y, rfl, vcur hL10 0 rfl f11 V11, ?_⟩
      have o11 : OwX h11 (fun k => h5.size ≤ k) t rows2 := OwR.fr o10 f11 fun k _ hk => ob k hk
      have c11 := cell_keep R10 i0 (by omega) f11 (fun k hk => ob k hk.1) c43
      have z11 := f11.size
      refine row_cell o11 i0 (by omega) c11 j0 (by rw [rq2 i.toNat (by omega) (by omega)]; exact hj) _ (vcur hL10 0 rfl f11 V11) (hoff _) _ fun h12 o12 f12 V12 => ?_
      rw [w64_eq (j + 1) (by omega) (by omega)]
      refine ⟨n2 - 1, by omega, rfl, by omega, by omega, (D11.fr f12 od).up (by omega), ⟨_, o12, by rw [List.length_set]; omega, fun q hq hh => ?_⟩, (F10.trans (u f11)).trans (uF f12), by have := f12.size; omega⟩
      rw [List.getElem_set]
      by_cases hc : i.toNat = q
      · rw [if_pos hc, List.length_set]; exact rq2 _ (by omega) (by omega)
      · rw [if_neg hc]
        exact rq2 q (by simpa using hq) (by omega)
    · simp only [decide_eq_false_iff_not] at e2
      rw [w64_eq (i + 1) (by omega) (by omega)]
      exact ⟨n - 1, by omega, rfl, by omega, by omega, D10.up (by omega), ⟨rows2, o10, rl2, fun q hq hh => rq2 q hq (by omega)⟩, F10, z10⟩
  simp only [decide_eq_false_iff_not] at e
  have rq : ∀ q (hq : q < rows.length), (rows[q]).length = N := fun q hq => rq q hq (by omega)
  have D7 : CurD h.size 200 h7 d cu := D7.up (by omega)
  refine ⟨fun d2 cu2 sd2 h' => d2 = d ∧ CurD h.size 210 h' d cu2 ∧ (∃ rows : List (List Int), OwX h' (fun k => h5.size ≤ k) t rows ∧ rows.length = N ∧ ∀ q (hq : q < rows.length), (rows[q]).length = N) ∧ Fr (fun k => h.size ≤ k) h h' ∧ h5.size ≤ h'.size, ⟨fun e2 => ?_, fun e2 => ⟨rfl, D7.up (by omega), ⟨rows, o7, rl, rq⟩, F7, z7⟩⟩, ?_⟩
  · simp only [decide_eq_true_eq] at e2
    refine k_one hL7.head hb1 D7 (by omega) 8 _ fun y i13 sd13 h13 V13 D13 f13 => ?_
    have hL13 := vcur hL7 0 rfl f13 V13
    have o13 : OwX h13 (fun k => h5.size ≤ k) t rows := OwR.fr o7 f13 fun k _ hk => ob k hk
    have z13 := f13.size
    refine ⟨d, i13, sd13, y, rfl, hL13, fun _ => ?_, fun _ => ⟨rfl, D13.up (by omega), ⟨rows, o13, rl, rq⟩, F7.trans (u f13), by omega⟩⟩
    have R13 := OwR.rd o13
    obtain ⟨s60, c60, r60⟩ := R13.get (i := 0) (by omega) (by omega)
    refine ⟨R13.inb (by omega) (by omega), s60, c60, ?_⟩
    refine eop_lit rIs (fun k => h13.size ≤ k) (fun _ h => h) 5 (by omega) [VI 10, VI 11, VI (-10), VI (-11), VI 4611686018427387904] rfl rfl fun w h14 n14 c14 o14 f14 m14 _ => ⟨w, rfl, hL13.of_no f14, ?_⟩
    have z14 := f14.size
    have r14 : RdI (fun k => h13.size ≤ k) h14 w [10, 11, -10, -11, 4611686018427387904] := o14.rdF
    refine k_among (hL13.of_no f14).head hb1 (D13.no f14) (by omega) r14 (by omega) (by simp) _ fun v i15 sd15 h15 hv V15 D15 f15 => ⟨d, i15, sd15, v, rfl, vcur (hL13.of_no f14) 0 rfl f15 V15, ?_⟩
    have o14' : OwX h14 (fun k => h5.size ≤ k) t rows := OwR.no o13 f14
    have o15 : OwX h15 (fun k => h5.size ≤ k) t rows := OwR.fr o14' f15 fun k _ hk => ob k hk
    have c14' := cell_keep R13 (i := 0) (by omega) (by omega) f14 (fun k _ hk => hk) c60
    have c15 := cell_keep (OwR.rd o14') (i := 0) (by omega) (by omega) f15 (fun k hk => ob k hk.1) c14'
    have z15 := f15.size
    refine row_cell o15 (i := 0) (by omega) (by omega) c15 (by omega) (by have := rq 0 (by omega); show (0 : Int) < ((rows[0]).length : Int); omega) v (vcur (hL13.of_no f14) 0 rfl f15 V15) (hoff _) _ fun h16 o16 f16 V16 => ?_
    refine ⟨rfl, (D15.fr f16 od).up (by omega), ⟨_, o16, by rw [List.length_set]; omega, fun q hq => ?_⟩, (((F7.trans (u f13)).trans f14.of_no).trans (u f15)).trans (uF f16), by have := f16.size; omega⟩
    rw [List.getElem_set]
    by_cases hc : (0 : Int).toNat = q
    · rw [if_pos hc, List.length_set]; exact rq _ (by omega)
    · rw [if_neg hc]
      exact rq q (by simpa using hq)
  rintro d2 cu2 sd17 h17 ⟨rfl, D17, ⟨rows2, o17, rl2, rq2⟩, F17, z17⟩ hL17
  have fin : ∀ {y : Heap}, Fr (fun k => h.size ≤ k) h y → Fr No h y := fun f => f.mono fun k hk hk2 => absurd hk2 (by omega)
  have up : ∀ {y : Heap} {gs : List (List Int)}, RdR (fun k => h5.size ≤ k) y t gs → RdR (fun k => h.size ≤ k) y t gs := fun r => r.mono fun k hk => by have := F5.size; omega
  refine ⟨fun e2 => ?_, fun e2 => HK t rows2 h17 (up ((OwR.rd o17).mono fun k hk => hk.1)) (fin F17)⟩
  simp only [decide_eq_true_eq] at e2
  refine k_one hL17.head hb1 D17 (by omega) 12 _ fun y i18 sd18 h18 V18 D18 f18 => ?_
  have hL18 := vcur hL17 0 rfl f18 V18
  have o18 : OwX h18 (fun k => h5.size ≤ k) t rows2 := OwR.fr o17 f18 fun k _ hk => ob k hk
  refine ⟨d2, i18, sd18, y, rfl, hL18, fun _ => ?_, fun _ => HK t rows2 h18 (up ((OwR.rd o18).mono fun k hk => hk.1)) (fin (F17.trans (u f18)))⟩
  have R18 := OwR.rd o18
  obtain ⟨s75, c75, r75⟩ := R18.get (i := 0) (by omega) (by omega)
  have l75 := r75.len
  have q0 := rq2 0 (by omega)
  have l75' : s75.n = N := by rw [l75]; exact q0
  refine ⟨R18.inb (by omega) (by omega), s75, c75, pop_cut_l rIs .i64 (by omega) (by omega) ⟨_, rfl, ?_⟩⟩
  exact row_cut o18 (by omega) c75 (by omega) hL18 (hoff _) _ fun h19 r19 f19 V19 => HK t _ h19 (up r19) (fin ((F17.trans (u f18)).trans (uF f19)))

theorem walk_to4 {g : List (List Int)} {rs : List Int} {p : Int} (W : WOK g (rs, p)) : walkB g rs p = true := by
  unfold walkB
  have h1 := W.lo
  have h2 := W.hi
  have h3 := W.len
  simp only at h1 h2 h3
  rw [W.graph, inR_iff.2 ⟨h1, by omega⟩, decide_eq_true h3, Bool.true_and, Bool.true_and, Bool.true_and, List.all_eq_true]
  intro x hx
  obtain ⟨i, hi, rfl⟩ := List.mem_iff_getElem.1 hx
  rw [List.length_zip] at hi
  have := W.rot i (by simp only; omega) (by omega)
  rw [List.getElem_zip]
  unfold rotB
  rw [inR_iff]
  exact this

theorem k_wLess {S S' : Nat → Prop} {h : Heap} {a b : Sl} {xs ys : List Int} (H : RdI S h a xs) (H' : RdI S' h b ys) (hl : xs.length = ys.length) (K : Value → Heap → Prop) (HK : K (VB (ltL xs ys)) h) : callM Try.prog 50 #[a.v, b.v] h K := by
  refine v50 a b h K ⟨fun m i h' => h' = h ∧ 0 ≤ i ∧ i + m = (xs.length : Int) ∧ ltL xs ys = ltL (xs.drop i.toNat) (ys.drop i.toNat), ⟨xs.length, rfl, Int.le_refl _, by omega, by simp⟩, ?_⟩
  rintro m i h1 ⟨rfl, i0, i1, el⟩ hL
  refine ⟨fun e => ?_, fun e => ?_⟩
  · have hi := H.lt e
    have hi' : i < (ys.length : Int) := by omega
    rw [drop_cons xs i0 hi, drop_cons ys i0 hi', ltL] at el
    refine ⟨H.inb i0 hi, _, H.get i0 hi, H'.inb i0 hi', _, H'.get i0 hi', fun e2 => ⟨H.inb i0 hi, _, H.get i0 hi, H'.inb i0 hi', _, H'.get i0 hi', ?_⟩, fun e2 => ?_⟩
    · simp only [Bool.not_eq_true', decide_eq_false_iff_not] at e2
      rw [if_neg e2] at el
      rw [← el]
      exact HK
    · simp only [Bool.not_eq_false', decide_eq_true_eq] at e2
      rw [if_pos e2] at el
      rw [H.succ i0 hi]
      exact ⟨m - 1, by omega, rfl, by omega, by omega, el⟩
  · have hi := H.ge e
    rw [List.drop_of_length_le (by omega), List.drop_of_length_le (by omega)] at el
    rw [el] at HK
    exact HK
end Go.Proofs.Ytgiamamfnpklkaa
