/-
  THE M-LAYER, 3: data in the heap: slices that read as lists, slices of slices; what append, make and literals do. No program in sight.
-/
import Derived.Test.YtgiamamfnpklkaaGreatDoorM2
import Derived.Laws.OwnMore
set_option linter.unusedVariables false
set_option linter.unusedSimpArgs false
namespace Go.Mx

/-- The call gives v and changes nothing that was there. -/
def Ret (P : Program) (f : FuncId) (args : Array Value) (h : Heap) (v : Value) : Prop := ∀ K : Value → Heap → Prop, (∀ h', Fr No h h' → K v h') → callM P f args h K

theorem Fr.no_trans {a b c : Heap} (h : Fr No a b) (k : Fr No b c) : Fr No a c := h.trans k
theorem Fr.in_nil {a b : Heap} (h : Fr (In []) a b) : Fr No a b := ⟨h.size, fun k hk _ => h.same k hk (by simp [In])⟩
theorem hcell_lt {h : Heap} {a : Addr} {v : Value} (hc : hcell h a = some v) : a.block < h.size := by
  unfold hcell at hc
  cases ho : h[a.block]? with
  | none => rw [ho] at hc; simp at hc
  | some o => exact (Array.getElem?_eq_some_iff.1 ho).1
theorem hcell_fr {T : Nat → Prop} {h h' : Heap} {a : Addr} {v : Value} (hc : hcell h a = some v) (hf : Fr T h h') (hT : ¬ T a.block) : hcell h' a = some v := by
  have := hf.same _ (hcell_lt hc) hT
  unfold hcell at *
  rw [this]; exact hc
theorem hfrz_fr {T : Nat → Prop} {h h' : Heap} {a : Addr} (hl : a.block < h.size) (hf : Fr T h h') (hT : ¬ T a.block) : hfrz h' a = hfrz h a := by
  have := hf.same _ hl hT
  unfold hfrz
  rw [this]
theorem add_block (a : Addr) (n : Nat) : (a.add n).block = a.block := by unfold Addr.add; split <;> rfl

/-! ### A slice that is read: its cells, in blocks of S -/
structure RdV (S : Nat → Prop) (h : Heap) (sz : Nat) (s : Sl) (vs : List Value) : Prop where
  len : vs.length = s.n * sz
  big : s.n ≤ maxLen
  cap : s.n ≤ s.c
  cell : ∀ j (hj : j < vs.length), ∃ a, s.a = some a ∧ S a.block ∧ hcell h (a.add j) = some vs[j]
theorem RdV.fr {S T : Nat → Prop} {h h' : Heap} {sz : Nat} {s : Sl} {vs : List Value} (H : RdV S h sz s vs) (hf : Fr T h h') (hd : ∀ k, S k → ¬ T k) : RdV S h' sz s vs :=
  ⟨H.len, H.big, H.cap, fun j hj => let ⟨a, h1, h2, h3⟩ := H.cell j hj; ⟨a, h1, h2, hcell_fr h3 hf (by rw [add_block]; exact hd _ h2)⟩⟩
theorem RdV.no {S : Nat → Prop} {h h' : Heap} {sz : Nat} {s : Sl} {vs : List Value} (H : RdV S h sz s vs) (hf : Fr No h h') : RdV S h' sz s vs := H.fr hf fun _ _ h => h
theorem RdV.mono {S S' : Nat → Prop} {h : Heap} {sz : Nat} {s : Sl} {vs : List Value} (H : RdV S h sz s vs) (hS : ∀ k, S k → S' k) : RdV S' h sz s vs :=
  ⟨H.len, H.big, H.cap, fun j hj => let ⟨a, h1, h2, h3⟩ := H.cell j hj; ⟨a, h1, hS _ h2, h3⟩⟩
theorem RdV.nil (S : Nat → Prop) (h : Heap) (sz : Nat) : RdV S h sz nilSl [] := ⟨by simp [nilSl], by simp [nilSl, maxLen], by simp [nilSl], fun j hj => by simp at hj⟩
theorem RdV.lt {S : Nat → Prop} {h : Heap} {sz : Nat} {s : Sl} {vs : List Value} (H : RdV S h sz s vs) : RdV (fun k => S k ∧ k < h.size) h sz s vs :=
  ⟨H.len, H.big, H.cap, fun j hj => let ⟨a, h1, h2, h3⟩ := H.cell j hj; ⟨a, h1, ⟨h2, by have := hcell_lt h3; rw [add_block] at this; exact this⟩, h3⟩⟩
/-- Whole numbers. -/
def RdI (S : Nat → Prop) (h : Heap) (s : Sl) (xs : List Int) : Prop := RdV S h 1 s (xs.map VI)
theorem RdI.len {S : Nat → Prop} {h : Heap} {s : Sl} {xs : List Int} (H : RdI S h s xs) : s.n = xs.length := by have := RdV.len H; simp at this; exact this.symm
theorem RdI.fr {S T : Nat → Prop} {h h' : Heap} {s : Sl} {xs : List Int} (H : RdI S h s xs) (hf : Fr T h h') (hd : ∀ k, S k → ¬ T k) : RdI S h' s xs := RdV.fr H hf hd
theorem RdI.no {S : Nat → Prop} {h h' : Heap} {s : Sl} {xs : List Int} (H : RdI S h s xs) (hf : Fr No h h') : RdI S h' s xs := RdV.no H hf
theorem at_one {s : Sl} {a : Addr} (ha : s.a = some a) (i : Int) : s.at i 1 = a.add i.toNat := by simp [Sl.at, ha]
theorem RdV.inb {S : Nat → Prop} {h : Heap} {s : Sl} {vs : List Value} (H : RdV S h 1 s vs) {i : Int} (h0 : 0 ≤ i) (h1 : i < (vs.length : Int)) : InB s i := by
  have hl := H.len
  obtain ⟨a, ha, _, _⟩ := H.cell i.toNat (by omega)
  exact ⟨by simp [ha], h0, by omega⟩
theorem RdV.get {S : Nat → Prop} {h : Heap} {s : Sl} {vs : List Value} (H : RdV S h 1 s vs) {i : Int} (h0 : 0 ≤ i) (h1 : i < (vs.length : Int)) : hcell h (s.at i 1) = some (vs[i.toNat]'(by omega)) := by
  obtain ⟨a, ha, _, hc⟩ := H.cell i.toNat (by omega)
  rw [at_one ha]; exact hc
theorem RdI.inb {S : Nat → Prop} {h : Heap} {s : Sl} {xs : List Int} (H : RdI S h s xs) {i : Int} (h0 : 0 ≤ i) (h1 : i < (xs.length : Int)) : InB s i := RdV.inb H h0 (by simpa using h1)
theorem RdI.get {S : Nat → Prop} {h : Heap} {s : Sl} {xs : List Int} (H : RdI S h s xs) {i : Int} (h0 : 0 ≤ i) (h1 : i < (xs.length : Int)) : hcell h (s.at i 1) = some (VI (xs[i.toNat]'(by omega))) := by
  have := RdV.get H h0 (by simpa using h1)
  simpa using this
/-- Slices of whole numbers. -/
structure RdR (S : Nat → Prop) (h : Heap) (s : Sl) (xss : List (List Int)) : Prop where
  out : ∃ ss : List Sl, ss.length = xss.length ∧ RdV S h 1 s (ss.map Sl.v) ∧ ∀ i (h1 : i < ss.length) (h2 : i < xss.length), RdI S h ss[i] xss[i]
theorem RdR.len {S : Nat → Prop} {h : Heap} {s : Sl} {xss : List (List Int)} (H : RdR S h s xss) : s.n = xss.length := by
  obtain ⟨ss, h1, h2, _⟩ := H.out
  have := h2.len
  simp at this
  omega
theorem RdR.big {S : Nat → Prop} {h : Heap} {s : Sl} {xss : List (List Int)} (H : RdR S h s xss) : s.n ≤ maxLen := by obtain ⟨ss, h1, h2, _⟩ := H.out; exact h2.big
theorem RdR.fr {S T : Nat → Prop} {h h' : Heap} {s : Sl} {xss : List (List Int)} (H : RdR S h s xss) (hf : Fr T h h') (hd : ∀ k, S k → ¬ T k) : RdR S h' s xss :=
  let ⟨ss, h1, h2, h3⟩ := H.out; ⟨ss, h1, h2.fr hf hd, fun i a b => (h3 i a b).fr hf hd⟩
theorem RdR.no {S : Nat → Prop} {h h' : Heap} {s : Sl} {xss : List (List Int)} (H : RdR S h s xss) (hf : Fr No h h') : RdR S h' s xss := H.fr hf fun _ _ h => h
theorem RdR.inb {S : Nat → Prop} {h : Heap} {s : Sl} {xss : List (List Int)} (H : RdR S h s xss) {i : Int} (h0 : 0 ≤ i) (h1 : i < (xss.length : Int)) : InB s i := by
  obtain ⟨ss, e, h2, _⟩ := H.out
  exact h2.inb h0 (by simp; omega)
theorem RdR.get {S : Nat → Prop} {h : Heap} {s : Sl} {xss : List (List Int)} (H : RdR S h s xss) {i : Int} (h0 : 0 ≤ i) (h1 : i < (xss.length : Int)) : ∃ si : Sl, hcell h (s.at i 1) = some si.v ∧ RdI S h si (xss[i.toNat]'(by omega)) := by
  obtain ⟨ss, e, h2, h3⟩ := H.out
  have := h2.get h0 (by simp; omega)
  simp only [List.getElem_map] at this
  exact ⟨_, this, h3 i.toNat (by omega) (by omega)⟩
theorem maxLen_lt {n : Nat} (h : n ≤ maxLen) : (n : Int) < 9223372036854775808 := by simp only [maxLen] at h; omega
theorem w64_succ {i : Int} {n : Nat} (h0 : 0 ≤ i) (h1 : i < (n : Int)) (hn : n ≤ maxLen) : w64 (i + 1) = i + 1 := w64_eq _ (by omega) (by have := maxLen_lt hn; omega)

/-! ### A list gone through from the front -/
theorem drop_cons {α : Type} (xs : List α) {i : Int} (h0 : 0 ≤ i) (h1 : i < (xs.length : Int)) : xs.drop i.toNat = xs[i.toNat]'(by omega) :: xs.drop (i + 1).toNat := by
  have e : (i + 1).toNat = i.toNat + 1 := by omega
  rw [e]
  exact List.drop_eq_getElem_cons (by omega)
theorem take_snoc {α : Type} (xs : List α) {i : Int} (h0 : 0 ≤ i) (h1 : i < (xs.length : Int)) : xs.take (i + 1).toNat = xs.take i.toNat ++ [xs[i.toNat]'(by omega)] := by
  have e : (i + 1).toNat = i.toNat + 1 := by omega
  rw [e, List.take_succ_eq_append_getElem (by omega)]
theorem toNat_succ {i : Int} (h0 : 0 ≤ i) : (i + 1).toNat = i.toNat + 1 := by omega
theorem set_mid {α : Type} (as bs : List α) (i : Nat) (ha : i < as.length) (hb : i < bs.length) : (as.take i ++ bs.drop i).set i as[i] = as.take (i + 1) ++ bs.drop (i + 1) := by
  have hl : (as.take i).length = i := by simp; omega
  rw [List.set_append_right _ _ (by omega), hl, Nat.sub_self, List.drop_eq_getElem_cons hb, List.take_succ_eq_append_getElem ha, List.set_cons_zero, List.append_assoc]
  rfl
theorem RdI.succ {S : Nat → Prop} {h : Heap} {s : Sl} {xs : List Int} (H : RdI S h s xs) {i : Int} (h0 : 0 ≤ i) (h1 : i < (xs.length : Int)) : w64 (i + 1) = i + 1 :=
  w64_succ (n := s.n) h0 (by have := H.len; omega) (RdV.big H)
theorem RdR.succ {S : Nat → Prop} {h : Heap} {s : Sl} {xss : List (List Int)} (H : RdR S h s xss) {i : Int} (h0 : 0 ≤ i) (h1 : i < (xss.length : Int)) : w64 (i + 1) = i + 1 :=
  w64_succ (n := s.n) h0 (by have := H.len; omega) H.big
theorem RdI.lt {S : Nat → Prop} {h : Heap} {s : Sl} {xs : List Int} (H : RdI S h s xs) {i : Int} (e : decide (i < (s.n : Int)) = true) : i < (xs.length : Int) := by have := H.len; simp at e; omega
theorem RdI.ge {S : Nat → Prop} {h : Heap} {s : Sl} {xs : List Int} (H : RdI S h s xs) {i : Int} (e : decide (i < (s.n : Int)) = false) : (xs.length : Int) ≤ i := by have := H.len; simp at e; omega
theorem RdR.lt {S : Nat → Prop} {h : Heap} {s : Sl} {xs : List (List Int)} (H : RdR S h s xs) {i : Int} (e : decide (i < (s.n : Int)) = true) : i < (xs.length : Int) := by have := H.len; simp at e; omega
theorem RdR.ge {S : Nat → Prop} {h : Heap} {s : Sl} {xs : List (List Int)} (H : RdR S h s xs) {i : Int} (e : decide (i < (s.n : Int)) = false) : (xs.length : Int) ≤ i := by have := H.len; simp at e; omega
theorem RdI.low {S : Nat → Prop} {h : Heap} {s : Sl} {xs : List Int} (H : RdI S h s xs) : RdI (fun k => k < h.size) h s xs := (RdV.lt H).mono fun _ h => h.2
theorem RdI.mono {S S' : Nat → Prop} {h : Heap} {s : Sl} {xs : List Int} (H : RdI S h s xs) (hS : ∀ k, S k → S' k) : RdI S' h s xs := RdV.mono H hS
theorem RdR.mono {S S' : Nat → Prop} {h : Heap} {s : Sl} {xss : List (List Int)} (H : RdR S h s xss) (hS : ∀ k, S k → S' k) : RdR S' h s xss :=
  let ⟨ss, h1, h2, h3⟩ := H.out; ⟨ss, h1, h2.mono hS, fun i a b => (h3 i a b).mono hS⟩
theorem RdR.low {S : Nat → Prop} {h : Heap} {s : Sl} {xss : List (List Int)} (H : RdR S h s xss) : RdR (fun k => k < h.size) h s xss :=
  let ⟨ss, h1, h2, h3⟩ := H.out; ⟨ss, h1, h2.lt.mono fun _ h => h.2, fun i a b => (h3 i a b).low⟩
/-- Read on, while only what is new turns. -/
theorem RdI.on {S T : Nat → Prop} {h a b : Heap} {s : Sl} {xs : List Int} (H : RdI S h s xs) (f : Fr No h a) (g : Fr T a b) (hT : ∀ k, T k → h.size ≤ k) : RdI (fun k => k < h.size) b s xs := (H.low.no f).fr g fun k hk hk2 => by have := hT k hk2; omega
theorem RdR.on {S T : Nat → Prop} {h a b : Heap} {s : Sl} {xss : List (List Int)} (H : RdR S h s xss) (f : Fr No h a) (g : Fr T a b) (hT : ∀ k, T k → h.size ≤ k) : RdR (fun k => k < h.size) b s xss := (H.low.no f).fr g fun k hk hk2 => by have := hT k hk2; omega
theorem RdR.lowS {S : Nat → Prop} {h : Heap} {s : Sl} {xss : List (List Int)} (H : RdR S h s xss) : RdR (fun k => S k ∧ k < h.size) h s xss :=
  let ⟨ss, h1, h2, h3⟩ := H.out; ⟨ss, h1, h2.lt, fun i a b => RdV.lt (h3 i a b)⟩
theorem Fr.fresh2 {T U : Nat → Prop} {a b c : Heap} (h : Fr T a b) (k : Fr U b c) (hU : ∀ k, U k → a.size ≤ k) : Fr T a c :=
  ⟨Nat.le_trans h.size k.size, fun i hi ht => (k.same i (Nat.lt_of_lt_of_le hi h.size) fun hu => by have := hU i hu; omega).trans (h.same i hi ht)⟩
end Go.Mx
