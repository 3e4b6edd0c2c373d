/-
  What each function that the law 'FnExactTreeByWalks' comes to does: the contracts.
-/
import Derived.Test.YtkjkfjkapbpgiaaTreeByWalksK0
set_option linter.unusedVariables false
set_option linter.unusedSimpArgs false
namespace Go.Proofs.Ytkjkfjkapbpgiaa
open Go Go.Mx
section
open Go.RowKit Go.Shelf
attribute [local go_sem] Oper.semAt_some
set_option maxRecDepth 100000 in
set_option maxHeartbeats 2000000 in
theorem vals1_in (F : Fence) (n : Nat) (h7 : F.fn 124) (hro : F.round = none) (hn : 1 ≤ n) (l Bs b off len cap : Nat) (zs : List Int) (hlen : len = zs.length) (hreach : len ≤ 1000000) (J : List Int → World → Prop)
    (hJ : ∀ pre W, J pre W → ∀ j, j < len → W.cell? ⟨b, off + j, none⟩ = some (.int .i64 (zs[j]?.getD 0)))
    (hY : ∀ pre x W, J pre W → pre.length < len → YieldAt F (n - 1) Try.prog l #[.int .i64 x] W fun e W' => e = .returned (.bool true) ∧ J (pre ++ [x]) W')
    (W : World) (hBs : W.cell? ⟨Bs, 0, none⟩ = some (.slice (some ⟨b, off, none⟩) len cap)) (h0 : J [] W) :
    CallsIn F n Try.prog 124 #[.func (.yield l) #[] #[], .pointer (some ⟨Bs, 0, none⟩)] W fun e W' => (∃ v, e = .returned v) ∧ J zs W' := by
  refine callsIn_of_wp Try.func124 rfl h7 ?_ hro
  simp only [Try.ntmps124, List.size_toArray, List.length_cons, List.length_nil, Nat.reduceAdd, Nat.reduceSub, Array.replicate_succ, Array.replicate_zero, List.push_toArray, List.append_toArray, List.nil_append, List.cons_append]
  gi_wp2
  gi_loopw [7] (fun i wr => ∃ k : Nat, k ≤ len ∧ i = .int .i64 k ∧ J (zs.take k) wr)
    (fun i _ => match i with | .int _ z => len - z.toNat | _ => 0)
  case atStart => exact ⟨0, Nat.zero_le _, rfl, by simpa using h0⟩
  case round =>
    obtain ⟨k, hk, rfl, hJs⟩ := hrel
    have hcx : k < len → wr.cell? ⟨b, off + k, none⟩ = some (.int .i64 (zs[k]?.getD 0)) := hJ _ _ hJs k
    have hkz : k < len → zs[k]?.getD 0 = zs[k]?.getD 0 := fun _ => rfl
    by_cases hlt : k < len
    · obtain ⟨fn, tmps, assign, body, hy, hR⟩ := hY _ (zs[k]'(by omega)) wr hJs (by simp; omega)
      have hcx' := hcx hlt
      gi_wp2
      refine hR.mono ?_
      rintro e W3 ⟨rfl, hJ3⟩
      gi_wp2
      go_roundw
      case rel => exact ⟨k + 1, by omega, by simp, by rw [List.take_succ_eq_append_getElem (by omega)]; exact hJ3⟩
      case measure => simp; omega
    · obtain rfl : k = len := by omega
      gi_wp2
      go_end0
      exact ⟨⟨_, rfl⟩, by rw [hlen, List.take_length] at hJs; exact hJs⟩
set_option maxRecDepth 100000 in
set_option maxHeartbeats 1000000 in
theorem vals1_nil (F : Fence) (n : Nat) (h7 : F.fn 124) (hro : F.round = none) (l Bs cap : Nat) (p : Option Addr) (J : List Int → World → Prop) (W : World) (hBs : W.cell? ⟨Bs, 0, none⟩ = some (.slice p 0 cap)) (h0 : J [] W) :
    CallsIn F n Try.prog 124 #[.func (.yield l) #[] #[], .pointer (some ⟨Bs, 0, none⟩)] W fun e W' => (∃ v, e = .returned v) ∧ J [] W' := by
  refine callsIn_of_wp Try.func124 rfl h7 ?_ hro
  simp only [Try.ntmps124, List.size_toArray, List.length_cons, List.length_nil, Nat.reduceAdd, Nat.reduceSub, Array.replicate_succ, Array.replicate_zero, List.push_toArray, List.append_toArray, List.nil_append, List.cons_append]
  gi_wp2
  gi_loopw [7] (fun i wr => i = .int .i64 0 ∧ J [] wr) (fun _ _ => 0)
  case atStart => exact ⟨rfl, h0⟩
  case round =>
    obtain ⟨rfl, hJs⟩ := hrel
    gi_wp2
    go_end0
    exact ⟨⟨_, rfl⟩, hJs⟩
end

section
open Go.RowKit Go.Shelf
def apA : Code := (Code.region 2 #[{ dst := some 5, op := Op.assign (Operand.tmp 7), type := 3, pos := "iter.go:51", after := #[], guard := none }] false)
def apB : Code := (Code.block 1 (Code.region 3 #[{ dst := some 8, op := Op.load 27 (Operand.tmp 2), type := 27, pos := "iter.go:52", after := #[], guard := none }, { dst := some 9, op := Op.move (Operand.tmp 5), type := 3, pos := "iter.go:52", after := #[], guard := none }, { dst := some 10, op := Op.buildSlice 27 1 #[(0, Operand.tmp 9)], type := 27, pos := "iter.go:52", after := #[{ on := 1, ground := Ground.data }], guard := none }, { dst := some 11, op := Op.call { callee := Callee.builtin Builtin.append, args := #[Operand.tmp 8, Operand.tmp 10], argTypes := #[27, 27] }, type := 27, pos := "iter.go:52", after := #[{ on := 0, ground := Ground.data }, { on := 2, ground := Ground.data }], guard := none }, { dst := none, op := Op.store 27 (Operand.tmp 2) (Operand.tmp 11), type := 0, pos := "iter.go:52", after := #[{ on := 3, ground := Ground.data }, { on := 3, ground := Ground.chain }, { on := 0, ground := Ground.phase }, { on := 1, ground := Ground.phase }, { on := 2, ground := Ground.phase }, { on := 3, ground := Ground.phase }], guard := none }] false))
def apR (fn : FuncId) (sv : Value) (Bs D : Nat) (st : LoopState) (pend : Option Code) : Loop :=
  { state := st, pending := pend, fn, tmps := #[.slice none 0 0, sv, .pointer (some ⟨Bs, 0, none⟩), undef, .slice none 0 0, undef, sv, undef, undef, undef, undef, undef, undef], params := #[7], assign := apA, body := apB, defers := D }
/-- Between two rounds. -/
structure ApAt (w0 : World) (fn : FuncId) (sv : Value) (Bs l D : Nat) (ss : List Int) (W : World) : Prop where
  box : ∃ v, W.heap[Bs]? = some (.cells #[v] 27 (0, 0)) ∧ W.ownsRow w0.heap.size 3 1 v ss.length (ss.map (Value.int .i64))
  L : W.heap[l]? = some (.loop (apR fn sv Bs D .ready none))
  K : W.heap[D]? = some (.deferred (some []))
  below : Below w0.heap.size w0 W
theorem apInfo : (Try.prog.info? 3).map (fun i => (i.zero, i.size, i.bytes)) = some (some (.int .i64 0), 1, 8) := by kernel_rfl
set_option maxRecDepth 100000 in
set_option maxHeartbeats 2000000 in
theorem apYield (F : Fence) (m : Nat) (w0 : World) (fn : FuncId) (hfn : F.fn fn) (sv : Value) (Bs l D : Nat) (hBl : Bs ≠ l) (hDl : D ≠ l) (hDB : D ≠ Bs) (h0B : w0.heap.size ≤ Bs) (h0l : w0.heap.size ≤ l)
    (N : Nat) (hN : N ≤ maxLen) (hNb : N * 8 ≤ 140737488355328) (ss : List Int) (x : Int) (W : World) (h : ApAt w0 fn sv Bs l D ss W) (hlen : ss.length < N) :
    YieldAt F m Try.prog l #[Value.int .i64 x] W fun e W' => e = .returned (.bool true) ∧ ApAt w0 fn sv Bs l D (ss ++ [x]) W' := by
  obtain ⟨i0, hi, hz0, hz1, hz2⟩ := info_parts apInfo
  obtain ⟨v, hv, hrow⟩ := h.box
  refine ⟨fn, #[.slice none 0 0, sv, .pointer (some ⟨Bs, 0, none⟩), undef, .slice none 0 0, undef, sv, Value.int .i64 x, undef, undef, undef, undef, undef], apA, apB, by simpa [apR] using run_yield (P := Try.prog) (args := #[Value.int .i64 x]) h.L rfl, roundIn_of_wpIn hfn ?_⟩
  have hl : l < W.heap.size := (Array.getElem?_eq_some_iff.1 h.L).1
  have hbr := run_beginRound (P := Try.prog) h.L rfl
  obtain ⟨W2, hW2⟩ : ∃ W2, W.putObj l (.loop { apR fn sv Bs D .ready none with state := .busy }) = W2 := ⟨_, rfl⟩
  rw [hW2] at hbr
  have hg2 : W.grownBy W2 (some l) := by rw [← hW2]; exact grownBy_putObj_a _ _ _
  have hv2 : W2.heap[Bs]? = some (.cells #[v] 27 (0, 0)) := by rw [← hW2]; exact (World.putObj_heap_other hBl).trans hv
  have hK2 : W2.heap[D]? = some (.deferred (some [])) := by rw [← hW2]; exact (World.putObj_heap_other hDl).trans h.K
  have hL2 : W2.heap[l]? = some (.loop { apR fn sv Bs D .ready none with state := .busy }) := by rw [← hW2]; exact World.putObj_heap_same hl
  have hrow2 : W2.ownsRow w0.heap.size 3 1 v ss.length (ss.map (Value.int .i64)) := hrow.kept hg2 (ownsRow_ne_a hrow h.L (fun cur e => by cases e))
  have hb2 : Below w0.heap.size w0 W2 := h.below.grown hg2 h.below.size (fun k e => by cases e; exact h0l)
  obtain ⟨hc2, hf2⟩ := cell_of_box_a hv2
  have hBlt : Bs < W2.heap.size := (Array.getElem?_eq_some_iff.1 hv2).1
  have hl2 : l < W2.heap.size := (Array.getElem?_eq_some_iff.1 hL2).1
  have hDlt : D < W2.heap.size := (Array.getElem?_eq_some_iff.1 hK2).1
  have ne_of : ∀ {j : Nat} {o : Obj}, W2.heap[j]? = some o → (∀ cur, o ≠ .cells cur 3 (0, 0)) → some j ≠ v.ownBlock := fun hj hno => by
    rcases ownsRow_ne_a hrow2 hj hno with e | e
    · rw [e]; simp
    · exact fun e' => e e'.symm
  clear hW2
  unfold apA
  gi_wp2_with gi_round_op_a
  unfold apB
  gi_wp2_with (first
    | (gi_at_builtin; refine wpListIn_append_own _ rfl _ _ 27 rfl w0.heap.size 3 i0 (.int .i64 0) 1 8 (by kernel_rfl) hi hz0 hz1 hz2 rfl (by decide) _ _ _ rfl (hrow2.alloc _) ⟨W2.heap.size, 0, none⟩ 1 1 [Value.int .i64 x] rfl rfl (cell_one_new _ _ _) (by simp [Value.oneCell']) (by omega) (by omega) (by have := hb2.size; simp; omega) ?_; intro v' w3 hown' hg3 hnil3
       have hv3 : w3.heap[Bs]? = some (.cells #[v] 27 (0, 0)) := (hg3.block Bs (by simp; omega) (ne_of hv2 (fun cur e => by cases e))).trans ((Below.heap_alloc _ _ Bs hBlt).trans hv2)
       obtain ⟨hc3, hf3⟩ := cell_of_box_a hv3
       obtain ⟨g', cap', cur', rfl, hbase', hgb', hr1, hr2, hr3, hr4⟩ : ∃ g' cap' cur', v' = .slice (some ⟨g', 0, none⟩) (ss.length + 1) cap' ∧ w0.heap.size ≤ g' ∧ w3.heap[g']? = some (.cells cur' 3 (0, 0)) ∧ ss.length + 1 ≤ cap' ∧ cap' ≤ maxLen ∧ cur'.size = cap' * 1 ∧ cur'.toList.take ((ss.length + 1) * 1) = ss.map (Value.int .i64) ++ [Value.int .i64 x] := by
         rcases hown'.2 with ⟨_, h0⟩ | h'
         · exact absurd h0 (by omega)
         · exact h'
       go_frame)
    | gi_round_op_a)
  have hg3' : (W2.alloc (.cells #[Value.int .i64 x] 3)).grownBy w3 v.ownBlock := hg3
  have hL3 : w3.heap[l]? = some (.loop { apR fn sv Bs D .ready none with state := .busy }) := (hg3'.block l (by simp; omega) (ne_of hL2 (fun cur e => by cases e))).trans ((Below.heap_alloc _ _ l hl2).trans hL2)
  have hK3 : w3.heap[D]? = some (.deferred (some [])) := (hg3'.block D (by simp; omega) (ne_of hK2 (fun cur e => by cases e))).trans ((Below.heap_alloc _ _ D hDlt).trans hK2)
  obtain ⟨w4, hw4⟩ : ∃ w4, w3.setCell ⟨Bs, 0, none⟩ (.slice (some ⟨g', 0, none⟩) (ss.length + 1) cap') = w4 := ⟨_, rfl⟩
  rw [hw4]
  have hg4 : w3.grownBy w4 (some Bs) := by rw [← hw4]; exact grownBy_setCell0_a _ _ _
  have hv4 : w4.heap[Bs]? = some (.cells #[.slice (some ⟨g', 0, none⟩) (ss.length + 1) cap'] 27 (0, 0)) := by rw [← hw4]; exact heap_setCell_box_a _ hv3
  have hL4 : w4.heap[l]? = some (.loop { apR fn sv Bs D .ready none with state := .busy }) := (hg4.block l (Array.getElem?_eq_some_iff.1 hL3).1 (fun e => hBl (by cases e; rfl))).trans hL3
  have hK4 : w4.heap[D]? = some (.deferred (some [])) := (hg4.block D (Array.getElem?_eq_some_iff.1 hK3).1 (fun e => hDB (by cases e; rfl))).trans hK3
  have hrow4 := hown'.kept hg4 (ownsRow_ne_a hown' hv3 (fun cur e => by cases e))
  have hl4 : l < w4.heap.size := (Array.getElem?_eq_some_iff.1 hL4).1
  have hb3 : Below w0.heap.size w0 w3 := (hb2.alloc hb2.size _).grown hg3' (by have := hb2.size; simp; omega) (fun k e => (hrow2.lt k e).1)
  have hb4 : Below w0.heap.size w0 w4 := hb3.grown hg4 hb3.size (fun k e => by cases e; exact h0B)
  clear hw4
  refine ⟨_, _, run_endRound none hL4, rfl, ⟨⟨_, (World.putObj_heap_other hBl).trans hv4, ?_⟩, World.putObj_heap_same hl4, (World.putObj_heap_other hDl).trans hK4, hb4.grown (grownBy_putObj_a _ _ _) hb4.size (fun k e => by cases e; exact h0l)⟩⟩
  have := hrow4.kept (grownBy_putObj_a w4 l (.loop { { apR fn sv Bs D .ready none with state := .busy } with state := if (none : Option Code).isNone then .ready else .done, pending := none })) (ownsRow_ne_a hrow4 hL4 (fun cur e => by cases e))
  simpa using this
set_option maxRecDepth 100000 in
set_option maxHeartbeats 2000000 in
theorem appendSeq_in (F : Fence) (n : Nat) (h11 : F.fn 136) (h7 : F.fn 124) (hro : F.round = none) (hn : 4 ≤ n) (Bv : Nat) (p : Option Addr) (len cap : Nat) (zs : List Int) (hlen : len = zs.length) (hreach : len ≤ 1000000) (w : World)
    (hBv : w.cell? ⟨Bv, 0, none⟩ = some (.slice p len cap)) (hBl : Bv < w.heap.size) (hz : zs = [] ∨ ∃ b off, p = some ⟨b, off, none⟩ ∧ b < w.heap.size ∧ ∀ j, j < len → w.cell? ⟨b, off + j, none⟩ = some (.int .i64 (zs[j]?.getD 0))) :
    CallsIn F n Try.prog 136 #[.slice none 0 0, .func (.func 124) #[] #[.pointer (some ⟨Bv, 0, none⟩)]] w fun e w' => ∃ v : Value, e = .returned v ∧ w'.ownsRow w.heap.size 3 1 v zs.length (zs.map (Value.int .i64)) ∧ Below w.heap.size w w' := by
  have h1 : 1 ≤ n := by omega
  refine callsIn_of_wp_marks Try.func136 rfl h11 ?_ hro
  simp only [Try.ntmps136, List.size_toArray, List.length_cons, List.length_nil, Nat.reduceAdd, Nat.reduceSub, Array.replicate_succ, Array.replicate_zero, List.push_toArray, List.append_toArray, List.nil_append, List.cons_append]
  gi_wp2
  refine wpIn_rangeFunc ?_
  intro fn hfn
  rw [hro]
  obtain ⟨sv, hsv⟩ : ∃ sv : Value, sv = .func (.func 124) #[] #[.pointer (some ⟨Bv, 0, none⟩)] := ⟨_, rfl⟩
  obtain ⟨W0, hW0⟩ : ∃ W0, w.alloc (.cells #[.slice none 0 0] 27) = W0 := ⟨_, rfl⟩
  have hs0 : W0.heap.size = w.heap.size + 1 := by rw [← hW0]; simp
  have hv0 : W0.heap[w.heap.size]? = some (.cells #[.slice none 0 0] 27 (0, 0)) := by rw [← hW0]; exact World.alloc_heap_new w _
  have hb0 : Below w.heap.size w W0 := by rw [← hW0]; exact (Below.refl _ w).alloc (Nat.le_refl _) _
  rw [hW0]
  obtain ⟨W1, hW1⟩ : ∃ W1, (W0.alloc (.deferred (some []))).alloc (.loop (apR fn sv w.heap.size W0.heap.size .ready none)) = W1 := ⟨_, rfl⟩
  have hold : ∀ k, k < W0.heap.size → W1.heap[k]? = W0.heap[k]? := fun k hk => by
    rw [← hW1]; exact (Below.heap_alloc _ _ k (by simp; omega)).trans (Below.heap_alloc _ _ k hk)
  have hb1 : Below w.heap.size w W1 := by rw [← hW1]; exact (hb0.alloc hb0.size _).alloc (by have := hb0.size; simp; omega) _
  have hs1 : W1.heap.size = W0.heap.size + 2 := by rw [← hW1]; simp
  have hM : ApAt w fn sv w.heap.size (W0.heap.size + 1) W0.heap.size [] W1 :=
    ⟨⟨_, (hold w.heap.size (by omega)).trans hv0, ⟨rfl, .inl ⟨rfl, rfl⟩⟩⟩,
     by rw [← hW1]; have := World.alloc_heap_new (W0.alloc (.deferred (some []))) (.loop (apR fn sv w.heap.size W0.heap.size .ready none)); rwa [World.size_alloc] at this,
     by rw [← hW1]; exact (Below.heap_alloc _ _ _ (by simp)).trans (World.alloc_heap_new W0 _), hb1⟩
  refine ⟨W0.heap.size + 1, [{ target := .collected W0.heap.size, args := #[] }], W1, { target := .fn (.func 124) #[.pointer (some ⟨Bv, 0, none⟩)], args := #[.func (.yield (W0.heap.size + 1)) #[] #[]] }, W1, 124,
    #[.func (.yield (W0.heap.size + 1)) #[] #[]] ++ #[.pointer (some ⟨Bv, 0, none⟩)], W1, ?_, ?_, ?_, ?_, fun _ => h1, ?_⟩
  · rw [← hW1, hsv]; exact run_enterLoop_outer _ _ _ _ _
  · simp [resolve, go_sem]
  · intro f' hf'; simp [Target.leads] at hf'; subst hf'; exact h7
  · simp [invoke, go_sem, enters_of Try.func124 (by kernel_rfl) rfl]
  · have hcB : ∀ W, Below w.heap.size w W → W.cell? ⟨Bv, 0, none⟩ = some (.slice p len cap) := fun W hW => (hW.cell (p := ⟨Bv, 0, none⟩) hBl).trans hBv
    have hgo : CallsIn F (n - 1) Try.prog 124 #[.func (.yield (W0.heap.size + 1)) #[] #[], .pointer (some ⟨Bv, 0, none⟩)] W1 fun e W' => (∃ v, e = .returned v) ∧ ApAt w fn sv w.heap.size (W0.heap.size + 1) W0.heap.size zs W' := by
      rcases hz with hz | ⟨b, off, rfl, hb, hc⟩
      · subst hz
        obtain rfl : len = 0 := by simpa using hlen
        exact vals1_nil F (n - 1) h7 hro _ Bv cap p _ W1 (hcB W1 hb1) hM
      · refine vals1_in F (n - 1) h7 hro (by omega) _ Bv b off len cap zs hlen hreach _ (fun pre W hW j hj => (hW.below.cell (p := ⟨b, off + j, none⟩) hb).trans (hc j hj)) (fun pre x W hJ hl => ?_) W1 (hcB W1 hb1) hM
        exact apYield F (n - 1 - 1) w fn hfn _ w.heap.size (W0.heap.size + 1) W0.heap.size (by omega) (by omega) (by omega) (Nat.le_refl _) (by omega) len (by simp only [maxLen]; omega) (by omega) pre x W hJ hl
    refine hgo.mono ?_
    rintro e W2 ⟨⟨v0, rfl⟩, h2⟩
    obtain ⟨v, hv, hrow⟩ := h2.box
    have hend := run_endLoop (P := Try.prog) h2.L (by simp [apR])
    obtain ⟨W3, hW3⟩ : ∃ W3, W2.putObj (W0.heap.size + 1) (.loop { apR fn sv w.heap.size W0.heap.size .ready none with state := .exhausted }) = W3 := ⟨_, rfl⟩
    rw [hW3] at hend
    have hg3 : W2.grownBy W3 (some (W0.heap.size + 1)) := by rw [← hW3]; exact grownBy_putObj_a _ _ _
    have hv3 : W3.heap[w.heap.size]? = some (.cells #[v] 27 (0, 0)) := by rw [← hW3]; exact (World.putObj_heap_other (by omega)).trans hv
    have hK3 : W3.heap[W0.heap.size]? = some (.deferred (some [])) := by rw [← hW3]; exact (World.putObj_heap_other (by omega)).trans h2.K
    have hrow3 := hrow.kept hg3 (ownsRow_ne_a hrow h2.L (fun cur e => by cases e))
    have hb3 : Below w.heap.size w W3 := h2.below.grown hg3 h2.below.size (fun k e => by cases e; omega)
    obtain ⟨hc3, hf3⟩ := cell_of_box_a hv3
    clear hW3
    refine ⟨none, W3, hend, ?_⟩
    gi_wp2
    rw [← hs0]
    refine ⟨by simp, .inl ⟨_, _, rfl, run_takeDeferred hK3, ?_⟩⟩
    exact ⟨_, results_tmp rfl _ _ _, v, rfl, hrow3.kept (grownBy_putObj_a _ _ _) (ownsRow_ne_a hrow3 hK3 (fun cur e => by cases e)), hb3.grown (grownBy_putObj_a _ _ _) hb3.size (fun k e => by cases e; omega)⟩
end
theorem k_AppendSeq {S : Nat → Prop} {h : Heap} {b : Nat} {s : Sl} {xs : List Int} (V : IsVar h b [s.v]) (H : RdI S h s xs) (hn : xs.length ≤ 1000000) (K : Value → Heap → Prop) (HK : ∀ t h', OwI h' (Iv h.size h'.size) t xs → Fr No h h' → K t.v h') : callM Try.prog 136 #[nilSl.v, .func (.func 124) #[] #[VP b 0]] h K := by
  refine ⟨fun w hw => .inr ⟨136, _, w, Go.Proofs.enters_of Try.func136 (by kernel_rfl) rfl _ _, rfl, ?_⟩⟩
  subst hw
  obtain ⟨T, hT⟩ := V
  have hb : b < w.heap.size := (Array.getElem?_eq_some_iff.1 hT).1
  have hl := H.len
  refine (callsIn_wide.1 (appendSeq_in Fence.wide 4 trivial trivial rfl (Nat.le_refl _) b s.a s.n s.c xs hl (by omega) w (by simp [World.cell?, hT]) hb ?_)).mono ?_
  · by_cases h0 : xs = []
    · exact .inl h0
    · have hpos : 0 < xs.length := List.length_pos_iff.2 h0
      obtain ⟨a, ha, _, hc⟩ := RdV.cell H 0 (by simpa using hpos)
      have hsp : a.spot = none := by
        cases hs : a.spot with
        | none => rfl
        | some sp => exfalso; unfold hcell at hc; simp [Addr.add, hs] at hc; split at hc <;> simp at hc
      obtain ⟨g, o, q⟩ := a
      simp only at hsp
      subst hsp
      refine .inr ⟨g, o, ha, ?_, fun j hj => ?_⟩
      · have := hcell_lt hc; rw [add_block] at this; exact this
      · obtain ⟨a', ha', _, hc'⟩ := RdV.cell H j (by simp; omega)
        rw [ha] at ha'
        cases ha'
        rw [add_mk] at hc'
        rw [cell_eq, hc']
        simp [List.getElem?_eq_getElem (show j < xs.length by omega)]
  · rintro e w' ⟨v, rfl, hrow, hbl⟩
    have hfr : Fr No w.heap w'.heap := ⟨hbl.size, fun k hk _ => hbl.block k hk⟩
    refine ⟨v, rfl, ⟨hbl.os, hbl.tape, hbl.output⟩, ?_⟩
    rcases hrow.2 with ⟨rfl, h0⟩ | ⟨g, cap, cur, rfl, hg, hgb, r1, r2, r3, r4⟩
    · have : xs = [] := List.eq_nil_of_length_eq_zero h0
      subst this
      exact HK nilSl _ (Ow.nil _ _ _ _) hfr
    · refine HK ⟨some ⟨g, 0, none⟩, xs.length, cap⟩ _ ⟨by simp, .inr ⟨g, 0, cur, rfl, ⟨hg, (Array.getElem?_eq_some_iff.1 hgb).1⟩, hgb, r1, r2, by simp [r3], by simpa using r4⟩⟩ hfr

/-! Sorted lists of places. -/
def SrtTo (ys : List Int) (i : Nat) : Prop := ∀ a b, a < b → b < i → ys.getD a 0 ≤ ys.getD b 0
def namesB (xs : List Int) (n : Int) : Bool := decide ((xs.length : Int) = n) && (xs.all (inR 0 (n - 1)) && decide xs.Nodup)
theorem getD_set' (ys : List Int) (j : Nat) (v : Int) (hj : j < ys.length) (b : Nat) : (ys.set j v).getD b 0 = if b = j then v else ys.getD b 0 := by
  rw [List.getD_eq_getElem?_getD, List.getElem?_set, List.getD_eq_getElem?_getD]
  by_cases h : j = b
  · subst h; rw [if_pos rfl, if_pos rfl]; simp [hj]
  · rw [if_neg h, if_neg (fun e => h e.symm)]

/-- In order up to i but for what stands at j, which is no more than what follows. -/
structure SrtAt (ys : List Int) (j i : Nat) : Prop where
  rest : ∀ a b, a < b → b ≤ i → a ≠ j → b ≠ j → ys.getD a 0 ≤ ys.getD b 0
  low : ∀ b, j < b → b ≤ i → ys.getD j 0 ≤ ys.getD b 0
theorem SrtTo.start {ys : List Int} {i : Nat} (h : SrtTo ys i) : SrtAt ys i i := ⟨fun a b h1 h2 h3 h4 => h a b h1 (by omega), fun b h1 h2 => by omega⟩
theorem SrtAt.stop {ys : List Int} {j i : Nat} (h : SrtAt ys j i) (hj : j = 0 ∨ ys.getD (j - 1) 0 ≤ ys.getD j 0) : SrtTo ys (i + 1) := by
  intro a b h1 h2
  by_cases ha : a = j
  · subst ha; exact h.low b h1 (by omega)
  by_cases hb : b = j
  · subst hb
    rcases hj with hj | hj
    · omega
    · by_cases e : a = b - 1
      · subst e; exact hj
      · have := h.rest a (b - 1) (by omega) (by omega) ha (by omega); omega
  · exact h.rest a b h1 (by omega) ha hb
theorem SrtAt.swap {ys : List Int} {j i : Nat} (h : SrtAt ys j i) (hj : 0 < j) (hl : j < ys.length) (hi : j ≤ i) (e : ys.getD j 0 < ys.getD (j - 1) 0) : SrtAt ((ys.set j (ys.getD (j - 1) 0)).set (j - 1) (ys.getD j 0)) (j - 1) i := by
  have g : ∀ b, ((ys.set j (ys.getD (j - 1) 0)).set (j - 1) (ys.getD j 0)).getD b 0 = if b = j - 1 then ys.getD j 0 else if b = j then ys.getD (j - 1) 0 else ys.getD b 0 := fun b => by
    rw [getD_set' _ _ _ (by simp; omega), getD_set' _ _ _ hl]
  refine ⟨fun a b h1 h2 h3 h4 => ?_, fun b h1 h2 => ?_⟩
  · rw [g, g, if_neg h3, if_neg h4]
    by_cases ha : a = j
    · subst ha
      rw [if_pos rfl, if_neg (by omega)]
      exact h.rest (a - 1) b (by omega) h2 (by omega) (by omega)
    · by_cases hb : b = j
      · subst hb
        rw [if_neg ha, if_pos rfl]
        exact h.rest a (b - 1) (by omega) (by omega) ha (by omega)
      · rw [if_neg ha, if_neg hb]; exact h.rest a b h1 h2 ha hb
  · rw [g, g, if_pos rfl, if_neg (by omega)]
    by_cases hb : b = j
    · subst hb; rw [if_pos rfl]; omega
    · rw [if_neg hb]; exact h.low b (by omega) h2

theorem k_LessI (x y : Int) (h : Heap) (K : Value → Heap → Prop) (HK : K (VB (decide (x < y))) h) : callM Try.prog 150 #[VI x, VI y] h K := by
  refine v150 x y h K (v162 x h _ ⟨_, rfl, .nil, fun e => ?_, fun _ => HK⟩)
  simp at e

theorem k_insertionSort {F : Nat → Prop} {h : Heap} {s : Sl} {xs : List Int} (H : OwI h F s xs) (hn : xs.length ≤ 12) (K : Value → Heap → Prop) (HK : ∀ h' ys, ys.Perm xs → SrtTo ys xs.length → OwI h' F s ys → Fr F h h' → K (.tuple #[]) h') : callM Try.prog 144 #[s.v, VI 0, VI (s.n : Int)] h K := by
  have hl : s.n = xs.length := RdI.len H.rdF
  refine v144 s 0 s.n h K ?_
  have hw : w64 (0 + 1) = 1 := w64_eq _ (by omega) (by omega)
  refine ⟨fun n i h' => ∃ ys, 1 ≤ i ∧ (i ≤ xs.length ∨ xs.length = 0) ∧ (n : Int) = 13 - i ∧ ys.Perm xs ∧ SrtTo ys i.toNat ∧ OwI h' F s ys ∧ Fr F h h', ⟨12, by rw [hw]; exact ⟨xs, by omega, by omega, by omega, .refl _, fun a b _ hb => by simp at hb; omega, H, Fr.refl _ _⟩⟩, ?_⟩
  rintro n i h1 ⟨ys, i0, i1, i2, p, so, o, f⟩ hL
  have yl := p.length_eq
  refine ⟨fun e => ?_, fun e => ?_⟩
  · simp only [decide_eq_true_eq] at e
    have hi : i < (xs.length : Int) := by omega
    refine ⟨fun m j h' => ∃ zs, 0 ≤ j ∧ j ≤ i ∧ (m : Int) = j ∧ zs.Perm xs ∧ SrtAt zs j.toNat i.toNat ∧ OwI h' F s zs ∧ Fr F h h', ⟨i.toNat, ys, by omega, by omega, by omega, p, so.start, o, f⟩, ?_⟩
    rintro m j h2 ⟨zs, j0, j1, j2, q, sa, o2, f2⟩ hL2
    have zl := q.length_eq
    have done : SrtTo zs (i.toNat + 1) → ∃ m, m < n ∧ (fun (n : Nat) (i : Int) (h' : Heap) => ∃ ys, 1 ≤ i ∧ (i ≤ xs.length ∨ xs.length = 0) ∧ (n : Int) = 13 - i ∧ ys.Perm xs ∧ SrtTo ys i.toNat ∧ OwI h' F s ys ∧ Fr F h h') m (w64 (i + 1)) h2 := fun hs => by
      rw [w64_eq _ (by omega) (by omega)]
      exact ⟨n - 1, by omega, zs, by omega, by omega, by omega, q, by rw [toNat_succ (by omega)]; exact hs, o2, f2⟩
    refine ⟨fun e2 => ?_, fun e2 => ?_⟩
    · simp only [decide_eq_true_eq] at e2
      rw [w64_eq _ (by omega) (by omega)]
      have R : RdI F h2 s zs := o2.rdF
      have hj : j < (zs.length : Int) := by omega
      refine ⟨R.inb j0 hj, _, R.get j0 hj, R.inb (by omega) (by omega), _, R.get (by omega) (by omega), k_LessI _ _ _ _ ⟨_, rfl, hL2, fun e3 => ?_, fun e3 => done (sa.stop (.inr ?_))⟩⟩
      · simp only [decide_eq_true_eq] at e3
        obtain ⟨w1, w2, w3⟩ := o2.store1 j0 (by omega) (VI (zs[(j - 1).toNat]'(by omega)))
        rw [← List.map_set] at w2
        obtain ⟨x1, x2, x3⟩ := Ow.store1 w2 (i := j - 1) (by omega) (by omega) (VI (zs[j.toNat]'(by omega)))
        rw [← List.map_set] at x2
        refine ⟨R.inb (by omega) (by omega), _, R.get (by omega) (by omega), R.inb j0 hj, _, R.get j0 hj, R.inb j0 hj, w1, .nil, ?_⟩
        rintro h4 rfl hL4
        refine ⟨R.inb (by omega) (by omega), x1, .nil, ?_⟩
        rintro h5 rfl hL5
        have g1 := getD_getI (xs := zs) (i := j.toNat) (by omega)
        have g2 := getD_getI (xs := zs) (i := (j - 1).toNat) (by omega)
        have ej : (j - 1).toNat = j.toNat - 1 := by omega
        refine ⟨m - 1, by omega, _, by omega, by omega, by omega, (List.set_set_perm (i := j.toNat) (j := (j - 1).toNat) (by omega) (by omega)).trans q, ?_, x2, f2.trans ((w3.trans x3).mono fun k _ hk => (o2.foot hk).1)⟩
        have := sa.swap (by omega) (by omega) (by omega) (by rw [← ej, g1, g2]; exact e3)
        rw [← ej, g1, g2] at this
        exact this
      · simp only [decide_eq_false_iff_not] at e3
        have g1 := getD_getI (xs := zs) (i := j.toNat) (by omega)
        have g2 := getD_getI (xs := zs) (i := (j - 1).toNat) (by omega)
        have ej : (j - 1).toNat = j.toNat - 1 := by omega
        rw [← ej, g1, g2]
        omega
    · simp only [decide_eq_false_iff_not] at e2
      exact done (sa.stop (.inl (by omega)))
  · simp only [decide_eq_false_iff_not] at e
    exact HK h1 ys p (fun a b h1 h2 => so a b h1 (by omega)) o f

theorem k_pdqsort {F : Nat → Prop} {h : Heap} {s : Sl} {xs : List Int} (H : OwI h F s xs) (hn : xs.length ≤ 12) (l : Int) (K : Value → Heap → Prop) (HK : ∀ h' ys, ys.Perm xs → SrtTo ys xs.length → OwI h' F s ys → Fr F h h' → K (.tuple #[]) h') : callM Try.prog 137 #[s.v, VI 0, VI (s.n : Int), VI l] h K := by
  have hl : s.n = xs.length := RdI.len H.rdF
  refine v137 s 0 s.n l h K ⟨fun n a b c d e h' => n = 0 ∧ a = 0 ∧ b = s.n ∧ h' = h, ⟨0, rfl, rfl, rfl, rfl⟩, ?_⟩
  rintro n a b c d e h' ⟨rfl, rfl, rfl, rfl⟩ hL
  refine ⟨fun _ => k_insertionSort H hn _ fun h' ys p q o f => ⟨.nil, HK h' ys p q o f⟩, fun e => ?_⟩
  rw [w64_eq _ (by omega) (by omega)] at e
  simp only [decide_eq_false_iff_not] at e
  omega

theorem pop_sidx {P : Program} {t : TypeId} (ht : P.underlying t = some .string) {K : Value → Prop} (k : IntKind) (s : ByteArray) (i : Int) (h0 : 0 ≤ i) (h1 : i.toNat < s.size) (H : K (.int .u8 (s[i.toNat]'h1).toNat)) : pop P (Instr.index t (.string s) (.int k i)) K :=
  .mk' (fun w => by
    have hu := run_underlying' ht w
    have e : s[i.toNat]? = some (s[i.toNat]'h1) := by simp [getElem?_pos s i.toNat h1]
    unfold Instr.index
    simp [asIntOf, go_sem, hu, h0, e]) H
set_option maxRecDepth 100000 in
theorem k_Len64 (x : Int) (h0 : 0 ≤ x) (h1 : x ≤ 12) (h : Heap) (K : Value → Heap → Prop) (HK : ∀ n, K (VI n) h) : callM Try.prog 154 #[Value.int .u64 x] h K := by
  refine v154 x h K ⟨fun a b h' => x = a ∧ h = h', ⟨fun e => by simp at e; omega, fun _ => ⟨rfl, rfl⟩⟩, ?_⟩
  rintro a b h1' ⟨rfl, rfl⟩ hL
  refine ⟨fun a b h' => x = a ∧ h = h', ⟨fun e => by simp at e; omega, fun _ => ⟨rfl, rfl⟩⟩, ?_⟩
  rintro a b h1' ⟨rfl, rfl⟩ hL
  refine ⟨fun a b h' => x = a ∧ h = h', ⟨fun e => by simp at e; omega, fun _ => ⟨rfl, rfl⟩⟩, ?_⟩
  rintro a b h1' ⟨rfl, rfl⟩ hL
  refine rop_conv (k := .u64) (k' := .u8) (by kernel_rfl) (by kernel_rfl) _ ⟨_, rfl, ?_⟩
  have hw : IntKind.u8.wrap x = x := by simp [IntKind.wrap, IntKind.bits, IntKind.signed]; omega
  rw [hw]
  refine pop_sidx (by kernel_rfl) _ _ x h0 (by show x.toNat < 256; omega) ⟨_, rfl, rop_conv (k := .u8) (k' := .i64) (by kernel_rfl) (by kernel_rfl) _ ⟨_, rfl, HK _⟩⟩

theorem k_SortI {F : Nat → Prop} {h : Heap} {s : Sl} {xs : List Int} (H : OwI h F s xs) (hn : xs.length ≤ 12) (K : Value → Heap → Prop) (HK : ∀ h' ys, ys.Perm xs → SrtTo ys xs.length → OwI h' F s ys → Fr F h h' → K (.tuple #[]) h') : callM Try.prog 123 #[s.v] h K := by
  have hl : s.n = xs.length := RdI.len H.rdF
  refine v123 s h K (rop_conv (k := .i64) (k' := .u64) (by kernel_rfl) (by kernel_rfl) _ ⟨_, rfl, ?_⟩)
  have hw : IntKind.u64.wrap (s.n : Int) = s.n := by simp [IntKind.wrap, IntKind.bits, IntKind.signed]; omega
  rw [hw]
  refine v138 _ h _ (k_Len64 _ (by omega) (by omega) _ _ fun n => ⟨n, rfl, .nil, n, rfl, .nil, ?_⟩)
  exact k_pdqsort H hn n _ fun h' ys p q o f => ⟨.nil, HK h' ys p q o f⟩

theorem k_SortedI {S : Nat → Prop} {h : Heap} {s : Sl} {xs : List Int} (H : RdI S h s xs) (hn : xs.length ≤ 12) (K : Value → Heap → Prop) (HK : ∀ t h' ys, ys.Perm xs → SrtTo ys xs.length → OwI h' (Iv h.size h'.size) t ys → Fr No h h' → K t.v h') {b : Nat} (V : IsVar h b [s.v]) : callM Try.prog 105 #[.func (.func 124) #[] #[VP b 0]] h K := by
  refine v105 _ h K (v122 _ h _ (k_AppendSeq V H (by omega) _ fun t h1 o1 f1 => ⟨t, rfl, .nil, t, rfl, .nil, ?_⟩))
  refine k_SortI o1 hn _ fun h2 ys p q o2 f2 => ⟨.nil, HK t h2 ys p q ?_ (f1.ivFresh f2 (Nat.le_refl _))⟩
  have := f2.size
  exact Ow.ivs o2 (Nat.le_refl _) this

theorem srt_ge {ys : List Int} (hs : SrtTo ys ys.length) (hnd : ys.Nodup) (h0 : ∀ y, y ∈ ys → 0 ≤ y) : ∀ i, i < ys.length → (i : Int) ≤ ys.getD i 0 := by
  intro i
  induction i with
  | zero => intro hi; exact h0 _ (by rw [getD_getI hi]; exact List.getElem_mem hi)
  | succ i ih =>
    intro hi
    have h1 := ih (by omega)
    have h2 := hs i (i + 1) (by omega) hi
    have h3 : ys.getD i 0 ≠ ys.getD (i + 1) 0 := fun e => by
      rw [getD_getI (by omega), getD_getI hi] at e
      unfold List.Nodup at hnd
      rw [List.pairwise_iff_getElem] at hnd
      exact hnd i (i + 1) (by omega) hi (by omega) e
    omega
theorem srt_le {ys : List Int} {n : Nat} (hn : ys.length = n) (hs : SrtTo ys ys.length) (hnd : ys.Nodup) (h0 : ∀ y, y ∈ ys → y ≤ (n : Int) - 1) : ∀ d i, i + d + 1 = n → ys.getD i 0 ≤ (i : Int) := by
  intro d
  induction d with
  | zero =>
    intro i hi
    have := h0 (ys.getD i 0) (by rw [getD_getI (by omega)]; exact List.getElem_mem _)
    omega
  | succ d ih =>
    intro i hi
    have h1 := ih (i + 1) (by omega)
    have h2 := hs i (i + 1) (by omega) (by omega)
    have h3 : ys.getD i 0 ≠ ys.getD (i + 1) 0 := fun e => by
      rw [getD_getI (by omega), getD_getI (by omega)] at e
      unfold List.Nodup at hnd
      rw [List.pairwise_iff_getElem] at hnd
      exact hnd i (i + 1) (by omega) (by omega) (by omega) e
    omega
theorem names_srt {xs ys : List Int} (p : ys.Perm xs) (hs : SrtTo ys xs.length) : (∀ i, i < ys.length → ys.getD i 0 = (i : Int)) ↔ (xs.all (inR 0 ((xs.length : Int) - 1)) && decide xs.Nodup) = true := by
  have hl := p.length_eq
  rw [← hl] at hs
  rw [Bool.and_eq_true, decide_eq_true_eq, List.all_eq_true]
  constructor
  · intro h
    refine ⟨fun x hx => ?_, p.nodup_iff.1 ?_⟩
    · obtain ⟨i, hi, e⟩ := List.getElem_of_mem (p.mem_iff.2 hx)
      have := h i hi
      rw [getD_getI hi, e] at this
      rw [inR_iff]
      omega
    · unfold List.Nodup
      rw [List.pairwise_iff_getElem]
      intro i j hi hj hij e
      have h1 := h i hi
      have h2 := h j hj
      rw [getD_getI hi] at h1
      rw [getD_getI hj] at h2
      omega
  · rintro ⟨h1, h2⟩ i hi
    have hnd := p.nodup_iff.2 h2
    have hr : ∀ y, y ∈ ys → 0 ≤ y ∧ y ≤ (xs.length : Int) - 1 := fun y hy => by
      have := h1 y (p.mem_iff.1 hy)
      rwa [inR_iff] at this
    have a := srt_ge hs hnd (fun y hy => (hr y hy).1) i hi
    have b := srt_le hl hs hnd (fun y hy => (hr y hy).2) (xs.length - 1 - i) i (by omega)
    omega
theorem k_areNames {S S' : Nat → Prop} {h : Heap} {g s : Sl} {xss : List (List Int)} {xs : List Int} (G : RdR S h g xss) (H : RdI S' h s xs) (hg : xss.length ≤ 12) (K : Value → Heap → Prop) (HK : ∀ h', Fr No h h' → K (VB (namesB xs xss.length)) h') : callM Try.prog 57 #[.agg #[g.v], s.v] h K := by
  refine v57 g s h K ⟨fun e b1 h1 hb1 f1 hL1 => ?_, fun e b1 h1 hb1 f1 hL1 => ?_⟩
  · have := HK h1 f1.in_nil
    rw [namesB, decide_eq_false, Bool.false_and] at this
    · exact this
    · have := not_t e; rw [G.len, H.len] at this; simpa using this
  have hl : xs.length = xss.length := by have := not_f e; rw [G.len, H.len] at this; simp at this; omega
  have f1 := f1.in_nil
  refine v106 s h1 _ fun b2 h2 hb2 f2 hL2 => ⟨_, rfl, hL1.of_no f2.in_nil, ?_⟩
  have f2 := f2.in_nil
  refine k_SortedI ((H.no f1).no f2) (by omega) _ (fun t h3 ys p q o3 f3 => ⟨t, rfl, (hL1.of_no f2).of_no f3, ?_⟩) hL2.head
  have f03 := (f1.no_trans f2).no_trans f3
  have pl := p.length_eq
  have R : RdI (Iv h2.size h3.size) h3 t ys := o3.rdF
  have key := names_srt p q
  have hkn : namesB xs xss.length = (xs.all (inR 0 ((xs.length : Int) - 1)) && decide xs.Nodup) := by
    rw [namesB, decide_eq_true (by omega), Bool.true_and, hl]
  refine ⟨fun n i h' => h' = h3 ∧ 0 ≤ i ∧ i + n = (ys.length : Int) ∧ ∀ j : Nat, (j : Int) < i → ys.getD j 0 = (j : Int), ⟨ys.length, rfl, by omega, by omega, fun j hj => by omega⟩, ?_⟩
  rintro n i h4 ⟨rfl, i0, i1, i2⟩ hL
  refine ⟨fun e => ?_, fun e => ?_⟩
  · have hi := R.lt e
    refine ⟨R.inb i0 hi, _, R.get i0 hi, fun e2 => ?_, fun e2 => ?_⟩
    · have := HK h4 f03
      rw [hkn] at this
      cases hb : (xs.all (inR 0 ((xs.length : Int) - 1)) && decide xs.Nodup) with
      | false => rw [hb] at this; exact this
      | true =>
        have := (key.2 hb) i.toNat (by omega)
        rw [getD_getI (by omega)] at this
        have e3 := not_t e2
        simp only [decide_eq_false_iff_not] at e3
        omega
    · have e3 := not_f e2
      simp only [decide_eq_true_eq] at e3
      rw [R.succ i0 hi]
      refine ⟨n - 1, by omega, rfl, by omega, by omega, fun j hj => ?_⟩
      by_cases h5 : (j : Int) < i
      · exact i2 j h5
      · have : j = i.toNat := by omega
        subst this
        rw [getD_getI (by omega)]
        omega
  · have hi := R.ge e
    have := HK h4 f03
    rw [hkn, key.1 fun j hj => i2 j (by omega)] at this
    exact this

theorem k_grNames {S : Nat → Prop} {h : Heap} {s : Sl} {xs : List Int} (H : RdI S h s xs) (n : Int) (h0 : 0 ≤ n) (h1 : n ≤ 1000) (K : Value → Heap → Prop) (HK : K (VB (namesB xs n)) h) : callM Try.prog 52 #[s.v, VI n] h K := by
  unfold namesB at HK
  refine v52 s n h K ⟨fun e => ?_, fun e => ?_⟩
  · have := not_t e; rw [H.len] at this
    simp only [decide_eq_false_iff_not] at this
    rw [decide_eq_false this, Bool.false_and] at HK; exact HK
  have e := not_f e
  rw [H.len] at e
  simp only [decide_eq_true_eq] at e
  rw [decide_eq_true e, Bool.true_and] at HK
  rw [w64_eq _ (by omega) (by omega)]
  refine k_spec_l1All H _ _ _ ⟨_, rfl, .nil, fun e2 => ?_, fun e2 => ?_⟩
  · rw [not_t e2, Bool.false_and] at HK; exact HK
  rw [not_f e2, Bool.true_and] at HK
  refine ⟨fun m i h' => h' = h ∧ 0 ≤ i ∧ i + m = (xs.length : Int) ∧ (xs.take i.toNat).Nodup, ⟨xs.length, rfl, by omega, by omega, by simp⟩, ?_⟩
  rintro m i h2 ⟨rfl, i0, i1, i2⟩ hL
  refine ⟨fun e3 => ?_, fun e3 => ?_⟩
  · have hi := H.lt e3
    have hnl := H.len
    have hnc := RdV.cap H
    refine ⟨H.inb i0 hi, _, H.get i0 hi, ?_⟩
    refine pop_cut_h rIs .i64 i0 (by omega) ⟨_, rfl, ?_⟩
    have c := RdI.cut H (l := 0) (m := i.toNat) (by omega) (by omega)
    simp only [List.drop_zero, Nat.sub_zero] at c
    refine k_l1Has c _ _ ⟨_, rfl, hL, fun e4 => ?_, fun e4 => ?_⟩
    · rw [decide_eq_false] at HK
      · exact HK
      · simp only [decide_eq_true_eq] at e4
        intro hnd
        obtain ⟨j, hj, ej⟩ := List.getElem_of_mem e4
        simp only [List.length_take] at hj
        rw [List.getElem_take] at ej
        unfold List.Nodup at hnd
        rw [List.pairwise_iff_getElem] at hnd
        exact hnd j i.toNat (by omega) (by omega) (by omega) ej
    · simp only [decide_eq_false_iff_not] at e4
      rw [H.succ i0 hi]
      refine ⟨m - 1, by omega, rfl, by omega, by omega, ?_⟩
      rw [take_snoc xs i0 hi, List.nodup_append]
      exact ⟨i2, by simp, fun a ha b hb e5 => by simp only [List.mem_cons, List.not_mem_nil, or_false] at hb; rw [hb] at e5; exact e4 (e5 ▸ ha)⟩
  · have hi := H.ge e3
    rw [List.take_of_length_le (by omega)] at i2
    rw [decide_eq_true i2] at HK
    exact HK

theorem Red.snoc {g T : List (List Int)} {c : List Int} (hc : Cyc g T c) : ∀ {n : Nat} {S : List (List Int)}, Red g n S T → Red g (n + 1) S (popP T c)
  | 0, S, h => by rw [show S = T from h]; exact ⟨c, hc, rfl⟩
  | n + 1, S, h => by obtain ⟨d, hd, hr⟩ := h; exact ⟨d, hd, Red.snoc hc hr⟩
theorem Red.along {g E T : List (List Int)} (hE : ∀ c, ¬ Cyc g E c) : ∀ {a n : Nat} {S : List (List Int)}, Red g n S E → Red g a S T → ∃ m, n = a + m ∧ Red g m T E
  | 0, n, S, h, ht => by rw [← show S = T from ht]; exact ⟨n, by omega, h⟩
  | a + 1, n, S, h, ht => by
    obtain ⟨c, hc, hr⟩ := ht
    obtain ⟨m, e, hm⟩ := h.after hE hc
    obtain ⟨k, e2, hk⟩ := Red.along hE hm hr
    exact ⟨k, by omega, hk⟩
theorem names_all {xs : List Int} {n : Nat} (h : namesB xs n = true) : xs.length = n ∧ (∀ x, x ∈ xs → 0 ≤ x ∧ x < (n : Int)) ∧ xs.Nodup ∧ ∀ i : Nat, i < n → (i : Int) ∈ xs := by
  unfold namesB at h
  rw [Bool.and_eq_true, decide_eq_true_eq] at h
  obtain ⟨hl, h2⟩ := h
  have hl : xs.length = n := by omega
  have h3 := h2
  rw [Bool.and_eq_true, decide_eq_true_eq, List.all_eq_true] at h3
  refine ⟨hl, fun x hx => ?_, h3.2, fun i hi => ?_⟩
  · have := h3.1 x hx
    rw [inR_iff] at this
    omega
  · have p := List.mergeSort_perm xs (fun a b => decide (a ≤ b))
    have q := List.pairwise_mergeSort (le := fun a b : Int => decide (a ≤ b)) (fun a b c => by simp; omega) (fun a b => by simp; omega) xs
    have so : SrtTo (xs.mergeSort fun a b => decide (a ≤ b)) xs.length := fun a b h1 h2 => by
      rw [List.pairwise_iff_getElem] at q
      have hb : b < (xs.mergeSort fun a b => decide (a ≤ b)).length := by rw [p.length_eq]; exact h2
      have := q a b (by omega) hb h1
      rw [getD_getI (by omega), getD_getI hb]
      simpa using this
    have hm := (names_srt p so).2 (by rw [hl]; exact h2) i (by rw [p.length_eq]; omega)
    have hi2 : i < (xs.mergeSort fun a b => decide (a ≤ b)).length := by rw [p.length_eq]; omega
    rw [getD_getI hi2] at hm
    rw [← hm]
    exact p.mem_iff.1 (List.getElem_mem hi2)

theorem nodup_le {xs : List Int} {n : Nat} (hn : xs.Nodup) (hr : ∀ x, x ∈ xs → 0 ≤ x ∧ x < (n : Int)) : xs.length ≤ n := by
  refine Nat.not_lt.1 fun h => ?_
  have hg : ∀ i, i ≤ n → xs.getD i 0 ∈ xs := fun i hi => getD_mem (by omega)
  obtain ⟨a, b, hab, hb, e⟩ := php n (fun i => (xs.getD i 0).toNat) fun i hi => by
    have := hr _ (hg i hi)
    (try simp only)
    omega
  have h1 := hr _ (hg a (by omega))
  have h2 := hr _ (hg b hb)
  have := nodup_getD hn (i := a) (j := b) (by omega) (by omega) (by (try simp only at e); omega)
  omega
theorem markL_snoc (x : Int) : ∀ (w : List Int) (I : List Bool), markL I (w ++ [x]) = (markL I w).set x.toNat true
  | [], I => rfl
  | y :: r, I => by rw [List.cons_append, markL, markL, markL_snoc x r]

theorem k_skPlace {S : Nat → Prop} {h : Heap} {s : Sl} {xs : List Int} (H : RdI S h s xs) (v : Int) (K : Value → Heap → Prop) (HN : v ∉ xs → K (VI (-1)) h) (HS : ∀ i : Nat, i < xs.length → xs.getD i 0 = v → K (VI i) h) : callM Try.prog 101 #[s.v, VI v] h K := by
  refine v101 s v h K ⟨fun n i h' => h' = h ∧ 0 ≤ i ∧ i + n = (xs.length : Int) ∧ ∀ j : Nat, (j : Int) < i → xs.getD j 0 ≠ v, ⟨xs.length, rfl, by omega, by omega, fun j hj => by omega⟩, ?_⟩
  rintro n i h1 ⟨rfl, i0, i1, i2⟩ hL
  refine ⟨fun e => ?_, fun e => ?_⟩
  · have hi := H.lt e
    refine ⟨H.inb i0 hi, _, H.get i0 hi, fun e2 => ?_, fun e2 => ?_⟩
    · simp only [decide_eq_true_eq] at e2
      have := HS i.toNat (by omega) (by rw [getD_getI (by omega)]; exact e2)
      rwa [show ((i.toNat : Nat) : Int) = i by omega] at this
    · simp only [decide_eq_false_iff_not] at e2
      rw [H.succ i0 hi]
      refine ⟨n - 1, by omega, rfl, by omega, by omega, fun j hj => ?_⟩
      by_cases h5 : (j : Int) < i
      · exact i2 j h5
      · have : j = i.toNat := by omega
        subst this
        rw [getD_getI (by omega)]
        exact e2
  · have hi := H.ge e
    refine HN fun hm => ?_
    obtain ⟨j, hj, e⟩ := List.getElem_of_mem hm
    exact i2 j (by omega) (by rw [getD_getI hj]; exact e)

set_option maxHeartbeats 4000000 in
theorem k_skWalks {S S' S2 : Nat → Prop} {h : Heap} {g s o : Sl} {xss ls : List (List Int)} {ord : List Int} {sink : Int} (G : RdR S h g xss) (H : RdR S' h s ls) (O : RdI S2 h o ord) (hB : stackB xss sink ls = true) (hN : namesB ord xss.length = true) (hE : (endP xss sink [] 201 0 ls).2.2 = true) (K : Value → Heap → Prop)
    (HK : ∀ t h', OwI h' (Iv h.size h'.size) t (topsP sink (endP xss sink [] 201 0 ls).1).1 → Fr No h h' → K (.tuple #[t.v, VI ((lenS ls xss.length : Int) - lenS (endP xss sink [] 201 0 ls).1 xss.length + xss.length - 1), VB true]) h') :
    callM Try.prog 54 #[.agg #[g.v], VI sink, .agg #[s.v], o.v] h K := by
  obtain ⟨W, hs0, hs1, hsl⟩ := stack_of hB
  obtain ⟨nl, nr, nd, na⟩ := names_all hN
  obtain ⟨kE, hk, hRE, _, hcE, htE⟩ := endP_red (cs := []) (by simp) 201 0 ls W hE
  have hWE := (endP_ok 201 0 ls W hE).1
  generalize hEE : (endP xss sink [] 201 0 ls).1 = E at *
  have hnE := normal_of hWE hcE
  have hgl := graph_len W.graph
  have hgn : xss.length ≤ 8 := by omega
  have hl := W.len
  have htot := W.tot
  refine v54 g sink s o h K fun b1 b2 h2 hb1 hb2 f2 hL2 => ?_
  have f2 := f2.in_nil
  have l2 : b2 < h2.size := hL2.head.lt
  have l1 : b1 < h2.size := hL2.tail.head.lt
  have z2 := f2.size
  refine k_skPop (H.no f2) (cyc := nilSl) (cs := []) (S' := No) (RdV.nil No h2 1) (by omega) (by simp) _ fun t h3 o3 f3 => ⟨t, rfl, hL2.of_no f3, fun h4 f4 hL4 => ?_⟩
  rw [popP_nil] at o3
  have f4 := f4.inIv (lo := h.size) (hi := h2.size) ⟨⟨hb2, l2⟩, trivial⟩
  have z3 := f3.size
  have z4 := f4.size
  have o4 := o3.iv f4 (.inr (Nat.le_refl _))
  have f04 : Fr No h h4 := (f2.no_trans f3).ivFresh f4 (Nat.le_refl _)
  refine eop_make rBs (fun k => h4.size ≤ k) (fun _ h => h) .i64 .i64 g.n g.n (Nat.le_refl _) (by rw [G.len]; omega) fun inn h5 n5 c5 o5 f5 m5 _ => ⟨inn, rfl, hL4.of_no f5, ?_⟩
  have o5 : Ow h5 (Iv h4.size h5.size) tB 1 inn ((List.replicate xss.length false).map VB) := by
    have e : (List.replicate g.n [VB false]).flatten = (List.replicate xss.length false).map VB := by rw [G.len]; simp [List.flatten_replicate_singleton]
    rw [e] at o5; exact Ow.toIv o5
  have z5 := f5.size
  have gl := G.len
  have hin : inn.n = xss.length := by omega
  obtain ⟨w1, w2, w3⟩ := o5.store1 hs0 (by omega) (VB true)
  have w3 : Fr (Iv h4.size h5.size) h5 _ := w3.mono fun k _ hk => (o5.foot hk).1
  rw [← List.map_set] at w2
  refine ⟨o5.inb hs0 (by omega), w1, (hL4.of_no f5).iv w3 ⟨.inl (by omega), .inl (by omega), trivial⟩, ?_⟩
  rintro h6 rfl hL6
  generalize hh6 : hset h5 (Sl.at inn sink 1) (VB true) = h6 at *
  have z6 := w3.size
  have f06 : Fr No h h6 := (f04.no_trans f5).ivFresh w3 (by omega)
  have iget : ∀ {h' : Heap} {I : List Bool}, Ow h' (Iv h4.size h5.size) tB 1 inn (I.map VB) → I.length = xss.length → ∀ {p : Int}, 0 ≤ p → p < (xss.length : Int) → InB inn p ∧ hcell h' (inn.at p 1) = some (VB (I.getD p.toNat false)) := fun {h' I} hI hIl {p} h0 h1 => by
    refine ⟨hI.inb h0 (by omega), ?_⟩
    rw [bget hI.rdF h0 (by omega), List.getD_eq_getElem?_getD, List.getElem?_eq_getElem (by omega)]
    rfl
  refine ⟨fun n st i x h' => ∃ (T : List (List Int)) (I : List Bool) (c : Nat) (Ex : Nat → Prop), 0 ≤ i ∧ i + n = (ord.length : Int) ∧ RdR Ex h' x T ∧ (∀ k, Ex k → ((h2.size ≤ k ∧ k < h4.size) ∨ h5.size ≤ k) ∧ k < h'.size) ∧ SOK xss T ∧ Red xss c ls T ∧ InOK xss T sink I ∧ I.length = xss.length ∧ Ow h' (Iv h4.size h5.size) tB 1 inn (I.map VB) ∧ I.getD sink.toNat false = true ∧ (∀ j : Nat, (j : Int) < i → I.getD (ord.getD j 0).toNat false = true) ∧ st = (lenS ls xss.length : Int) - lenS T xss.length + cntI I xss.length - 1 ∧ Fr No h h' ∧ h6.size ≤ h'.size,
    ⟨ord.length, ls, (List.replicate xss.length false).set sink.toNat true, 0, Iv h2.size h3.size, by omega, by omega, ((o4.no f5).iv w3 (.inl (by omega))).rdI, fun k hk => ⟨.inl ⟨hk.1, by have := hk.2; omega⟩, by have := hk.2; omega⟩, W, rfl, ?_, by simp, w2, ?_, fun j hj => by omega, ?_, f06, Nat.le_refl _⟩, ?_⟩
  · intro x h0 hx
    rw [set_getB] at hx
    have hf : (List.replicate xss.length false).getD x.toNat false = false := by
      rw [List.getD_eq_getElem?_getD, List.getElem?_replicate]; split <;> rfl
    rw [hf, Bool.false_or, Bool.and_eq_true, decide_eq_true_eq] at hx
    have ex : x = sink := by omega
    subst ex
    refine ⟨0, rfl, fun j hj => ?_⟩
    obtain rfl : j = 0 := by omega
    refine ⟨h0, ?_⟩
    show ((List.replicate xss.length false).set x.toNat true).getD x.toNat false = true
    rw [set_getB, hf, Bool.false_or, decide_eq_true rfl, Bool.true_and]
    exact hx.2
  · rw [set_getB, decide_eq_true rfl, Bool.true_and, decide_eq_true (by simp; omega), Bool.or_true]
  · have hf : ∀ m, cntI (List.replicate xss.length false) m = 0 := by
      intro m
      induction m with
      | zero => rfl
      | succ m ih => rw [cntI, ih, if_neg]; rw [List.getD_eq_getElem?_getD, List.getElem?_replicate]; split <;> simp
    rw [cntI_set (by rw [List.getD_eq_getElem?_getD, List.getElem?_replicate]; split <;> rfl) (by simp; omega), hf, if_pos (by omega)]
    omega
  rintro n st i x h7 ⟨T, I, c, Ex, i0, i1, rx, hEx, WT, hR, hI, hIl, oI, hIs, hIo, hst, f7, z7⟩ hL7
  have lenE := lenS_le (n := xss.length) (S := ls) (by omega)
  refine ⟨fun e => ?_, fun e => ?_⟩
  · have O7 := O.no f7
    have hi := O7.lt e
    have hp := nr _ (List.getElem_mem (show i.toNat < ord.length by omega))
    obtain ⟨ib, ic⟩ := iget oI hIl hp.1 hp.2
    refine ⟨O7.inb i0 hi, _, O7.get i0 hi, ib, _, ic, fun e2 => ?_, fun e2 => ?_⟩
    · rw [O7.succ i0 hi]
      refine ⟨n - 1, by omega, T, I, c, Ex, by omega, by omega, rx, hEx, WT, hR, hI, hIl, oI, hIs, fun j hj => ?_, hst, f7, z7⟩
      by_cases h5 : (j : Int) < i
      · exact hIo j h5
      · obtain rfl : j = i.toNat := by omega
        rw [getD_getI (by omega)]; exact e2
    generalize hst0 : ord[i.toNat]'(by omega) = start at *
    refine eop_lit rIs (fun k => h7.size ≤ k) (fun _ h => h) 1 (by omega) [VI start] rfl rfl fun way h8 n8 c8 o8 f8 m8 _ => ⟨way, rfl, hL7.of_no f8, ?_⟩
    have o8 : OwI h8 (fun k => h7.size ≤ k) way [start] := o8
    have z8 := f8.size
    refine ⟨fun m st2 way p x h' => ∃ (T2 : List (List Int)) (wy : List Int) (c2 : Nat) (Ex : Nat → Prop), RdR Ex h' x T2 ∧ (∀ k, Ex k → ((h2.size ≤ k ∧ k < h4.size) ∨ h5.size ≤ k) ∧ k < h'.size ∧ ¬ way.own k) ∧ SOK xss T2 ∧ Red xss c2 ls T2 ∧ InOK xss T2 sink I ∧ WayOK xss T2 I wy ∧ p = wy.getD (wy.length - 1) 0 ∧ wy.getD 0 0 = start ∧ OwI h' (fun k => h5.size ≤ k) way wy ∧ Ow h' (Iv h4.size h5.size) tB 1 inn (I.map VB) ∧ st2 = (lenS ls xss.length : Int) - lenS T2 xss.length + cntI I xss.length - 1 + (wy.length - 1) ∧ Fr No h h' ∧ h6.size ≤ h'.size ∧ m = lenS T2 xss.length * 20 + (20 - wy.length),
      ⟨_, T, [start], c, Ex, rx.no f8, fun k hk => ⟨(hEx k hk).1, by have := (hEx k hk).2; omega, fun hk2 => by have := (hEx k hk).2; have := (o8.foot hk2).1; omega⟩, WT, hR, hI, ⟨by simp, by simp, fun x hx => by simp only [List.mem_cons, List.not_mem_nil, or_false] at hx; rw [hx]; exact hp, fun i hi => by simp at hi, fun i hi => by simp at hi⟩, rfl, rfl, o8.mono fun k _ hk => by omega, Ow.no oI f8, by simp; omega, f7.no_trans f8, by omega, rfl⟩, ?_⟩
    rintro m st2 way p x h9 ⟨T2, wy, c2, Ex, rx, hEx, WT2, hR2, hI2, hW, hpe, hw0, oW, oI, hst2, f9, z9, hm⟩ hL9
    have wpos : 0 < wy.length := List.length_pos_iff.2 hW.ne
    have hpr := hW.rng _ (getD_mem (xs := wy) (i := wy.length - 1) (by omega))
    rw [← hpe] at hpr
    obtain ⟨ib, ic⟩ := iget oI hIl hpr.1 hpr.2
    have wlen : wy.length ≤ xss.length := by
      have := nodup_le hW.nodup hW.rng
      exact this
    have lenT : lenS T2 xss.length ≤ lenS ls xss.length := by have := (red_len W hR2).1; omega
    have cI := cntI_le I xss.length
    refine ⟨ib, _, ic, fun e3 => ?_, fun e3 => ?_⟩
    · have e3 := not_t e3
      have G9 := G.no f9
      refine k_skNext G9 rx WT2 hpr.1 hpr.2 _ fun h10 f10 => ⟨_, rfl, hL9.of_no f10, fun e4 => ?_, fun e4 => ?_⟩
      · -- a place without a top: it can't be
        exfalso
        simp only [decide_eq_true_eq] at e4
        obtain ⟨m', _, hm'⟩ := Red.along hnE hRE hR2
        have hne : (E.getD p.toNat []).length ≠ 0 := by
          have hl' := hWE.len
          refine ((tops_get htE).2 p.toNat (by omega)).2 fun e5 => ?_
          have : p = sink := by omega
          rw [this, hIs] at e3; cases e3
        obtain ⟨_, _, hm2, _, e5⟩ := sx_some WT2 hpr.1 hpr.2 (hm'.tops hne)
        have := ((graph_mem WT2.graph (List.getElem_mem (show p.toNat < xss.length by omega))).2 _ (List.getElem_mem hm2)).1
        omega
      simp only [decide_eq_false_iff_not] at e4
      generalize hq : sx xss T2 p = q at *
      have hq1 := (sx_lt WT2 hpr.2).2
      rw [hq] at hq1
      have z10 := f10.size
      have oW10 := Ow.no oW f10
      have oI10 := Ow.no oI f10
      have rx10 := rx.no f10
      have hpI : I.getD (wy.getD (wy.length - 1) 0).toNat false = false := by rw [← hpe]; exact e3
      have wn : way.n = wy.length := RdI.len oW.rdF
      refine k_skPlace (S := way.own) oW10.rd q _ (fun hnm => ⟨-1, rfl, hL9.of_no f10, fun e5 => by simp at e5, fun _ => ?_⟩) fun k hk hkq => ⟨_, rfl, hL9.of_no f10, fun _ => ?_, fun e5 => by simp at e5⟩
      · -- the way goes on
        refine eop_lit rIs (fun k => h10.size ≤ k) (fun _ h => h) 1 (by omega) [VI q] rfl rfl fun u h15 n15 c15 o15 f15 m15 _ => ⟨u, rfl, (hL9.of_no f10).of_no f15, ?_⟩
        have z15 := f15.size
        have o15 : RdI u.own h15 u [q] := o15.rd
        have un : u.n = 1 := o15.len
        refine eop_append rIs (Ow.no oW10 f15) (fun k hk => by omega) o15 (plainVI _) (by omega) fun y h16 n16 o16 f16 d16 => ?_
        rw [← List.map_append] at o16
        have z16 := f16.size
        have f16' : Fr (fun k => h5.size ≤ k) h15 h16 := f16.mono fun k _ hk => (oW.foot hk).1
        have wgrow := hW.grow hpI (by rw [← hpe]; exact hq) (by omega) hq1 hnm
        have wl2 := nodup_le wgrow.nodup wgrow.rng
        simp only [List.length_append, List.length_cons, List.length_nil] at wl2
        rw [w64_eq _ (by omega) (by omega)]
        refine ⟨y, rfl, ((hL9.of_no f10).of_no f15).fr f16' (fun p hp hk => by simp only [List.mem_cons, List.not_mem_nil, or_false] at hp; rcases hp with rfl | rfl <;> simp only at hk <;> omega), m - 1, by omega, T2, wy ++ [q], c2, Ex, ?_, fun k hk => ⟨(hEx k hk).1, by have := (hEx k hk).2.1; omega, fun hk2 => ?_⟩, WT2, hR2, hI2, wgrow, ?_, ?_, o16, ?_, by simp; omega, ?_, by omega, by simp; omega⟩
        · exact (rx10.no f15).fr f16 fun k hk hk2 => (hEx k hk).2.2 hk2
        · rcases d16 k hk2 with h1 | h1
          · exact (hEx k hk).2.2 h1
          · have := (hEx k hk).2.1; omega
        · rw [getD_getI (by simp)]; simp
        · rw [← hw0, getD_getI (by simp), getD_getI wpos, List.getElem_append_left]
        · exact (Ow.no oI10 f15).fr f16' fun k hk hk2 => by have := (oI10.foot hk).1.2; omega
        · exact ((f9.no_trans f10).no_trans f15).fresh f16' fun k hk => by omega
      · -- the way closes
        have hcy := hW.cyc hk (by rw [← hpe, hq, hkq])
        have hdn : (wy.drop k).Nodup := hW.nodup.sublist (List.drop_sublist _ _)
        have htop : ∀ x, x ∈ wy.drop k → 0 ≤ x ∧ x < (xss.length : Int) ∧ (T2.getD x.toNat []).length ≠ 0 := fun x hx => ⟨(hW.rng x (List.mem_of_mem_drop hx)).1, (hW.rng x (List.mem_of_mem_drop hx)).2, hcy.top hx⟩
        have hpop := lenS_pop hdn htop
        have hdl : (wy.drop k).length = wy.length - k := by simp
        have hT2l := WT2.len
        have cut1 := RdI.cut (S := way.own) oW10.rd (l := k) (m := wy.length) (by omega) (Nat.le_refl _)
        rw [show wy.length - k = (wy.drop k).length by omega, List.take_length] at cut1
        have wc : way.n ≤ way.c := (oW.cap).1
        refine pop_cut_l rIs .i64 (by omega) (by omega) ⟨_, rfl, ?_⟩
        rw [show ((k : Int)).toNat = k by omega, wn]
        refine k_skPop rx10 cut1 (by have := WT2.tot; omega) (fun x hx => by rw [hT2l]; exact htop x hx) _ fun t h12 o12 f12 => ⟨t, rfl, (hL9.of_no f10).of_no f12, ?_⟩
        rw [w64_eq ((k : Int) + 1) (by omega) (by omega)]
        refine pop_cut_h rIs .i64 (by omega) (by omega) ⟨_, rfl, fun h13 f13 hL13 => ?_⟩
        rw [show ((k : Int) + 1).toNat = k + 1 by omega]
        have f13 := f13.inIv (lo := h.size) (hi := h2.size) ⟨⟨hb2, l2⟩, trivial⟩
        have z12 := f12.size
        have z13 := f13.size
        have oW13 := (Ow.no oW10 f12).fr f13 fun k hk hk2 => by have := (oW.foot hk).1; have := hk2.2; omega
        have cut2 := RdI.cut (S := way.own) oW13.rd (l := 0) (m := k + 1) (by omega) (by omega)
        simp only [List.drop_zero, Nat.sub_zero] at cut2
        refine k_l1Own cut2 (by simp; omega) _ fun v h14 o14 f14 => ⟨v, rfl, hL13.of_no f14, ?_⟩
        have z14 := f14.size
        rw [w64_eq _ (by omega) (by omega)]
        have tl : (wy.take (k + 1)).length = k + 1 := by rw [List.length_take]; omega
        refine ⟨lenS (popP T2 (wy.drop k)) xss.length * 20 + (20 - (k + 1)), by omega, popP T2 (wy.drop k), wy.take (k + 1), c2 + 1, Iv h10.size h12.size, ((o12.iv f13 (by omega)).no f14).rdI, fun k hk => ⟨.inr (by have := hk.1; omega), by have := hk.2; omega, fun hk2 => by have := (o14.foot hk2).1.1; have := hk.2; omega⟩, WT2.pop _, hR2.snoc hcy, hI2.keep fun x hx => ?_, hW.close hk, ?_, ?_, o14.mono fun k _ hk => by have := hk.1; omega, ?_, by omega, ?_, by omega, by omega⟩
        · obtain ⟨j, hj, ej⟩ := List.getElem_of_mem hx
          rw [List.length_drop] at hj
          rw [List.getElem_drop] at ej
          by_cases h5 : k + j + 1 < wy.length
          · have := hW.out (k + j) h5
            rw [getD_getI (by omega), ej] at this
            exact this
          · have : k + j = wy.length - 1 := by omega
            have h6 : wy.getD (wy.length - 1) 0 = x := by rw [← this, getD_getI (by omega), ej]
            rw [← h6]; exact hpI
        · rw [tl, Nat.add_sub_cancel, getD_getI (by omega), List.getElem_take, ← getD_getI (xs := wy) (i := k) (by omega), hkq]
        · rw [← hw0, getD_getI (by omega), getD_getI wpos, List.getElem_take]
        · exact ((Ow.no oI10 f12).iv f13 (by omega)).no f14
        · exact ((((f9.no_trans f10).no_trans f12).ivFresh f13 (Nat.le_refl _)).no_trans f14)
    · -- the way is in
      have e3 := not_f e3
      have hpI : I.getD (wy.getD (wy.length - 1) 0).toNat false = true := by rw [← hpe]; exact e3
      have wn : way.n = wy.length := RdI.len oW.rdF
      refine ⟨fun m i h' => 0 ≤ i ∧ i + m = (wy.length : Int) ∧ Ow h' (Iv h4.size h5.size) tB 1 inn ((markL I (wy.take i.toNat)).map VB) ∧ Fr (Iv h4.size h5.size) h9 h', ⟨wy.length, by omega, by omega, by simpa [markL] using oI, Fr.refl _ _⟩, ?_⟩
      rintro m3 j h17 ⟨j0, j1, oJ, f17⟩ hL17
      have oW17 : OwI h17 (fun k => h5.size ≤ k) way wy := Ow.fr oW f17 fun k hk hk2 => by have := (oW.foot hk).1; have := hk2.2; omega
      have RW : RdI (fun k => h5.size ≤ k) h17 way wy := oW17.rdF
      have ml := markL_length (wy.take j.toNat) I
      refine ⟨fun e4 => ?_, fun e4 => ?_⟩
      · have hj := RW.lt e4
        have hr := hW.rng _ (List.getElem_mem (show j.toNat < wy.length by omega))
        obtain ⟨y1, y2, y3⟩ := oJ.store1 hr.1 (by omega) (VB true)
        have y3' : Fr (Iv h4.size h5.size) h17 _ := y3.mono fun k _ hk => (oJ.foot hk).1
        rw [← List.map_set] at y2
        refine ⟨RW.inb j0 hj, _, RW.get j0 hj, oJ.inb hr.1 (by omega), y1, hL17.iv y3' ⟨.inl (by omega), .inl (by omega), trivial⟩, ?_⟩
        rintro h18 rfl hL18
        rw [RW.succ j0 hj]
        refine ⟨m3 - 1, by omega, by omega, by omega, ?_, f17.trans y3'⟩
        rw [take_snoc wy j0 hj, markL_snoc]
        exact y2
      · have hj := RW.ge e4
        rw [List.take_of_length_le (by omega)] at oJ
        have ml := markL_length wy I
        have hmc := markL_cnt (n := xss.length) wy I hW.nodup hIl hW.rng hW.out hW.ne hpI
        have hm2 := markL_get wy I
        have zz := f17.size
        have hi' : i < (ord.length : Int) := by omega
        rw [w64_succ i0 hi' (by have := loopI O; simp only [maxLen] at *; omega)]
        have keep : ∀ p : Int, 0 ≤ p → p < (xss.length : Int) → I.getD p.toNat false = true → (markL I wy).getD p.toNat false = true := fun p h0 h1 hp => (hm2 p.toNat (fun x hx => (hW.rng x hx).1) (by omega)).2 (.inl hp)
        refine ⟨n - 1, by omega, T2, markL I wy, c2, Ex, by omega, by omega, rx.fr f17 fun k hk hk2 => ?_, fun k hk => ⟨(hEx k hk).1, by have := (hEx k hk).2.1; omega⟩, WT2, hR2, hI2.mark hW hIl hpI, by omega, oJ, keep _ hs0 hs1 hIs, fun a ha => ?_, by omega, f9.ivFresh f17 (by omega), by omega⟩
        · have h1 := hk2.1
          have h2 := hk2.2
          have := (hEx k hk).1
          omega
        · by_cases h5 : (a : Int) < i
          · have hr := nr _ (getD_mem (xs := ord) (i := a) (by omega))
            exact keep _ hr.1 hr.2 (hIo a h5)
          · obtain rfl : a = i.toNat := by omega
            rw [getD_getI (by omega), hst0]
            refine (hm2 start.toNat (fun x hx => (hW.rng x hx).1) (by omega)).2 (.inr ?_)
            rw [show ((start.toNat : Nat) : Int) = start by omega, ← hw0]
            exact getD_mem wpos
  · -- all are in
    have hi := (O.no f7).ge e
    have hall : ∀ i, i < xss.length → I.getD i false = true := fun k hk => by
      obtain ⟨j, hj, ej⟩ := List.getElem_of_mem (na k hk)
      have := hIo j (by omega)
      rw [getD_getI hj, ej] at this
      simpa using this
    have hTl := WT.len
    have hno := hI.done (by
      obtain ⟨_, b⟩ := hR.rest
      obtain ⟨k, ek⟩ := b sink.toNat
      rw [ek, List.length_drop]; omega) hall
    obtain ⟨_, eT⟩ := hRE.same hnE hR hno
    subst eT
    rw [cntI_all hall] at hst
    refine k_skTops (G.no f7) rx WT.len (by omega) sink _ fun u h8 o8 f8 => ⟨u, _, rfl, hL7.of_no f8, ?_⟩
    rw [htE, hst]
    have z8 := f8.size
    have := f7.size
    have := HK u h8 (o8.ivs (by omega) (Nat.le_refl _)) (f7.no_trans f8)
    rwa [show (lenS ls xss.length : Int) - lenS E xss.length + xss.length - 1 = (lenS ls xss.length : Int) - lenS E xss.length + xss.length - 1 from rfl] at this

/-! What walks make of stacks. -/
def walkTP (g : List (List Int)) (sink : Int) (S : List (List Int)) (ord : List Int) : List Int × Bool := if namesB ord g.length then treeP g sink S else ([], false)
def walkSP (g : List (List Int)) (sink : Int) (S : List (List Int)) (ord : List Int) : Int × Bool := if namesB ord g.length && (popsP g sink S).2 then ((popsP g sink S).1.sum + g.length - 1, true) else (0, false)
theorem walkTP_len (g : List (List Int)) (sink : Int) (S : List (List Int)) (ord : List Int) : (walkTP g sink S ord).1.length ≤ 104 := by
  unfold walkTP
  split
  · exact treeP_len g sink S
  · simp
theorem popped_no {g : List (List Int)} {sink : Int} {S : List (List Int)} (h : stackB g sink S = false) : poppedP g sink S [] = ([], 0, false) := by rw [popped_nil, h]; rfl
theorem popped_yes {g : List (List Int)} {sink : Int} {S : List (List Int)} (h : stackB g sink S = true) : poppedP g sink S [] = endP g sink [] 201 0 S := by rw [popped_nil, h]; rfl
theorem stackB_graph {g : List (List Int)} {sink : Int} {S : List (List Int)} (h : graphB g = false) : stackB g sink S = false := by unfold stackB; rw [h]; rfl
theorem diff_sum (S E : List (List Int)) : ∀ n, n ≤ S.length → n ≤ E.length → (diffL S E n).sum = (lenS S n : Int) - lenS E n
  | 0, _, _ => rfl
  | n + 1, h1, h2 => by
    rw [diffL, List.sum_append, diff_sum S E n (by omega) (by omega), lenS, lenS, getD_get (by omega), getD_get (by omega)]
    simp
    omega
theorem pops_sum {g : List (List Int)} {sink : Int} {S : List (List Int)} (hB : stackB g sink S = true) (hE : (endP g sink [] 201 0 S).2.2 = true) : (popsP g sink S).2 = true ∧ (popsP g sink S).1.sum = (lenS S g.length : Int) - lenS (endP g sink [] 201 0 S).1 g.length := by
  obtain ⟨W, _⟩ := stack_of hB
  have hW := (endP_ok 201 0 S W hE).1
  have h1 := W.len
  have h2 := hW.len
  unfold popsP
  rw [popped_yes hB, hE]
  simp only [if_true]
  rw [h1]
  exact ⟨trivial, diff_sum _ _ _ (by omega) (by omega)⟩

theorem k_spec_TreeByWalks {S S' S2 : Nat → Prop} {h : Heap} {g s o : Sl} {xss ls : List (List Int)} {ord : List Int} (G : RdR S h g xss) (H : RdR S' h s ls) (O : RdI S2 h o ord) (sink : Int) (K : Value → Heap → Prop) (HK : ∀ t h', OwI h' (Iv h.size h'.size) t (walkTP xss sink ls ord).1 → Fr No h h' → K (.tuple #[t.v, VB (walkTP xss sink ls ord).2]) h') : callM Try.prog 9 #[.agg #[g.v], VI sink, .agg #[s.v], o.v] h K := by
  refine v9 g sink s o h K fun b1 b2 h2 hb1 hb2 f2 hL2 => ?_
  have f2 := f2.in_nil
  have z2 := f2.size
  have no : ∀ h', Fr No h h' → walkTP xss sink ls ord = ([], false) → K (.tuple #[nilSl.v, VB false]) h' := fun h' f e => by
    have := HK nilSl h' (by rw [e]; exact Ow.nil _ _ _ _) f
    rw [e] at this; exact this
  refine k_skGood (G.no f2) (H.no f2) sink _ fun h3 f3 => ⟨_, rfl, hL2.of_no f3, fun e => ?_, fun e => ?_⟩
  · refine no _ (f2.no_trans f3) ?_
    unfold walkTP treeP
    rw [popped_no (not_t e)]
    split <;> rfl
  have hB := not_f e
  obtain ⟨W, _⟩ := stack_of hB
  have hgl := graph_len W.graph
  have f03 := f2.no_trans f3
  rw [G.len]
  refine k_grNames (O.no f03) _ (by omega) (by omega) _ ⟨_, rfl, hL2.of_no f3, fun e2 => ?_, fun e2 => ?_⟩
  · refine no _ f03 ?_
    unfold walkTP
    rw [not_t e2]; rfl
  have hN := not_f e2
  refine k_skEnd (G.no f03) (H.no f03) (ch := nilSl) (cs := []) (S2 := No) (RdV.nil No h3 1) W (by simp) sink _ fun x n h5 hx f5 => ⟨x, n, _, rfl, (hL2.of_no f3).of_no f5, fun e3 b3 h7 hb3 f7 hL7 => ?_, fun e3 b3 h7 hb3 f7 hL7 => ?_⟩
  · refine no _ ((f03.no_trans f5).no_trans f7.in_nil) ?_
    unfold walkTP treeP
    rw [hN, popped_yes hB, not_t e3]; rfl
  have f7 := f7.in_nil
  have f07 := (f03.no_trans f5).no_trans f7
  have hE := not_f e3
  have z7 := f07.size
  refine k_skWalks (G.no f07) (H.no f07) (O.no f07) hB hN hE _ fun t h8 o8 f8 => ⟨t, _, _, rfl, hL7.of_no f8, ?_⟩
  have hw : walkTP xss sink ls ord = topsP sink (endP xss sink [] 201 0 ls).1 := by
    unfold walkTP treeP
    rw [hN, popped_yes hB, hE]; rfl
  have ht : (topsP sink (endP xss sink [] 201 0 ls).1).2 = true := by
    obtain ⟨_, _, _, _, _, h⟩ := endP_red (cs := []) (by simp) 201 0 ls W hE
    exact h
  have := HK t h8 (by rw [hw]; exact o8.ivs (by omega) (Nat.le_refl _)) (f07.no_trans f8)
  rw [hw, ht] at this
  exact this

theorem k_TreeByWalks {S S' S2 : Nat → Prop} {h : Heap} {g s o : Sl} {xss ls : List (List Int)} {ord : List Int} (G : RdR S h g xss) (H : RdR S' h s ls) (O : RdI S2 h o ord) (sink : Int) (K : Value → Heap → Prop) (HK : ∀ t h', OwI h' (Iv h.size h'.size) t (walkTP xss sink ls ord).1 → Fr No h h' → K (.tuple #[t.v, VB (walkTP xss sink ls ord).2]) h') : callM Try.prog 13 #[.agg #[g.v], VI sink, .agg #[s.v], o.v] h K := by
  refine v13 g sink s o h K fun b1 b2 h2 hb1 hb2 f2 hL2 => ?_
  have f2 := f2.in_nil
  have z2 := f2.size
  have no : ∀ h', Fr No h h' → walkTP xss sink ls ord = ([], false) → K (.tuple #[nilSl.v, VB false]) h' := fun h' f e => by
    have := HK nilSl h' (by rw [e]; exact Ow.nil _ _ _ _) f
    rw [e] at this; exact this
  refine k_isGraph (G.no f2) _ fun h3 f3 => ⟨_, rfl, hL2.of_no f3, fun e => ?_, fun e => ?_⟩
  · refine no _ (f2.no_trans f3) ?_
    unfold walkTP treeP
    rw [popped_no (stackB_graph (not_t e))]
    split <;> rfl
  have hgl := graph_len (not_f e)
  have f03 := f2.no_trans f3
  refine k_areNames (G.no f03) (O.no f03) (by omega) _ fun h4 f4 => ⟨_, rfl, (hL2.of_no f3).of_no f4, fun e2 => ?_, fun e2 => ?_⟩
  · refine no _ (f03.no_trans f4) ?_
    unfold walkTP
    rw [not_t e2]; rfl
  have f04 := f03.no_trans f4
  have z4 := f04.size
  refine k_TreeOfStacks (G.no f04) (H.no f04) sink _ fun t h5 o5 f5 => ⟨t, _, rfl, ((hL2.of_no f3).of_no f4).of_no f5, ?_⟩
  have hw : walkTP xss sink ls ord = treeP xss sink ls := by unfold walkTP; rw [not_f e2]; rfl
  have := HK t h5 (by rw [hw]; exact o5.ivs (by omega) (Nat.le_refl _)) (f04.no_trans f5)
  rw [hw] at this
  exact this

set_option maxHeartbeats 4000000 in
theorem k_lawTreeByWalks {h : Heap} {S0 : Nat → Prop} {s0 : Sl} {x0 : List (List Int)} (G0 : RdR S0 h s0 x0) {S2 : Nat → Prop} {s2 : Sl} {x2 : List (List Int)} (G2 : RdR S2 h s2 x2) {S3 : Nat → Prop} {s3 : Sl} {x3 : List Int} (G3 : RdI S3 h s3 x3) (n1 : Int) : Ret Try.prog 3 #[.agg #[s0.v], VI n1, .agg #[s2.v], s3.v] h (VB true) := by
  intro K HK
  replace G0 := RdR.toIv G0
  replace G2 := RdR.toIv G2
  replace G3 := RdI.toIv G3
  have hlen_G3 := RdI.len G3
  have fz : Fr No h h := Fr.refl _ _
  have := walkTP_len x0 n1 x2 x3
  refine v3 s0 n1 s2 s3 h K ?_
  have hL : Vars h [] := .nil
  refine ⟨fun e => ?_, fun e => ?_⟩
  · intro b_1 b_2 h' _ _ ff _; exact HK _ (fz.no_trans ff.in_nil)
  (try simp only [decide_eq_false_iff_not] at e)
  intro b_1 b_2 h_2 hb_b_1 hb_b_2 f1 hL
  have lt_b_1 : b_1 < h_2.size := (hL.tail).head.lt
  have lt_b_2 : b_2 < h_2.size := (hL).head.lt
  replace f1 := f1.in_nil
  have z_f1 := f1.size
  replace G0 := RdR.no G0 f1
  replace G2 := RdR.no G2 f1
  replace G3 := RdI.no G3 f1
  replace fz := fz.no_trans f1
  refine g_szGraph G0 _ (by omega) (by omega) _ fun h_3 r2 f2 hr2 => ⟨r2, rfl, hL.of_no f2, ?_⟩
  replace hL := hL.of_no f2
  have z_f2 := f2.size
  replace G0 := RdR.no G0 f2
  replace G2 := RdR.no G2 f2
  replace G3 := RdI.no G3 f2
  replace fz := fz.no_trans f2
  refine ⟨fun e => ?_, fun e => ?_⟩
  · exact HK _ fz
  (try simp only [decide_eq_false_iff_not] at e)
  refine g_szStacks G2 _ (by omega) (by omega) _ fun h_4 r3 f3 hr3 => ⟨r3, rfl, hL.of_no f3, ?_⟩
  replace hL := hL.of_no f3
  have z_f3 := f3.size
  replace G0 := RdR.no G0 f3
  replace G2 := RdR.no G2 f3
  replace G3 := RdI.no G3 f3
  replace fz := fz.no_trans f3
  refine ⟨fun e => ?_, fun e => ?_⟩
  · exact HK _ fz
  (try simp only [decide_eq_false_iff_not] at e)
  refine g_toGraph G0 (by omega) _ fun u4_0 h_5 O4_0 f4 => ⟨u4_0, rfl, hL.of_no f4, ?_⟩
  replace hL := hL.of_no f4
  have z_f4 := f4.size
  replace G0 := RdR.no G0 f4
  replace G2 := RdR.no G2 f4
  replace G3 := RdI.no G3 f4
  replace fz := fz.no_trans f4
  refine g_toStacks G2 (by omega) _ fun u5_0 h_6 O5_0 f5 => ⟨u5_0, rfl, hL.of_no f5, ?_⟩
  replace hL := hL.of_no f5
  have z_f5 := f5.size
  replace G0 := RdR.no G0 f5
  replace G2 := RdR.no G2 f5
  replace G3 := RdI.no G3 f5
  replace O4_0 := OwR.no O4_0 f5
  replace fz := fz.no_trans f5
  refine g_toIntS G3 (by omega) _ fun u6_0 h_7 O6_0 f6 => ⟨u6_0, rfl, hL.of_no f6, ?_⟩
  replace hL := hL.of_no f6
  have z_f6 := f6.size
  replace G0 := RdR.no G0 f6
  replace G2 := RdR.no G2 f6
  replace G3 := RdI.no G3 f6
  replace O4_0 := OwR.no O4_0 f6
  replace O5_0 := OwR.no O5_0 f6
  replace fz := fz.no_trans f6
  refine k_spec_TreeByWalks (OwR.rdI O4_0) (OwR.rdI O5_0) (Ow.rdI O6_0) _ _ fun u7_0 h_8 O7_0 f7 => ⟨u7_0, _, rfl, hL.of_no f7, ?_⟩
  replace hL := hL.of_no f7
  have z_f7 := f7.size
  replace G0 := RdR.no G0 f7
  replace G2 := RdR.no G2 f7
  replace G3 := RdI.no G3 f7
  replace O4_0 := OwR.no O4_0 f7
  replace O5_0 := OwR.no O5_0 f7
  replace O6_0 := Ow.no O6_0 f7
  replace fz := fz.no_trans f7
  refine g_toGraph G0 (by omega) _ fun u8_0 h_9 O8_0 f8 => ⟨u8_0, rfl, hL.of_no f8, ?_⟩
  replace hL := hL.of_no f8
  have z_f8 := f8.size
  replace G0 := RdR.no G0 f8
  replace G2 := RdR.no G2 f8
  replace G3 := RdI.no G3 f8
  replace O4_0 := OwR.no O4_0 f8
  replace O5_0 := OwR.no O5_0 f8
  replace O6_0 := Ow.no O6_0 f8
  replace O7_0 := Ow.no O7_0 f8
  replace fz := fz.no_trans f8
  intro b_3 h_11 hb_b_3 f9 hL
  have lt_b_3 : b_3 < h_11.size := (hL).head.lt
  replace f9 := f9.in_nil
  have z_f9 := f9.size
  replace G0 := RdR.no G0 f9
  replace G2 := RdR.no G2 f9
  replace G3 := RdI.no G3 f9
  replace O4_0 := OwR.no O4_0 f9
  replace O5_0 := OwR.no O5_0 f9
  replace O6_0 := Ow.no O6_0 f9
  replace O7_0 := Ow.no O7_0 f9
  replace O8_0 := OwR.no O8_0 f9
  replace fz := fz.no_trans f9
  refine g_toStacks G2 (by omega) _ fun u10_0 h_12 O10_0 f10 => ⟨u10_0, rfl, hL.of_no f10, ?_⟩
  replace hL := hL.of_no f10
  have z_f10 := f10.size
  replace G0 := RdR.no G0 f10
  replace G2 := RdR.no G2 f10
  replace G3 := RdI.no G3 f10
  replace O4_0 := OwR.no O4_0 f10
  replace O5_0 := OwR.no O5_0 f10
  replace O6_0 := Ow.no O6_0 f10
  replace O7_0 := Ow.no O7_0 f10
  replace O8_0 := OwR.no O8_0 f10
  replace fz := fz.no_trans f10
  intro b_4 h_14 hb_b_4 f11 hL
  have lt_b_4 : b_4 < h_14.size := (hL).head.lt
  replace f11 := f11.in_nil
  have z_f11 := f11.size
  replace G0 := RdR.no G0 f11
  replace G2 := RdR.no G2 f11
  replace G3 := RdI.no G3 f11
  replace O4_0 := OwR.no O4_0 f11
  replace O5_0 := OwR.no O5_0 f11
  replace O6_0 := Ow.no O6_0 f11
  replace O7_0 := Ow.no O7_0 f11
  replace O8_0 := OwR.no O8_0 f11
  replace O10_0 := OwR.no O10_0 f11
  replace fz := fz.no_trans f11
  refine g_toIntS G3 (by omega) _ fun u12_0 h_15 O12_0 f12 => ⟨u12_0, rfl, hL.of_no f12, ?_⟩
  replace hL := hL.of_no f12
  have z_f12 := f12.size
  replace G0 := RdR.no G0 f12
  replace G2 := RdR.no G2 f12
  replace G3 := RdI.no G3 f12
  replace O4_0 := OwR.no O4_0 f12
  replace O5_0 := OwR.no O5_0 f12
  replace O6_0 := Ow.no O6_0 f12
  replace O7_0 := Ow.no O7_0 f12
  replace O8_0 := OwR.no O8_0 f12
  replace O10_0 := OwR.no O10_0 f12
  replace fz := fz.no_trans f12
  refine k_TreeByWalks (OwR.rdI O8_0) (OwR.rdI O10_0) (Ow.rdI O12_0) _ _ fun u13_0 h_16 O13_0 f13 => ⟨u13_0, _, rfl, hL.of_no f13, ?_⟩
  replace hL := hL.of_no f13
  have z_f13 := f13.size
  replace G0 := RdR.no G0 f13
  replace G2 := RdR.no G2 f13
  replace G3 := RdI.no G3 f13
  replace O4_0 := OwR.no O4_0 f13
  replace O5_0 := OwR.no O5_0 f13
  replace O6_0 := Ow.no O6_0 f13
  replace O7_0 := Ow.no O7_0 f13
  replace O8_0 := OwR.no O8_0 f13
  replace O10_0 := OwR.no O10_0 f13
  replace O12_0 := Ow.no O12_0 f13
  replace fz := fz.no_trans f13
  refine g_eqIntS (Ow.rdI O13_0) (Ow.rdI O7_0) _ fun h_17 f14 => ⟨_, rfl, hL.of_no f14, ?_⟩
  replace hL := hL.of_no f14
  have z_f14 := f14.size
  replace G0 := RdR.no G0 f14
  replace G2 := RdR.no G2 f14
  replace G3 := RdI.no G3 f14
  replace O4_0 := OwR.no O4_0 f14
  replace O5_0 := OwR.no O5_0 f14
  replace O6_0 := Ow.no O6_0 f14
  replace O7_0 := Ow.no O7_0 f14
  replace O8_0 := OwR.no O8_0 f14
  replace O10_0 := OwR.no O10_0 f14
  replace O12_0 := Ow.no O12_0 f14
  replace O13_0 := Ow.no O13_0 f14
  replace fz := fz.no_trans f14
  refine ⟨fun e => ?_, fun e => ?_⟩
  · first | (simp at e; done) | (simp only [decide_eq_true_eq] at e; omega)
  (try simp only [decide_eq_false_iff_not] at e)
  refine ⟨fun e => ?_, fun e => ?_⟩
  · first | (simp at e; done) | (simp only [decide_eq_true_eq] at e; omega)
  (try simp only [decide_eq_false_iff_not] at e)
  refine g_toGraph G0 (by omega) _ fun u15_0 h_18 O15_0 f15 => ⟨u15_0, rfl, hL.of_no f15, ?_⟩
  replace hL := hL.of_no f15
  have z_f15 := f15.size
  replace G0 := RdR.no G0 f15
  replace G2 := RdR.no G2 f15
  replace G3 := RdI.no G3 f15
  replace O4_0 := OwR.no O4_0 f15
  replace O5_0 := OwR.no O5_0 f15
  replace O6_0 := Ow.no O6_0 f15
  replace O7_0 := Ow.no O7_0 f15
  replace O8_0 := OwR.no O8_0 f15
  replace O10_0 := OwR.no O10_0 f15
  replace O12_0 := Ow.no O12_0 f15
  replace O13_0 := Ow.no O13_0 f15
  replace fz := fz.no_trans f15
  refine g_eqGraph (OwR.rdI O8_0) (OwR.rdI O15_0) _ fun h_19 f16 => ⟨_, rfl, hL.of_no f16, ?_⟩
  replace hL := hL.of_no f16
  have z_f16 := f16.size
  replace G0 := RdR.no G0 f16
  replace G2 := RdR.no G2 f16
  replace G3 := RdI.no G3 f16
  replace O4_0 := OwR.no O4_0 f16
  replace O5_0 := OwR.no O5_0 f16
  replace O6_0 := Ow.no O6_0 f16
  replace O7_0 := Ow.no O7_0 f16
  replace O8_0 := OwR.no O8_0 f16
  replace O10_0 := OwR.no O10_0 f16
  replace O12_0 := Ow.no O12_0 f16
  replace O13_0 := Ow.no O13_0 f16
  replace O15_0 := OwR.no O15_0 f16
  replace fz := fz.no_trans f16
  refine ⟨fun e => ?_, fun e => ?_⟩
  · first | (simp at e; done) | (simp only [decide_eq_true_eq] at e; omega)
  (try simp only [decide_eq_false_iff_not] at e)
  refine g_toStacks G2 (by omega) _ fun u17_0 h_20 O17_0 f17 => ⟨u17_0, rfl, hL.of_no f17, ?_⟩
  replace hL := hL.of_no f17
  have z_f17 := f17.size
  replace G0 := RdR.no G0 f17
  replace G2 := RdR.no G2 f17
  replace G3 := RdI.no G3 f17
  replace O4_0 := OwR.no O4_0 f17
  replace O5_0 := OwR.no O5_0 f17
  replace O6_0 := Ow.no O6_0 f17
  replace O7_0 := Ow.no O7_0 f17
  replace O8_0 := OwR.no O8_0 f17
  replace O10_0 := OwR.no O10_0 f17
  replace O12_0 := Ow.no O12_0 f17
  replace O13_0 := Ow.no O13_0 f17
  replace O15_0 := OwR.no O15_0 f17
  replace fz := fz.no_trans f17
  refine g_eqStacks (OwR.rdI O10_0) (OwR.rdI O17_0) _ fun h_21 f18 => ⟨_, rfl, hL.of_no f18, ?_⟩
  replace hL := hL.of_no f18
  have z_f18 := f18.size
  replace G0 := RdR.no G0 f18
  replace G2 := RdR.no G2 f18
  replace G3 := RdI.no G3 f18
  replace O4_0 := OwR.no O4_0 f18
  replace O5_0 := OwR.no O5_0 f18
  replace O6_0 := Ow.no O6_0 f18
  replace O7_0 := Ow.no O7_0 f18
  replace O8_0 := OwR.no O8_0 f18
  replace O10_0 := OwR.no O10_0 f18
  replace O12_0 := Ow.no O12_0 f18
  replace O13_0 := Ow.no O13_0 f18
  replace O15_0 := OwR.no O15_0 f18
  replace O17_0 := OwR.no O17_0 f18
  replace fz := fz.no_trans f18
  refine ⟨fun e => ?_, fun e => ?_⟩
  · first | (simp at e; done) | (simp only [decide_eq_true_eq] at e; omega)
  (try simp only [decide_eq_false_iff_not] at e)
  refine g_toIntS G3 (by omega) _ fun u19_0 h_22 O19_0 f19 => ⟨u19_0, rfl, hL.of_no f19, ?_⟩
  replace hL := hL.of_no f19
  have z_f19 := f19.size
  replace G0 := RdR.no G0 f19
  replace G2 := RdR.no G2 f19
  replace G3 := RdI.no G3 f19
  replace O4_0 := OwR.no O4_0 f19
  replace O5_0 := OwR.no O5_0 f19
  replace O6_0 := Ow.no O6_0 f19
  replace O7_0 := Ow.no O7_0 f19
  replace O8_0 := OwR.no O8_0 f19
  replace O10_0 := OwR.no O10_0 f19
  replace O12_0 := Ow.no O12_0 f19
  replace O13_0 := Ow.no O13_0 f19
  replace O15_0 := OwR.no O15_0 f19
  replace O17_0 := OwR.no O17_0 f19
  replace fz := fz.no_trans f19
  refine g_eqIntS (Ow.rdI O12_0) (Ow.rdI O19_0) _ fun h_23 f20 => ⟨_, rfl, hL.of_no f20, ?_⟩
  replace hL := hL.of_no f20
  have z_f20 := f20.size
  replace G0 := RdR.no G0 f20
  replace G2 := RdR.no G2 f20
  replace G3 := RdI.no G3 f20
  replace O4_0 := OwR.no O4_0 f20
  replace O5_0 := OwR.no O5_0 f20
  replace O6_0 := Ow.no O6_0 f20
  replace O7_0 := Ow.no O7_0 f20
  replace O8_0 := OwR.no O8_0 f20
  replace O10_0 := OwR.no O10_0 f20
  replace O12_0 := Ow.no O12_0 f20
  replace O13_0 := Ow.no O13_0 f20
  replace O15_0 := OwR.no O15_0 f20
  replace O17_0 := OwR.no O17_0 f20
  replace O19_0 := Ow.no O19_0 f20
  replace fz := fz.no_trans f20
  refine ⟨fun e => ?_, fun e => ?_⟩
  · first | (simp at e; done) | (simp only [decide_eq_true_eq] at e; omega)
  (try simp only [decide_eq_false_iff_not] at e)
  refine g_markGraph O8_0 (by omega) _ (by omega) (by omega) _ fun h_24 N21_0 f21 => ⟨_, rfl, hL.iv f21 ⟨show b_4 < h_8.size ∨ h_9.size ≤ b_4 by omega, show b_3 < h_8.size ∨ h_9.size ≤ b_3 by omega, show b_2 < h_8.size ∨ h_9.size ≤ b_2 by omega, show b_1 < h_8.size ∨ h_9.size ≤ b_1 by omega, trivial⟩, ?_⟩
  replace hL := hL.iv f21 ⟨show b_4 < h_8.size ∨ h_9.size ≤ b_4 by omega, show b_3 < h_8.size ∨ h_9.size ≤ b_3 by omega, show b_2 < h_8.size ∨ h_9.size ≤ b_2 by omega, show b_1 < h_8.size ∨ h_9.size ≤ b_1 by omega, trivial⟩
  have z_f21 := f21.size
  replace G0 := RdR.iv G0 f21 (by omega)
  replace G2 := RdR.iv G2 f21 (by omega)
  replace G3 := RdI.iv G3 f21 (by omega)
  replace O4_0 := OwR.iv O4_0 f21 (by omega)
  replace O5_0 := OwR.iv O5_0 f21 (by omega)
  replace O6_0 := Ow.iv O6_0 f21 (by omega)
  replace O7_0 := Ow.iv O7_0 f21 (by omega)
  replace O10_0 := OwR.iv O10_0 f21 (by omega)
  replace O12_0 := Ow.iv O12_0 f21 (by omega)
  replace O13_0 := Ow.iv O13_0 f21 (by omega)
  replace O15_0 := OwR.iv O15_0 f21 (by omega)
  replace O17_0 := OwR.iv O17_0 f21 (by omega)
  replace O19_0 := Ow.iv O19_0 f21 (by omega)
  replace fz := fz.ivFresh f21 (by omega)
  refine g_markStacks O10_0 (by omega) _ (by omega) (by omega) _ fun h_25 N22_0 f22 => ⟨_, rfl, hL.iv f22 ⟨show b_4 < h_11.size ∨ h_12.size ≤ b_4 by omega, show b_3 < h_11.size ∨ h_12.size ≤ b_3 by omega, show b_2 < h_11.size ∨ h_12.size ≤ b_2 by omega, show b_1 < h_11.size ∨ h_12.size ≤ b_1 by omega, trivial⟩, ?_⟩
  replace hL := hL.iv f22 ⟨show b_4 < h_11.size ∨ h_12.size ≤ b_4 by omega, show b_3 < h_11.size ∨ h_12.size ≤ b_3 by omega, show b_2 < h_11.size ∨ h_12.size ≤ b_2 by omega, show b_1 < h_11.size ∨ h_12.size ≤ b_1 by omega, trivial⟩
  have z_f22 := f22.size
  replace G0 := RdR.iv G0 f22 (by omega)
  replace G2 := RdR.iv G2 f22 (by omega)
  replace G3 := RdI.iv G3 f22 (by omega)
  replace O4_0 := OwR.iv O4_0 f22 (by omega)
  replace O5_0 := OwR.iv O5_0 f22 (by omega)
  replace O6_0 := Ow.iv O6_0 f22 (by omega)
  replace O7_0 := Ow.iv O7_0 f22 (by omega)
  replace O12_0 := Ow.iv O12_0 f22 (by omega)
  replace O13_0 := Ow.iv O13_0 f22 (by omega)
  replace O15_0 := OwR.iv O15_0 f22 (by omega)
  replace O17_0 := OwR.iv O17_0 f22 (by omega)
  replace O19_0 := Ow.iv O19_0 f22 (by omega)
  replace N21_0 := OwR.iv N21_0 f22 (by omega)
  replace fz := fz.ivFresh f22 (by omega)
  refine g_markIntS O12_0 (by omega) _ (by omega) (by omega) _ fun h_26 N23_0 f23 => ⟨_, rfl, hL.iv f23 ⟨show b_4 < h_14.size ∨ h_15.size ≤ b_4 by omega, show b_3 < h_14.size ∨ h_15.size ≤ b_3 by omega, show b_2 < h_14.size ∨ h_15.size ≤ b_2 by omega, show b_1 < h_14.size ∨ h_15.size ≤ b_1 by omega, trivial⟩, ?_⟩
  replace hL := hL.iv f23 ⟨show b_4 < h_14.size ∨ h_15.size ≤ b_4 by omega, show b_3 < h_14.size ∨ h_15.size ≤ b_3 by omega, show b_2 < h_14.size ∨ h_15.size ≤ b_2 by omega, show b_1 < h_14.size ∨ h_15.size ≤ b_1 by omega, trivial⟩
  have z_f23 := f23.size
  replace G0 := RdR.iv G0 f23 (by omega)
  replace G2 := RdR.iv G2 f23 (by omega)
  replace G3 := RdI.iv G3 f23 (by omega)
  replace O4_0 := OwR.iv O4_0 f23 (by omega)
  replace O5_0 := OwR.iv O5_0 f23 (by omega)
  replace O6_0 := Ow.iv O6_0 f23 (by omega)
  replace O7_0 := Ow.iv O7_0 f23 (by omega)
  replace O13_0 := Ow.iv O13_0 f23 (by omega)
  replace O15_0 := OwR.iv O15_0 f23 (by omega)
  replace O17_0 := OwR.iv O17_0 f23 (by omega)
  replace O19_0 := Ow.iv O19_0 f23 (by omega)
  replace N21_0 := OwR.iv N21_0 f23 (by omega)
  replace N22_0 := OwR.iv N22_0 f23 (by omega)
  replace fz := fz.ivFresh f23 (by omega)
  refine ⟨fun e => ?_, fun e => ?_⟩
  · first | (simp at e; done) | (simp only [decide_eq_true_eq] at e; omega)
  (try simp only [decide_eq_false_iff_not] at e)
  refine g_eqIntS (Ow.rdI O13_0) (Ow.rdI O7_0) _ fun h_27 f24 => ⟨_, rfl, hL.of_no f24, ?_⟩
  replace hL := hL.of_no f24
  have z_f24 := f24.size
  replace G0 := RdR.no G0 f24
  replace G2 := RdR.no G2 f24
  replace G3 := RdI.no G3 f24
  replace O4_0 := OwR.no O4_0 f24
  replace O5_0 := OwR.no O5_0 f24
  replace O6_0 := Ow.no O6_0 f24
  replace O7_0 := Ow.no O7_0 f24
  replace O13_0 := Ow.no O13_0 f24
  replace O15_0 := OwR.no O15_0 f24
  replace O17_0 := OwR.no O17_0 f24
  replace O19_0 := Ow.no O19_0 f24
  replace N21_0 := OwR.no N21_0 f24
  replace N22_0 := OwR.no N22_0 f24
  replace N23_0 := Ow.no N23_0 f24
  replace fz := fz.no_trans f24
  refine ⟨fun e => ?_, fun e => ?_⟩
  · first | (simp at e; done) | (simp only [decide_eq_true_eq] at e; omega)
  (try simp only [decide_eq_false_iff_not] at e)
  refine g_markIntS O13_0 (by omega) _ (by omega) (by omega) _ fun h_28 N25_0 f25 => ⟨_, rfl, hL.iv f25 ⟨show b_4 < h_15.size ∨ h_16.size ≤ b_4 by omega, show b_3 < h_15.size ∨ h_16.size ≤ b_3 by omega, show b_2 < h_15.size ∨ h_16.size ≤ b_2 by omega, show b_1 < h_15.size ∨ h_16.size ≤ b_1 by omega, trivial⟩, ?_⟩
  replace hL := hL.iv f25 ⟨show b_4 < h_15.size ∨ h_16.size ≤ b_4 by omega, show b_3 < h_15.size ∨ h_16.size ≤ b_3 by omega, show b_2 < h_15.size ∨ h_16.size ≤ b_2 by omega, show b_1 < h_15.size ∨ h_16.size ≤ b_1 by omega, trivial⟩
  have z_f25 := f25.size
  replace G0 := RdR.iv G0 f25 (by omega)
  replace G2 := RdR.iv G2 f25 (by omega)
  replace G3 := RdI.iv G3 f25 (by omega)
  replace O4_0 := OwR.iv O4_0 f25 (by omega)
  replace O5_0 := OwR.iv O5_0 f25 (by omega)
  replace O6_0 := Ow.iv O6_0 f25 (by omega)
  replace O7_0 := Ow.iv O7_0 f25 (by omega)
  replace O15_0 := OwR.iv O15_0 f25 (by omega)
  replace O17_0 := OwR.iv O17_0 f25 (by omega)
  replace O19_0 := Ow.iv O19_0 f25 (by omega)
  replace N21_0 := OwR.iv N21_0 f25 (by omega)
  replace N22_0 := OwR.iv N22_0 f25 (by omega)
  replace N23_0 := Ow.iv N23_0 f25 (by omega)
  replace fz := fz.ivFresh f25 (by omega)
  refine g_heldIntS (Ow.rdI N25_0) (by omega) (by omega) (by omega) _ fun h_29 f26 => ⟨_, rfl, hL.of_no f26, ?_⟩
  replace hL := hL.of_no f26
  have z_f26 := f26.size
  replace G0 := RdR.no G0 f26
  replace G2 := RdR.no G2 f26
  replace G3 := RdI.no G3 f26
  replace O4_0 := OwR.no O4_0 f26
  replace O5_0 := OwR.no O5_0 f26
  replace O6_0 := Ow.no O6_0 f26
  replace O7_0 := Ow.no O7_0 f26
  replace O15_0 := OwR.no O15_0 f26
  replace O17_0 := OwR.no O17_0 f26
  replace O19_0 := Ow.no O19_0 f26
  replace N21_0 := OwR.no N21_0 f26
  replace N22_0 := OwR.no N22_0 f26
  replace N23_0 := Ow.no N23_0 f26
  replace N25_0 := Ow.no N25_0 f26
  replace fz := fz.no_trans f26
  refine ⟨fun e => ?_, fun e => ?_⟩
  · first | (simp at e; done) | (simp only [decide_eq_true_eq] at e; omega)
  (try simp only [decide_eq_false_iff_not] at e)
  refine ⟨fun e => ?_, fun e => ?_⟩
  · first | (simp at e; done) | (simp only [decide_eq_true_eq] at e; omega)
  (try simp only [decide_eq_false_iff_not] at e)
  refine g_toGraph G0 (by omega) _ fun u27_0 h_30 O27_0 f27 => ⟨u27_0, rfl, hL.of_no f27, ?_⟩
  replace hL := hL.of_no f27
  have z_f27 := f27.size
  replace G0 := RdR.no G0 f27
  replace G2 := RdR.no G2 f27
  replace G3 := RdI.no G3 f27
  replace O4_0 := OwR.no O4_0 f27
  replace O5_0 := OwR.no O5_0 f27
  replace O6_0 := Ow.no O6_0 f27
  replace O7_0 := Ow.no O7_0 f27
  replace O15_0 := OwR.no O15_0 f27
  replace O17_0 := OwR.no O17_0 f27
  replace O19_0 := Ow.no O19_0 f27
  replace N21_0 := OwR.no N21_0 f27
  replace N22_0 := OwR.no N22_0 f27
  replace N23_0 := Ow.no N23_0 f27
  replace N25_0 := Ow.no N25_0 f27
  replace fz := fz.no_trans f27
  refine g_toStacks G2 (by omega) _ fun u28_0 h_31 O28_0 f28 => ⟨u28_0, rfl, hL.of_no f28, ?_⟩
  replace hL := hL.of_no f28
  have z_f28 := f28.size
  replace G0 := RdR.no G0 f28
  replace G2 := RdR.no G2 f28
  replace G3 := RdI.no G3 f28
  replace O4_0 := OwR.no O4_0 f28
  replace O5_0 := OwR.no O5_0 f28
  replace O6_0 := Ow.no O6_0 f28
  replace O7_0 := Ow.no O7_0 f28
  replace O15_0 := OwR.no O15_0 f28
  replace O17_0 := OwR.no O17_0 f28
  replace O19_0 := Ow.no O19_0 f28
  replace N21_0 := OwR.no N21_0 f28
  replace N22_0 := OwR.no N22_0 f28
  replace N23_0 := Ow.no N23_0 f28
  replace N25_0 := Ow.no N25_0 f28
  replace O27_0 := OwR.no O27_0 f28
  replace fz := fz.no_trans f28
  refine g_toIntS G3 (by omega) _ fun u29_0 h_32 O29_0 f29 => ⟨u29_0, rfl, hL.of_no f29, ?_⟩
  replace hL := hL.of_no f29
  have z_f29 := f29.size
  replace G0 := RdR.no G0 f29
  replace G2 := RdR.no G2 f29
  replace G3 := RdI.no G3 f29
  replace O4_0 := OwR.no O4_0 f29
  replace O5_0 := OwR.no O5_0 f29
  replace O6_0 := Ow.no O6_0 f29
  replace O7_0 := Ow.no O7_0 f29
  replace O15_0 := OwR.no O15_0 f29
  replace O17_0 := OwR.no O17_0 f29
  replace O19_0 := Ow.no O19_0 f29
  replace N21_0 := OwR.no N21_0 f29
  replace N22_0 := OwR.no N22_0 f29
  replace N23_0 := Ow.no N23_0 f29
  replace N25_0 := Ow.no N25_0 f29
  replace O27_0 := OwR.no O27_0 f29
  replace O28_0 := OwR.no O28_0 f29
  replace fz := fz.no_trans f29
  refine k_TreeByWalks (OwR.rdI O27_0) (OwR.rdI O28_0) (Ow.rdI O29_0) _ _ fun u30_0 h_33 O30_0 f30 => ⟨u30_0, _, rfl, hL.of_no f30, ?_⟩
  replace hL := hL.of_no f30
  have z_f30 := f30.size
  replace G0 := RdR.no G0 f30
  replace G2 := RdR.no G2 f30
  replace G3 := RdI.no G3 f30
  replace O4_0 := OwR.no O4_0 f30
  replace O5_0 := OwR.no O5_0 f30
  replace O6_0 := Ow.no O6_0 f30
  replace O7_0 := Ow.no O7_0 f30
  replace O15_0 := OwR.no O15_0 f30
  replace O17_0 := OwR.no O17_0 f30
  replace O19_0 := Ow.no O19_0 f30
  replace N21_0 := OwR.no N21_0 f30
  replace N22_0 := OwR.no N22_0 f30
  replace N23_0 := Ow.no N23_0 f30
  replace N25_0 := Ow.no N25_0 f30
  replace O27_0 := OwR.no O27_0 f30
  replace O28_0 := OwR.no O28_0 f30
  replace O29_0 := Ow.no O29_0 f30
  replace fz := fz.no_trans f30
  refine g_eqIntS (Ow.rdI O30_0) (Ow.rdI O7_0) _ fun h_34 f31 => ⟨_, rfl, hL.of_no f31, ?_⟩
  replace hL := hL.of_no f31
  have z_f31 := f31.size
  replace G0 := RdR.no G0 f31
  replace G2 := RdR.no G2 f31
  replace G3 := RdI.no G3 f31
  replace O4_0 := OwR.no O4_0 f31
  replace O5_0 := OwR.no O5_0 f31
  replace O6_0 := Ow.no O6_0 f31
  replace O7_0 := Ow.no O7_0 f31
  replace O15_0 := OwR.no O15_0 f31
  replace O17_0 := OwR.no O17_0 f31
  replace O19_0 := Ow.no O19_0 f31
  replace N21_0 := OwR.no N21_0 f31
  replace N22_0 := OwR.no N22_0 f31
  replace N23_0 := Ow.no N23_0 f31
  replace N25_0 := Ow.no N25_0 f31
  replace O27_0 := OwR.no O27_0 f31
  replace O28_0 := OwR.no O28_0 f31
  replace O29_0 := Ow.no O29_0 f31
  replace O30_0 := Ow.no O30_0 f31
  replace fz := fz.no_trans f31
  refine ⟨fun e => ?_, fun e => ?_⟩
  · first | (simp at e; done) | (simp only [decide_eq_true_eq] at e; omega)
  (try simp only [decide_eq_false_iff_not] at e)
  refine ⟨fun e => ?_, fun e => ?_⟩
  · first | (simp at e; done) | (simp only [decide_eq_true_eq] at e; omega)
  (try simp only [decide_eq_false_iff_not] at e)
  refine g_heldIntS (Ow.rdI N25_0) (by omega) (by omega) (by omega) _ fun h_35 f32 => ⟨_, rfl, hL.of_no f32, ?_⟩
  replace hL := hL.of_no f32
  have z_f32 := f32.size
  replace G0 := RdR.no G0 f32
  replace G2 := RdR.no G2 f32
  replace G3 := RdI.no G3 f32
  replace O4_0 := OwR.no O4_0 f32
  replace O5_0 := OwR.no O5_0 f32
  replace O6_0 := Ow.no O6_0 f32
  replace O7_0 := Ow.no O7_0 f32
  replace O15_0 := OwR.no O15_0 f32
  replace O17_0 := OwR.no O17_0 f32
  replace O19_0 := Ow.no O19_0 f32
  replace N21_0 := OwR.no N21_0 f32
  replace N22_0 := OwR.no N22_0 f32
  replace N23_0 := Ow.no N23_0 f32
  replace N25_0 := Ow.no N25_0 f32
  replace O27_0 := OwR.no O27_0 f32
  replace O28_0 := OwR.no O28_0 f32
  replace O29_0 := Ow.no O29_0 f32
  replace O30_0 := Ow.no O30_0 f32
  replace fz := fz.no_trans f32
  refine ⟨fun e => ?_, fun e => ?_⟩
  · first | (simp at e; done) | (simp only [decide_eq_true_eq] at e; omega)
  (try simp only [decide_eq_false_iff_not] at e)
  refine ⟨fun e => ?_, fun e => ?_⟩
  · first | (simp at e; done) | (simp only [decide_eq_true_eq] at e; omega)
  (try simp only [decide_eq_false_iff_not] at e)
  exact HK _ fz
end Go.Proofs.Ytkjkfjkapbpgiaa
