import Derived.Test.YtgiamamfnpklkaaRows
import Derived.Test.YtgiamamfnpklkaaHitsNearChancesK
import Derived.Test.YtgiamamfnpklkaaM5
set_option linter.unusedVariables false
set_option linter.unusedSimpArgs false
namespace Go.Proofs.Ytgiamamfnpklkaa.fnHitsNearChances
open Go Go.Mx
open Go.ChangeShapes Go.WideShapes Go.ChangeAt Go.RowKit
theorem trod_u8s {H : Type} {enc : TypeId × Value → H} {P : Program} {W : World} {base : Nat} {spare : Nat → Bool} {held : Bool} {t e : TypeId} {fuel : Nat} {cs : List Value} {x : DataW H × List MemPlace} (ht : P.underlying t = some (.slice e)) (he : P.underlying e = some (.int .u8)) (hce : P.cellsOf e = 1) (h : DataW.trod enc P W base spare held fuel t cs = some x) :
    ∃ (s : Sl) (vs : List Value), cs = [s.v] ∧ RdV (Low W.heap) W.heap 1 s vs ∧ ∀ v, v ∈ vs → ∃ m : Int, v = Value.int .u8 m ∧ 0 ≤ m ∧ m ≤ 255 := by
  rcases DataW.trod_slice ht h with ⟨rfl, _⟩ | ⟨a, len, cap, elems, rest, n, _, rfl, _, hb, hl, hm, hlen, hel, _⟩
  · exact ⟨nilSl, [], rfl, RdV.nil _ _ _, by simp⟩
  · have each : ∀ j, j < len → ∃ m : Int, W.cell? (a.add j) = some (.int .u8 m) ∧ 0 ≤ m ∧ m ≤ 255 := by
      intro j hj
      have h1 := hel j hj
      rw [hce, Nat.mul_one, List.getElem?_eq_getElem (show j < elems.length by omega), Option.bind_eq_some_iff] at h1
      obtain ⟨c, hc, hy⟩ := h1
      obtain ⟨m, rfl, _, hw⟩ := DataW.trod_int he hy
      simp only [Lit.wf, Bool.and_eq_true, decide_eq_true_eq] at hw
      have a0 : IntKind.u8.min = 0 := rfl
      have a1 : IntKind.u8.max = 255 := rfl
      rw [a0, a1] at hw
      exact ⟨m, cell_of_cells?_one hc, hw⟩
    have build : ∀ m, m ≤ len → ∃ vs : List Value, vs.length = m ∧ (∀ j (h1 : j < vs.length), W.cell? (a.add j) = some vs[j]) ∧ ∀ v, v ∈ vs → ∃ m : Int, v = Value.int .u8 m ∧ 0 ≤ m ∧ m ≤ 255 := by
      intro m
      induction m with
      | zero => intro _; exact ⟨[], rfl, fun j h1 => by simp at h1, by simp⟩
      | succ m ih =>
        intro hm2
        obtain ⟨vs, e1, hh, hv⟩ := ih (by omega)
        obtain ⟨y, c1, c2⟩ := each m (by omega)
        refine ⟨vs ++ [.int .u8 y], by simp [e1], fun j h1 => ?_, fun v hv' => ?_⟩
        · by_cases hj : j < m
          · rw [List.getElem_append_left (by omega)]
            exact hh j _
          · simp at h1
            obtain rfl : j = m := by omega
            rw [List.getElem_append_right (by omega)]
            simp only [e1, Nat.sub_self, List.getElem_cons_zero]
            exact c1
        · rcases List.mem_append.1 hv' with q | q
          · exact hv v q
          · simp only [List.mem_cons, List.not_mem_nil, or_false] at q
            exact ⟨y, q, c2⟩
    obtain ⟨vs, e1, hh, hv⟩ := build len (Nat.le_refl _)
    refine ⟨⟨some a, len, cap⟩, vs, rfl, ⟨by simp [e1], Nat.le_trans hl hm, hl, fun j hj => ?_⟩, hv⟩
    have := hh j hj
    refine ⟨a, rfl, ?_, ?_⟩
    · have := cells_lt this
      rwa [add_block] at this
    · rw [← cell_eq, this]
theorem own : ownKnob Try.prog.godebug = none := by kernel_rfl
theorem laidOut : laidOutB Try.prog = true := by kernel_rfl
set_option maxRecDepth 100000 in
theorem lifted (os : Os) (started : os.Started) (H : Type) (enc : TypeId × Value → H) :
    ReturnsInHanded {} Try.checked os 4 .any (Rows.fnHitsNearChancesSpec.pre6 enc Try.prog Try.f4 Rows.fnHitsNearChancesRow.domain false) (Rows.fnHitsNearChancesSpec.post enc Try.prog Try.f4 false true false false) := by
  refine returnsInHanded_of_change_sized (C := Try.checked) own started (by kernel_rfl) Try.func4
    (ChangeSpec.witness6 (enc := enc) (C := Try.checked) false ⟨#[], #[.slice none 0 0, .slice none 0 0], []⟩ 8 (by kernel_rfl) (by kernel_rfl) (by kernel_rfl) (by kernel_rfl)) ?_
  intro W base args ds gs before hval0 hW hcnd hsz0 _
  have hW' := hW
  obtain ⟨p, q, hA0, hV, rfl, hfz, hnd⟩ := hW
  have hA : DataW.TrodAll enc Try.prog W 0 (fun _ => true) true Try.f4.params.toList args.toList ds p := hA0
  rw [Try.params4] at hA
  replace hval0 : ∀ (j : Nat) t v, (Try.f4.params)[j]? = some t → args[j]? = some v → Value.okWide Try.prog W .any base t v := hval0
  rw [Try.params4] at hval0
  obtain ⟨v0, vs0, d0, ds0, p0, q0, hargs, rfl, rfl, h0, r0⟩ := trodAll_cons hA
  obtain ⟨v1, vs1, d1, ds1, p1, q1, rfl, rfl, rfl, h1, r1⟩ := trodAll_cons r0
  obtain ⟨rfl, rfl, rfl⟩ := trodAll_nil r1
  obtain rfl : args = #[v0, v1] := by cases args; simp_all
  obtain ⟨rfl, rfl⟩ := trodVars_none hV
  have k0 := h0
  have lt0 : ∀ x ∈ p0, x.block < W.heap.size := by obtain ⟨m, hm⟩ := k0; exact DataW.trod_lt m _ _ _ hm
  obtain ⟨fu0, hf0⟩ := h0
  obtain ⟨a0, l0, q0, rfl⟩ := okWide_slice (show Try.prog.underlying 22 = some (.slice 5) from by kernel_rfl) (hval0 0 22 v0 rfl rfl)
  replace hf0 : DataW.trod enc Try.prog W 0 (fun _ => true) true fu0 22 [.slice a0 l0 q0] = some _ := hf0
  obtain ⟨s0, x0, e0, R0, B0⟩ := trod_u8s (show Try.prog.underlying 22 = some (.slice 5) from by kernel_rfl) (show Try.prog.underlying 5 = some (.int .u8) from by kernel_rfl) (show Try.prog.cellsOf 5 = 1 from by kernel_rfl) hf0
  simp only [List.cons.injEq, Value.slice.injEq, and_true] at e0; obtain ⟨rfl, rfl, rfl⟩ := e0
  have k1 := h1
  have lt1 : ∀ x ∈ p1, x.block < W.heap.size := by obtain ⟨m, hm⟩ := k1; exact DataW.trod_lt m _ _ _ hm
  obtain ⟨fu1, hf1⟩ := h1
  obtain ⟨a1, l1, q1, rfl⟩ := okWide_slice (show Try.prog.underlying 22 = some (.slice 5) from by kernel_rfl) (hval0 1 22 v1 rfl rfl)
  replace hf1 : DataW.trod enc Try.prog W 0 (fun _ => true) true fu1 22 [.slice a1 l1 q1] = some _ := hf1
  obtain ⟨s1, x1, e1, R1, B1⟩ := trod_u8s (show Try.prog.underlying 22 = some (.slice 5) from by kernel_rfl) (show Try.prog.underlying 5 = some (.int .u8) from by kernel_rfl) (show Try.prog.cellsOf 5 = 1 from by kernel_rfl) hf1
  simp only [List.cons.injEq, Value.slice.injEq, and_true] at e1; obtain ⟨rfl, rfl, rfl⟩ := e1
  refine (calls_of_callM (K := fun v h' => Fr No W.heap h' ∧ v = .bool true) Try.func4 rfl rfl (k_lawHitsNearChances R0 B0 R1 B1 _ fun h' f => ⟨f, rfl⟩)).mono fun e W' ⟨v, he, hs, hf, hv⟩ => ?_
  subst he hv
  have bel := below_of hs hf
  exact ⟨_, rfl, _, _, _, [], _, [], hW', trodAll_mk1 (shut_bool Try.underlying4 _), (trodAll_cons_mk (Below.trod laidOut (by kernel_rfl) (of_decide_eq_true (by kernel_rfl)) k0 bel lt0) (trodAll_cons_mk (Below.trod laidOut (by kernel_rfl) (of_decide_eq_true (by kernel_rfl)) k1 bel lt1) trodAll_mk0)), rfl, bel.frame _, fun h => by cases h⟩
theorem over : Rows.fnHitsNearChancesRow.holds Try.pinned (OpenSpec.ofChange Rows.fnHitsNearChancesSpec) :=
  OpenClaim.holds_of_wide 4 Try.f4 rfl rfl rfl rfl rfl rfl rfl ⟨rfl, rfl, rfl, rfl, rfl⟩ rfl rfl rfl rfl rfl (by kernel_rfl) Try.func4 (by kernel_rfl)
    (of_decide_eq_true (by kernel_rfl)) (by unfold Func.isWrapper; first | (rw [if_pos (by decide +kernel)]; kernel_rfl) | (rw [if_neg (by decide +kernel)]; exact ⟨rfl, rfl⟩))
    (fun os started H enc _ => lifted os started H enc)
theorem proved : Rows.FnHitsNearChancesSaid := over
#print axioms proved
end Go.Proofs.Ytgiamamfnpklkaa.fnHitsNearChances
