/-
  PROVED: the row 'FnExactStepsByWalks': for every input the law returns true, and each argument reads behind the call as it read before. No condition.
-/
import Derived.Test.YtkjkfjkapbpgiaaRows
import Derived.Test.YtkjkfjkapbpgiaaStepsByWalksK
import Derived.Test.YtkjkfjkapbpgiaaM5
set_option linter.unusedVariables false
set_option linter.unusedSimpArgs false
namespace Go.Proofs.Ytkjkfjkapbpgiaa.fnExactStepsByWalks
open Go Go.Mx
open Go.ChangeShapes Go.WideShapes Go.ChangeAt Go.RowKit
theorem own : ownKnob Try.prog.godebug = none := by kernel_rfl
theorem laidOut : laidOutB Try.prog = true := by kernel_rfl
set_option maxRecDepth 100000 in
theorem lifted (os : Os) (started : os.Started) (H : Type) (enc : TypeId × Value → H) :
    ReturnsInHanded {} Try.checked os 4 .any (Rows.fnExactStepsByWalksSpec.pre6 enc Try.prog Try.f4 Rows.fnExactStepsByWalksRow.domain false) (Rows.fnExactStepsByWalksSpec.post enc Try.prog Try.f4 false true false false) := by
  refine returnsInHanded_of_change_sized (C := Try.checked) own started (by kernel_rfl) Try.func4
    (ChangeSpec.witness6 (enc := enc) (C := Try.checked) false ⟨#[], #[.agg #[.slice none 0 0], .int .i64 0, .agg #[.slice none 0 0], .slice none 0 0], []⟩ 8 (by kernel_rfl) (by kernel_rfl) (by kernel_rfl) (by kernel_rfl)) ?_
  intro W base args ds gs before hval0 hW hcnd hsz0 _
  have hW' := hW
  obtain ⟨p, q, hA0, hV, rfl, hfz, hnd⟩ := hW
  have hA : DataW.TrodAll enc Try.prog W 0 (fun _ => true) true Try.f4.params.toList args.toList ds p := hA0
  rw [Try.params4] at hA
  replace hval0 : ∀ (j : Nat) t v, (Try.f4.params)[j]? = some t → args[j]? = some v → Value.okWide Try.prog W .any base t v := hval0
  rw [Try.params4] at hval0
  obtain ⟨v0, vs0, d0, ds0, p0, q0, hargs, rfl, rfl, h0, r0⟩ := trodAll_cons hA
  obtain ⟨v1, vs1, d1, ds1, p1, q1, rfl, rfl, rfl, h1, r1⟩ := trodAll_cons r0
  obtain ⟨v2, vs2, d2, ds2, p2, q2, rfl, rfl, rfl, h2, r2⟩ := trodAll_cons r1
  obtain ⟨v3, vs3, d3, ds3, p3, q3, rfl, rfl, rfl, h3, r3⟩ := trodAll_cons r2
  obtain ⟨rfl, rfl, rfl⟩ := trodAll_nil r3
  obtain rfl : args = #[v0, v1, v2, v3] := by cases args; simp_all
  obtain ⟨rfl, rfl⟩ := trodVars_none hV
  have k0 := h0
  have lt0 : ∀ x ∈ p0, x.block < W.heap.size := by obtain ⟨m, hm⟩ := k0; exact DataW.trod_lt m _ _ _ hm
  obtain ⟨fu0, hf0⟩ := h0
  obtain ⟨a0, rfl⟩ := okWide_agg (show isStruct Try.prog 24 = true from by kernel_rfl) (hval0 0 24 v0 rfl rfl)
  have hl0 := trod_len (show isStruct Try.prog 24 = true from by kernel_rfl) (show Try.prog.cellsOf 24 = 1 from by kernel_rfl) hf0
  obtain ⟨c0_0, ha0⟩ := len1 _ hl0
  obtain rfl : a0 = #[c0_0] := Array.ext' ha0
  replace hf0 : DataW.trod enc Try.prog W 0 (fun _ => true) true fu0 24 [c0_0] = some _ := hf0
  obtain ⟨_, _, g_1⟩ := trod_fld (i := 0) (show fieldT Try.prog 24 0 = some (22, 0, 1) from by kernel_rfl) hf0
  replace g_1 : DataW.trod enc Try.prog W 0 (fun _ => true) true _ 22 [c0_0] = some _ := g_1
  obtain ⟨s_2, x_3, e_4, R_5⟩ := trod_rows (show Try.prog.underlying 22 = some (.slice 27) from by kernel_rfl) (show Try.prog.underlying 27 = some (.slice 3) from by kernel_rfl) (show Try.prog.underlying 3 = some (.int .i64) from by kernel_rfl) (show Try.prog.cellsOf 27 = 1 from by kernel_rfl) (show Try.prog.cellsOf 3 = 1 from by kernel_rfl) g_1
  obtain rfl : c0_0 = s_2.v := by simpa using e_4
  have k1 := h1
  have lt1 : ∀ x ∈ p1, x.block < W.heap.size := by obtain ⟨m, hm⟩ := k1; exact DataW.trod_lt m _ _ _ hm
  obtain ⟨fu1, hf1⟩ := h1
  obtain ⟨n1, rfl⟩ := okWide_int (show Try.prog.underlying 3 = some (.int .i64) from by kernel_rfl) (hval0 1 3 v1 rfl rfl)
  have k2 := h2
  have lt2 : ∀ x ∈ p2, x.block < W.heap.size := by obtain ⟨m, hm⟩ := k2; exact DataW.trod_lt m _ _ _ hm
  obtain ⟨fu2, hf2⟩ := h2
  obtain ⟨a2, rfl⟩ := okWide_agg (show isStruct Try.prog 26 = true from by kernel_rfl) (hval0 2 26 v2 rfl rfl)
  have hl2 := trod_len (show isStruct Try.prog 26 = true from by kernel_rfl) (show Try.prog.cellsOf 26 = 1 from by kernel_rfl) hf2
  obtain ⟨c2_0, ha2⟩ := len1 _ hl2
  obtain rfl : a2 = #[c2_0] := Array.ext' ha2
  replace hf2 : DataW.trod enc Try.prog W 0 (fun _ => true) true fu2 26 [c2_0] = some _ := hf2
  obtain ⟨_, _, g_6⟩ := trod_fld (i := 0) (show fieldT Try.prog 26 0 = some (22, 0, 1) from by kernel_rfl) hf2
  replace g_6 : DataW.trod enc Try.prog W 0 (fun _ => true) true _ 22 [c2_0] = some _ := g_6
  obtain ⟨s_7, x_8, e_9, R_10⟩ := trod_rows (show Try.prog.underlying 22 = some (.slice 27) from by kernel_rfl) (show Try.prog.underlying 27 = some (.slice 3) from by kernel_rfl) (show Try.prog.underlying 3 = some (.int .i64) from by kernel_rfl) (show Try.prog.cellsOf 27 = 1 from by kernel_rfl) (show Try.prog.cellsOf 3 = 1 from by kernel_rfl) g_6
  obtain rfl : c2_0 = s_7.v := by simpa using e_9
  have k3 := h3
  have lt3 : ∀ x ∈ p3, x.block < W.heap.size := by obtain ⟨m, hm⟩ := k3; exact DataW.trod_lt m _ _ _ hm
  obtain ⟨fu3, hf3⟩ := h3
  obtain ⟨a3, l3, q3, rfl⟩ := okWide_slice (show Try.prog.underlying 27 = some (.slice 3) from by kernel_rfl) (hval0 3 27 v3 rfl rfl)
  replace hf3 : DataW.trod enc Try.prog W 0 (fun _ => true) true fu3 27 [.slice a3 l3 q3] = some _ := hf3
  obtain ⟨s3, x3, e3, R3, B3⟩ := trod_ints (show Try.prog.underlying 27 = some (.slice 3) from by kernel_rfl) (show Try.prog.underlying 3 = some (.int .i64) from by kernel_rfl) (show Try.prog.cellsOf 3 = 1 from by kernel_rfl) hf3
  simp only [List.cons.injEq, Value.slice.injEq, and_true] at e3; obtain ⟨rfl, rfl, rfl⟩ := e3
  refine (calls_of_callM (K := fun v h' => Fr No W.heap h' ∧ v = .bool true) Try.func4 rfl rfl (k_lawStepsByWalks R_5 R_10 R3 n1 _ fun h' f => ⟨f, rfl⟩)).mono fun e W' ⟨v, he, hs, hf, hv⟩ => ?_
  subst he hv
  have bel := below_of hs hf
  exact ⟨_, rfl, _, _, _, [], _, [], hW', trodAll_mk1 (shut_bool Try.underlying4 _), (trodAll_cons_mk (Below.trod laidOut (by kernel_rfl) (of_decide_eq_true (by kernel_rfl)) k0 bel lt0) (trodAll_cons_mk (Below.trod laidOut (by kernel_rfl) (of_decide_eq_true (by kernel_rfl)) k1 bel lt1) (trodAll_cons_mk (Below.trod laidOut (by kernel_rfl) (of_decide_eq_true (by kernel_rfl)) k2 bel lt2) (trodAll_cons_mk (Below.trod laidOut (by kernel_rfl) (of_decide_eq_true (by kernel_rfl)) k3 bel lt3) trodAll_mk0)))), rfl, bel.frame _, fun h => by cases h⟩
theorem over : Rows.fnExactStepsByWalksRow.holds Try.pinned (OpenSpec.ofChange Rows.fnExactStepsByWalksSpec) :=
  OpenClaim.holds_of_wide 4 Try.f4 rfl rfl rfl rfl rfl rfl rfl ⟨rfl, rfl, rfl, rfl, rfl⟩ rfl rfl rfl rfl rfl (by kernel_rfl) Try.func4 (by kernel_rfl)
    (of_decide_eq_true (by kernel_rfl)) (by unfold Func.isWrapper; first | (rw [if_pos (by decide +kernel)]; kernel_rfl) | (rw [if_neg (by decide +kernel)]; exact ⟨rfl, rfl⟩))
    (fun os started H enc _ => lifted os started H enc)
theorem proved : Rows.FnExactStepsByWalksSaid := over
#print axioms proved
end Go.Proofs.Ytkjkfjkapbpgiaa.fnExactStepsByWalks
