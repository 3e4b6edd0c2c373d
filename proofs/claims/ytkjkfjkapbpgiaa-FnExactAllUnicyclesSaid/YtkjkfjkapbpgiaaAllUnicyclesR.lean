/-
  PROVED: the row 'FnExactAllUnicycles': for every input the law returns true, and each argument reads behind the call as it read before. No condition.
-/
import Derived.Test.YtkjkfjkapbpgiaaRows
import Derived.Test.YtkjkfjkapbpgiaaAllUnicyclesK
import Derived.Test.YtkjkfjkapbpgiaaM5
set_option linter.unusedVariables false
set_option linter.unusedSimpArgs false
namespace Go.Proofs.Ytkjkfjkapbpgiaa.fnExactAllUnicycles
open Go Go.Mx
open Go.ChangeShapes Go.WideShapes Go.ChangeAt Go.RowKit
theorem own : ownKnob Try.prog.godebug = none := by kernel_rfl
theorem laidOut : laidOutB Try.prog = true := by kernel_rfl
set_option maxRecDepth 100000 in
theorem lifted (os : Os) (started : os.Started) (H : Type) (enc : TypeId × Value → H) :
    ReturnsInHanded {} Try.checked os 6 .any (Rows.fnExactAllUnicyclesSpec.pre6 enc Try.prog Try.f6 Rows.fnExactAllUnicyclesRow.domain false) (Rows.fnExactAllUnicyclesSpec.post enc Try.prog Try.f6 false true false false) := by
  refine returnsInHanded_of_change_sized (C := Try.checked) own started (by kernel_rfl) Try.func6
    (ChangeSpec.witness6 (enc := enc) (C := Try.checked) false ⟨#[], #[.agg #[.slice none 0 0], .int .i64 0], []⟩ 8 (by kernel_rfl) (by kernel_rfl) (by kernel_rfl) (by kernel_rfl)) ?_
  intro W base args ds gs before hval0 hW hcnd hsz0 _
  have hW' := hW
  obtain ⟨p, q, hA0, hV, rfl, hfz, hnd⟩ := hW
  have hA : DataW.TrodAll enc Try.prog W 0 (fun _ => true) true Try.f6.params.toList args.toList ds p := hA0
  rw [Try.params6] at hA
  replace hval0 : ∀ (j : Nat) t v, (Try.f6.params)[j]? = some t → args[j]? = some v → Value.okWide Try.prog W .any base t v := hval0
  rw [Try.params6] at hval0
  obtain ⟨v0, vs0, d0, ds0, p0, q0, hargs, rfl, rfl, h0, r0⟩ := trodAll_cons hA
  obtain ⟨v1, vs1, d1, ds1, p1, q1, rfl, rfl, rfl, h1, r1⟩ := trodAll_cons r0
  obtain ⟨rfl, rfl, rfl⟩ := trodAll_nil r1
  obtain rfl : args = #[v0, v1] := by cases args; simp_all
  obtain ⟨rfl, rfl⟩ := trodVars_none hV
  have k0 := h0
  have lt0 : ∀ x ∈ p0, x.block < W.heap.size := by obtain ⟨m, hm⟩ := k0; exact DataW.trod_lt m _ _ _ hm
  obtain ⟨fu0, hf0⟩ := h0
  obtain ⟨a0, rfl⟩ := okWide_agg (show isStruct Try.prog 24 = true from by kernel_rfl) (hval0 0 24 v0 rfl rfl)
  have hl0 := trod_len (show isStruct Try.prog 24 = true from by kernel_rfl) (show Try.prog.cellsOf 24 = 1 from by kernel_rfl) hf0
  obtain ⟨c0_0, ha0⟩ := len1 _ hl0
  obtain rfl : a0 = #[c0_0] := Array.ext' ha0
  replace hf0 : DataW.trod enc Try.prog W 0 (fun _ => true) true fu0 24 [c0_0] = some _ := hf0
  obtain ⟨_, _, g_1⟩ := trod_fld (i := 0) (show fieldT Try.prog 24 0 = some (22, 0, 1) from by kernel_rfl) hf0
  replace g_1 : DataW.trod enc Try.prog W 0 (fun _ => true) true _ 22 [c0_0] = some _ := g_1
  obtain ⟨s_2, x_3, e_4, R_5⟩ := trod_rows (show Try.prog.underlying 22 = some (.slice 27) from by kernel_rfl) (show Try.prog.underlying 27 = some (.slice 3) from by kernel_rfl) (show Try.prog.underlying 3 = some (.int .i64) from by kernel_rfl) (show Try.prog.cellsOf 27 = 1 from by kernel_rfl) (show Try.prog.cellsOf 3 = 1 from by kernel_rfl) g_1
  obtain rfl : c0_0 = s_2.v := by simpa using e_4
  have k1 := h1
  have lt1 : ∀ x ∈ p1, x.block < W.heap.size := by obtain ⟨m, hm⟩ := k1; exact DataW.trod_lt m _ _ _ hm
  obtain ⟨fu1, hf1⟩ := h1
  obtain ⟨n1, rfl⟩ := okWide_int (show Try.prog.underlying 3 = some (.int .i64) from by kernel_rfl) (hval0 1 3 v1 rfl rfl)
  refine (calls_of_callM (K := fun v h' => Fr No W.heap h' ∧ v = .bool true) Try.func6 rfl rfl (k_lawAllUnicycles R_5 n1 _ fun h' f => ⟨f, rfl⟩)).mono fun e W' ⟨v, he, hs, hf, hv⟩ => ?_
  subst he hv
  have bel := below_of hs hf
  exact ⟨_, rfl, _, _, _, [], _, [], hW', trodAll_mk1 (shut_bool Try.underlying4 _), (trodAll_cons_mk (Below.trod laidOut (by kernel_rfl) (of_decide_eq_true (by kernel_rfl)) k0 bel lt0) (trodAll_cons_mk (Below.trod laidOut (by kernel_rfl) (of_decide_eq_true (by kernel_rfl)) k1 bel lt1) trodAll_mk0)), rfl, bel.frame _, fun h => by cases h⟩
theorem over : Rows.fnExactAllUnicyclesRow.holds Try.pinned (OpenSpec.ofChange Rows.fnExactAllUnicyclesSpec) :=
  OpenClaim.holds_of_wide 6 Try.f6 rfl rfl rfl rfl rfl rfl rfl ⟨rfl, rfl, rfl, rfl, rfl⟩ rfl rfl rfl rfl rfl (by kernel_rfl) Try.func6 (by kernel_rfl)
    (of_decide_eq_true (by kernel_rfl)) (by unfold Func.isWrapper; first | (rw [if_pos (by decide +kernel)]; kernel_rfl) | (rw [if_neg (by decide +kernel)]; exact ⟨rfl, rfl⟩))
    (fun os started H enc _ => lifted os started H enc)
theorem proved : Rows.FnExactAllUnicyclesSaid := over
#print axioms proved
end Go.Proofs.Ytkjkfjkapbpgiaa.fnExactAllUnicycles
