/-
  PROVED: the row 'FnExactIsDesk': for every input the law returns true, and each argument reads behind the call as it read before. No condition.
-/
import Derived.Test.YtkphbhochacllaaRows
import Derived.Test.YtkphbhochacllaaIsDeskK
import Derived.Test.YtkphbhochacllaaM5
set_option linter.unusedVariables false
set_option linter.unusedSimpArgs false
namespace Go.Proofs.Ytkphbhochacllaa.fnExactIsDesk
open Go Go.Mx
open Go.ChangeShapes Go.WideShapes Go.ChangeAt Go.RowKit
theorem own : ownKnob Try.prog.godebug = none := by kernel_rfl
theorem laidOut : laidOutB Try.prog = true := by kernel_rfl
set_option maxRecDepth 100000 in
theorem lifted (os : Os) (started : os.Started) (H : Type) (enc : TypeId × Value → H) :
    ReturnsInHanded {} Try.checked os 4 .any (Rows.fnExactIsDeskSpec.pre6 enc Try.prog Try.f4 Rows.fnExactIsDeskRow.domain false) (Rows.fnExactIsDeskSpec.post enc Try.prog Try.f4 false true false false) := by
  refine returnsInHanded_of_change_sized (C := Try.checked) own started (by kernel_rfl) Try.func4
    (ChangeSpec.witness6 (enc := enc) (C := Try.checked) false ⟨#[], #[.agg #[.slice none 0 0, .slice none 0 0, .int .i64 0]], []⟩ 8 (by kernel_rfl) (by kernel_rfl) (by kernel_rfl) (by kernel_rfl)) ?_
  intro W base args ds gs before hval0 hW hcnd hsz0 _
  have hW' := hW
  obtain ⟨p, q, hA0, hV, rfl, hfz, hnd⟩ := hW
  have hA : DataW.TrodAll enc Try.prog W 0 (fun _ => true) true Try.f4.params.toList args.toList ds p := hA0
  rw [Try.params4] at hA
  replace hval0 : ∀ (j : Nat) t v, (Try.f4.params)[j]? = some t → args[j]? = some v → Value.okWide Try.prog W .any base t v := hval0
  rw [Try.params4] at hval0
  obtain ⟨v0, vs0, d0, ds0, p0, q0, hargs, rfl, rfl, h0, r0⟩ := trodAll_cons hA
  obtain ⟨rfl, rfl, rfl⟩ := trodAll_nil r0
  obtain rfl : args = #[v0] := by cases args; simp_all
  obtain ⟨rfl, rfl⟩ := trodVars_none hV
  have k0 := h0
  have lt0 : ∀ x ∈ p0, x.block < W.heap.size := by obtain ⟨m, hm⟩ := k0; exact DataW.trod_lt m _ _ _ hm
  obtain ⟨fu0, hf0⟩ := h0
  obtain ⟨a0, rfl⟩ := okWide_agg (show isStruct Try.prog 37 = true from by kernel_rfl) (hval0 0 37 v0 rfl rfl)
  have hl0 := trod_len (show isStruct Try.prog 37 = true from by kernel_rfl) (show Try.prog.cellsOf 37 = 3 from by kernel_rfl) hf0
  obtain ⟨c0_0, c0_1, c0_2, ha0⟩ := len3 _ hl0
  obtain rfl : a0 = #[c0_0, c0_1, c0_2] := Array.ext' ha0
  replace hf0 : DataW.trod enc Try.prog W 0 (fun _ => true) true fu0 37 [c0_0, c0_1, c0_2] = some _ := hf0
  obtain ⟨_, _, g_1⟩ := trod_fld (i := 0) (show fieldT Try.prog 37 0 = some (34, 0, 1) from by kernel_rfl) hf0
  replace g_1 : DataW.trod enc Try.prog W 0 (fun _ => true) true _ 34 [c0_0] = some _ := g_1
  obtain ⟨_, _, g_2⟩ := trod_fld (i := 0) (show fieldT Try.prog 34 0 = some (22, 0, 1) from by kernel_rfl) g_1
  replace g_2 : DataW.trod enc Try.prog W 0 (fun _ => true) true _ 22 [c0_0] = some _ := g_2
  obtain ⟨s_3, x_4, e_5, R_6⟩ := trod_rows (show Try.prog.underlying 22 = some (.slice 25) from by kernel_rfl) (show Try.prog.underlying 25 = some (.slice 3) from by kernel_rfl) (show Try.prog.underlying 3 = some (.int .i64) from by kernel_rfl) (show Try.prog.cellsOf 25 = 1 from by kernel_rfl) (show Try.prog.cellsOf 3 = 1 from by kernel_rfl) g_2
  obtain rfl : c0_0 = s_3.v := by simpa using e_5
  obtain ⟨_, _, g_7⟩ := trod_fld (i := 1) (show fieldT Try.prog 37 1 = some (35, 1, 2) from by kernel_rfl) hf0
  replace g_7 : DataW.trod enc Try.prog W 0 (fun _ => true) true _ 35 [c0_1, c0_2] = some _ := g_7
  obtain ⟨_, _, g_8⟩ := trod_fld (i := 0) (show fieldT Try.prog 35 0 = some (25, 0, 1) from by kernel_rfl) g_7
  replace g_8 : DataW.trod enc Try.prog W 0 (fun _ => true) true _ 25 [c0_1] = some _ := g_8
  obtain ⟨s_9, x_10, e_11, R_12, _⟩ := trod_ints (show Try.prog.underlying 25 = some (.slice 3) from by kernel_rfl) (show Try.prog.underlying 3 = some (.int .i64) from by kernel_rfl) (show Try.prog.cellsOf 3 = 1 from by kernel_rfl) g_8
  obtain rfl : c0_1 = s_9.v := by simpa using e_11
  obtain ⟨_, _, g_13⟩ := trod_fld (i := 1) (show fieldT Try.prog 35 1 = some (3, 1, 1) from by kernel_rfl) g_7
  replace g_13 : DataW.trod enc Try.prog W 0 (fun _ => true) true _ 3 [c0_2] = some _ := g_13
  obtain ⟨n_14, e_15, w_16⟩ := trod_num (show Try.prog.underlying 3 = some (.int .i64) from by kernel_rfl) g_13
  obtain rfl : c0_2 = VI n_14 := by simpa using e_15
  refine (calls_of_callM (K := fun v h' => Fr No W.heap h' ∧ v = .bool true) Try.func4 rfl rfl (k_lawIsDesk R_6 R_12 n_14 _ fun h' f => ⟨f, rfl⟩)).mono fun e W' ⟨v, he, hs, hf, hv⟩ => ?_
  subst he hv
  have bel := below_of hs hf
  exact ⟨_, rfl, _, _, _, [], _, [], hW', trodAll_mk1 (shut_bool Try.underlying4 _), (trodAll_cons_mk (Below.trod laidOut (by kernel_rfl) (of_decide_eq_true (by kernel_rfl)) k0 bel lt0) trodAll_mk0), rfl, bel.frame _, fun h => by cases h⟩
theorem over : Rows.fnExactIsDeskRow.holds Try.pinned (OpenSpec.ofChange Rows.fnExactIsDeskSpec) :=
  OpenClaim.holds_of_wide 4 Try.f4 rfl rfl rfl rfl rfl rfl rfl ⟨rfl, rfl, rfl, rfl, rfl⟩ rfl rfl rfl rfl rfl (by kernel_rfl) Try.func4 (by kernel_rfl)
    (of_decide_eq_true (by kernel_rfl)) (by unfold Func.isWrapper; first | (rw [if_pos (by decide +kernel)]; kernel_rfl) | (rw [if_neg (by decide +kernel)]; exact ⟨rfl, rfl⟩))
    (fun os started H enc _ => lifted os started H enc)
theorem proved : Rows.FnExactIsDeskSaid := over
#print axioms proved
end Go.Proofs.Ytkphbhochacllaa.fnExactIsDesk
