/-
  PROVED: the card of the row 'FnExactPeriodOf': for every input the law returns true, and each argument reads behind the call as it read before; the listed package-level variables hold what the program's text lays in them.
-/
import Derived.Test.YtkjkfjkapbpgiaaDoorCards
import Derived.Test.YtkjkfjkapbpgiaaDoorTie
import Derived.Test.YtkjkfjkapbpgiaaDoorPeriodOfK
import Derived.Test.YtkjkfjkapbpgiaaDoorM5
import Derived.ChangeSame
import Derived.ChangeVars
import Derived.JoinedOf
import Derived.RowKit
import Derived.RowKitTokens
import Derived.LaidLaws
import Derived.LaidHandle
import Derived.Stop.Joined
import Derived.Lay
import Derived.SevenTiedAt
import Derived.MakeChecks
set_option linter.unusedVariables false
set_option linter.unusedSimpArgs false
namespace Go.Proofs.YtkjkfjkapbpgiaaDoor.fnExactPeriodOf
open Go Go.Mx
open Go.ChangeShapes Go.WideShapes Go.ChangeAt Go.RowKit
theorem own : ownKnob Tryd.prog.godebug = none := by kernel_rfl
theorem laidOut : laidOutB Tryd.prog = true := by kernel_rfl
set_option maxRecDepth 100000 in
theorem lifted (os : Os) (started : os.Started) (H : Type) (enc : TypeId × Value → H) :
    ReturnsInHanded {} Tryd.checked os 4 .any (fun w args => (Rows.fnExactPeriodOfSpec.pre enc Tryd.prog Tryd.f4 Rows.fnExactPeriodOfRow.domain false w args ∧ laidMetH Tryd.prog Rows.fnExactPeriodOfRow.laid w) ∧ sizedMet enc Tryd.prog Tryd.f4 (OpenSpec.ofChange Rows.fnExactPeriodOfSpec) false w args) (Rows.fnExactPeriodOfSpec.post enc Tryd.prog Tryd.f4 false true false false) := by
  refine returnsInHanded_of_change_and (C := Tryd.checked) (X := fun w _ => laidMetH Tryd.prog Rows.fnExactPeriodOfRow.laid w) (fun _ _ _ hh h => h.of_heap hh) own started (by kernel_rfl) Tryd.func4
    (ChangeSpec.witness_shaped (enc := enc) (C := Tryd.checked) (os := os) (X := fun w _ => laidMetH Tryd.prog Rows.fnExactPeriodOfRow.laid w) false (World.laidAll Tryd.prog os Rows.fnExactPeriodOfRow.laid) #[.agg #[.slice none 0 0], .agg #[.slice none 0 0, .int .i64 0]] 8 (World.laidAll_os _ _ _)
      (World.shaped_of_ZipB (by kernel_rfl) (by kernel_rfl)) (by kernel_rfl) (by kernel_rfl) (by kernel_rfl)
      (by rw [MakeChecks.laidMetH_plain _ _ _ (by kernel_rfl)]; exact laidMet_laidAll _ (by kernel_rfl) (by kernel_rfl))) ?_
  intro W base args ds gs before hval0 hW _ _ hL _
  have hW' := hW
  obtain ⟨p, q, hA0, hV, rfl, hfz, hnd⟩ := hW
  have hA : DataW.TrodAll enc Tryd.prog W 0 (fun _ => true) true Tryd.f4.params.toList args.toList ds p := hA0
  rw [Tryd.params4] at hA
  replace hval0 : ∀ (j : Nat) t v, (Tryd.f4.params)[j]? = some t → args[j]? = some v → Value.okWide Tryd.prog W .any base t v := hval0
  rw [Tryd.params4] at hval0
  obtain ⟨v0, vs0, d0, ds0, p0, q0, hargs, rfl, rfl, h0, r0⟩ := trodAll_cons hA
  obtain ⟨v1, vs1, d1, ds1, p1, q1, rfl, rfl, rfl, h1, r1⟩ := trodAll_cons r0
  obtain ⟨rfl, rfl, rfl⟩ := trodAll_nil r1
  obtain rfl : args = #[v0, v1] := by cases args; simp_all
  obtain ⟨rfl, rfl⟩ := trodVars_none hV
  have k0 := h0
  have lt0 : ∀ x ∈ p0, x.block < W.heap.size := by obtain ⟨m, hm⟩ := k0; exact DataW.trod_lt m _ _ _ hm
  obtain ⟨fu0, hf0⟩ := h0
  obtain ⟨a0, rfl⟩ := okWide_agg (show isStruct Tryd.prog 33 = true from by kernel_rfl) (hval0 0 33 v0 rfl rfl)
  have hl0 := trod_len (show isStruct Tryd.prog 33 = true from by kernel_rfl) (show Tryd.prog.cellsOf 33 = 1 from by kernel_rfl) hf0
  obtain ⟨c0_0, ha0⟩ := len1 _ hl0
  obtain rfl : a0 = #[c0_0] := Array.ext' ha0
  replace hf0 : DataW.trod enc Tryd.prog W 0 (fun _ => true) true fu0 33 [c0_0] = some _ := hf0
  obtain ⟨_, _, g_1⟩ := trod_fld (i := 0) (show fieldT Tryd.prog 33 0 = some (22, 0, 1) from by kernel_rfl) hf0
  replace g_1 : DataW.trod enc Tryd.prog W 0 (fun _ => true) true _ 22 [c0_0] = some _ := g_1
  obtain ⟨s_2, x_3, e_4, R_5⟩ := trod_rows (show Tryd.prog.underlying 22 = some (.slice 34) from by kernel_rfl) (show Tryd.prog.underlying 34 = some (.slice 3) from by kernel_rfl) (show Tryd.prog.underlying 3 = some (.int .i64) from by kernel_rfl) (show Tryd.prog.cellsOf 34 = 1 from by kernel_rfl) (show Tryd.prog.cellsOf 3 = 1 from by kernel_rfl) g_1
  obtain rfl : c0_0 = s_2.v := by simpa using e_4
  have k1 := h1
  have lt1 : ∀ x ∈ p1, x.block < W.heap.size := by obtain ⟨m, hm⟩ := k1; exact DataW.trod_lt m _ _ _ hm
  obtain ⟨fu1, hf1⟩ := h1
  obtain ⟨a1, rfl⟩ := okWide_agg (show isStruct Tryd.prog 36 = true from by kernel_rfl) (hval0 1 36 v1 rfl rfl)
  have hl1 := trod_len (show isStruct Tryd.prog 36 = true from by kernel_rfl) (show Tryd.prog.cellsOf 36 = 2 from by kernel_rfl) hf1
  obtain ⟨c1_0, c1_1, ha1⟩ := len2 _ hl1
  obtain rfl : a1 = #[c1_0, c1_1] := Array.ext' ha1
  replace hf1 : DataW.trod enc Tryd.prog W 0 (fun _ => true) true fu1 36 [c1_0, c1_1] = some _ := hf1
  obtain ⟨_, _, g_6⟩ := trod_fld (i := 0) (show fieldT Tryd.prog 36 0 = some (34, 0, 1) from by kernel_rfl) hf1
  replace g_6 : DataW.trod enc Tryd.prog W 0 (fun _ => true) true _ 34 [c1_0] = some _ := g_6
  obtain ⟨s_7, x_8, e_9, R_10, _⟩ := trod_ints (show Tryd.prog.underlying 34 = some (.slice 3) from by kernel_rfl) (show Tryd.prog.underlying 3 = some (.int .i64) from by kernel_rfl) (show Tryd.prog.cellsOf 3 = 1 from by kernel_rfl) g_6
  obtain rfl : c1_0 = s_7.v := by simpa using e_9
  obtain ⟨_, _, g_11⟩ := trod_fld (i := 1) (show fieldT Tryd.prog 36 1 = some (3, 1, 1) from by kernel_rfl) hf1
  replace g_11 : DataW.trod enc Tryd.prog W 0 (fun _ => true) true _ 3 [c1_1] = some _ := g_11
  obtain ⟨n_12, e_13, w_14⟩ := trod_num (show Tryd.prog.underlying 3 = some (.int .i64) from by kernel_rfl) g_11
  obtain rfl : c1_1 = VI n_12 := by simpa using e_13
  refine (calls_of_callM (K := fun v h' => Fr No W.heap h' ∧ v = .bool true) Tryd.func4 rfl rfl (k_lawPeriodOf R_5 R_10 n_12 _ fun h' f => ⟨f, rfl⟩)).mono fun e W' ⟨v, he, hs, hf, hv⟩ => ?_
  subst he hv
  have bel := below_of hs hf
  exact ⟨_, rfl, _, _, _, [], _, [], hW', trodAll_mk1 (shut_bool Tryd.underlying4 _), (trodAll_cons_mk (Below.trod laidOut (by kernel_rfl) (of_decide_eq_true (by kernel_rfl)) k0 bel lt0) (trodAll_cons_mk (Below.trod laidOut (by kernel_rfl) (of_decide_eq_true (by kernel_rfl)) k1 bel lt1) trodAll_mk0)), rfl, bel.frame _, fun h => by cases h⟩
theorem said : Rows.FnExactPeriodOfSaid :=
  OpenClaim.holds_of_wide 4 Tryd.f4 rfl rfl rfl rfl rfl rfl rfl ⟨rfl, rfl, rfl, rfl, rfl⟩ rfl rfl rfl rfl rfl (by kernel_rfl) Tryd.func4 (by kernel_rfl)
    (of_decide_eq_true (by kernel_rfl)) (by unfold Func.isWrapper; first | (rw [if_pos (by decide +kernel)]; kernel_rfl) | (rw [if_neg (by decide +kernel)]; exact ⟨rfl, rfl⟩))
    (fun os started H enc _ => lifted os started H enc)
theorem plain (f : FuncId) (fn : Func) (hf : Tryd.pinned.checked.prog.funcNamed "loop.example/g01162/laws.FnExactPeriodOf" = some f) (hfn : Tryd.pinned.checked.prog.funcs[f]? = some fn) : false = Tryd.pinned.checked.prog.looks [] ∧ ∀ (j : Nat) t, fn.params[j]? = some t → Tryd.pinned.checked.prog.wantsStandIn t = false := by
  obtain rfl : f = 4 := Option.some.inj ((show Tryd.prog.funcNamed "loop.example/g01162/laws.FnExactPeriodOf" = some 4 by kernel_rfl).symm.trans hf) |>.symm
  obtain rfl : fn = Tryd.f4 := (Option.some.inj (Tryd.func4.symm.trans hfn)).symm
  refine ⟨by kernel_rfl, fun j t ht => ?_⟩
  rw [Tryd.params4] at ht
  have hm : t = 33 ∨ t = 36 := by simpa using Array.mem_of_getElem? ht
  rcases hm with rfl | rfl
  · exact (show Tryd.prog.wantsStandIn 33 = false by kernel_rfl)
  · exact (show Tryd.prog.wantsStandIn 36 = false by kernel_rfl)
theorem proved : Rows.FnExactPeriodOfCardSaid :=
  Claim7.holds_tied_plain_at .later [] _ _ _ _ said (fun _ h => by cases h) (by kernel_rfl) (fun _ h => by cases h) fnExactPeriodOf_row_tie rfl ⟨rfl, rfl⟩ (by kernel_rfl) rfl plain (by kernel_rfl)
end Go.Proofs.YtkjkfjkapbpgiaaDoor.fnExactPeriodOf
