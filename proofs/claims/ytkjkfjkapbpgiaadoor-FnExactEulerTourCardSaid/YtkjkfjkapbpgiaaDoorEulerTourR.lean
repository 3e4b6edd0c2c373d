/-
  PROVED: the card of the row 'FnExactEulerTour': for every input the law returns true, and each argument reads behind the call as it read before; the listed package-level variables hold what the program's text lays in them.
-/
import Derived.Test.YtkjkfjkapbpgiaaDoorCards
import Derived.Test.YtkjkfjkapbpgiaaDoorTie
import Derived.Test.YtkjkfjkapbpgiaaDoorEulerTourK
import Derived.Test.YtkjkfjkapbpgiaaDoorM5
import Derived.ChangeSame
import Derived.ChangeVars
import Derived.JoinedOf
import Derived.RowKit
import Derived.RowKitTokens
import Derived.LaidLaws
import Derived.LaidHandle
import Derived.Stop.Joined
import Derived.Lay
import Derived.SevenTiedAt
import Derived.MakeChecks
set_option linter.unusedVariables false
set_option linter.unusedSimpArgs false
namespace Go.Proofs.YtkjkfjkapbpgiaaDoor.fnExactEulerTour
open Go Go.Mx
open Go.ChangeShapes Go.WideShapes Go.ChangeAt Go.RowKit
theorem own : ownKnob Tryd.prog.godebug = none := by kernel_rfl
theorem laidOut : laidOutB Tryd.prog = true := by kernel_rfl
set_option maxRecDepth 100000 in
theorem lifted (os : Os) (started : os.Started) (H : Type) (enc : TypeId × Value → H) :
    ReturnsInHanded {} Tryd.checked os 6 .any (fun w args => (Rows.fnExactEulerTourSpec.pre enc Tryd.prog Tryd.f6 Rows.fnExactEulerTourRow.domain false w args ∧ laidMetH Tryd.prog Rows.fnExactEulerTourRow.laid w) ∧ sizedMet enc Tryd.prog Tryd.f6 (OpenSpec.ofChange Rows.fnExactEulerTourSpec) false w args) (Rows.fnExactEulerTourSpec.post enc Tryd.prog Tryd.f6 false true false false) := by
  refine returnsInHanded_of_change_and (C := Tryd.checked) (X := fun w _ => laidMetH Tryd.prog Rows.fnExactEulerTourRow.laid w) (fun _ _ _ hh h => h.of_heap hh) own started (by kernel_rfl) Tryd.func6
    (ChangeSpec.witness_shaped (enc := enc) (C := Tryd.checked) (os := os) (X := fun w _ => laidMetH Tryd.prog Rows.fnExactEulerTourRow.laid w) false (World.laidAll Tryd.prog os Rows.fnExactEulerTourRow.laid) #[.agg #[.slice none 0 0], .int .i64 0] 8 (World.laidAll_os _ _ _)
      (World.shaped_of_ZipB (by kernel_rfl) (by kernel_rfl)) (by kernel_rfl) (by kernel_rfl) (by kernel_rfl)
      (by rw [MakeChecks.laidMetH_plain _ _ _ (by kernel_rfl)]; exact laidMet_laidAll _ (by kernel_rfl) (by kernel_rfl))) ?_
  intro W base args ds gs before hval0 hW _ _ hL _
  have hW' := hW
  obtain ⟨p, q, hA0, hV, rfl, hfz, hnd⟩ := hW
  have hA : DataW.TrodAll enc Tryd.prog W 0 (fun _ => true) true Tryd.f6.params.toList args.toList ds p := hA0
  rw [Tryd.params6] at hA
  replace hval0 : ∀ (j : Nat) t v, (Tryd.f6.params)[j]? = some t → args[j]? = some v → Value.okWide Tryd.prog W .any base t v := hval0
  rw [Tryd.params6] at hval0
  obtain ⟨v0, vs0, d0, ds0, p0, q0, hargs, rfl, rfl, h0, r0⟩ := trodAll_cons hA
  obtain ⟨v1, vs1, d1, ds1, p1, q1, rfl, rfl, rfl, h1, r1⟩ := trodAll_cons r0
  obtain ⟨rfl, rfl, rfl⟩ := trodAll_nil r1
  obtain rfl : args = #[v0, v1] := by cases args; simp_all
  obtain ⟨rfl, rfl⟩ := trodVars_none hV
  have k0 := h0
  have lt0 : ∀ x ∈ p0, x.block < W.heap.size := by obtain ⟨m, hm⟩ := k0; exact DataW.trod_lt m _ _ _ hm
  obtain ⟨fu0, hf0⟩ := h0
  obtain ⟨a0, rfl⟩ := okWide_agg (show isStruct Tryd.prog 33 = true from by kernel_rfl) (hval0 0 33 v0 rfl rfl)
  have hl0 := trod_len (show isStruct Tryd.prog 33 = true from by kernel_rfl) (show Tryd.prog.cellsOf 33 = 1 from by kernel_rfl) hf0
  obtain ⟨c0_0, ha0⟩ := len1 _ hl0
  obtain rfl : a0 = #[c0_0] := Array.ext' ha0
  replace hf0 : DataW.trod enc Tryd.prog W 0 (fun _ => true) true fu0 33 [c0_0] = some _ := hf0
  obtain ⟨_, _, g_1⟩ := trod_fld (i := 0) (show fieldT Tryd.prog 33 0 = some (22, 0, 1) from by kernel_rfl) hf0
  replace g_1 : DataW.trod enc Tryd.prog W 0 (fun _ => true) true _ 22 [c0_0] = some _ := g_1
  obtain ⟨s_2, x_3, e_4, R_5⟩ := trod_rows (show Tryd.prog.underlying 22 = some (.slice 34) from by kernel_rfl) (show Tryd.prog.underlying 34 = some (.slice 3) from by kernel_rfl) (show Tryd.prog.underlying 3 = some (.int .i64) from by kernel_rfl) (show Tryd.prog.cellsOf 34 = 1 from by kernel_rfl) (show Tryd.prog.cellsOf 3 = 1 from by kernel_rfl) g_1
  obtain rfl : c0_0 = s_2.v := by simpa using e_4
  have k1 := h1
  have lt1 : ∀ x ∈ p1, x.block < W.heap.size := by obtain ⟨m, hm⟩ := k1; exact DataW.trod_lt m _ _ _ hm
  obtain ⟨fu1, hf1⟩ := h1
  obtain ⟨n1, rfl⟩ := okWide_int (show Tryd.prog.underlying 3 = some (.int .i64) from by kernel_rfl) (hval0 1 3 v1 rfl rfl)
  refine (calls_of_callM (K := fun v h' => Fr No W.heap h' ∧ v = .bool true) Tryd.func6 rfl rfl (k_lawEulerTour R_5 n1 _ fun h' f => ⟨f, rfl⟩)).mono fun e W' ⟨v, he, hs, hf, hv⟩ => ?_
  subst he hv
  have bel := below_of hs hf
  exact ⟨_, rfl, _, _, _, [], _, [], hW', trodAll_mk1 (shut_bool Tryd.underlying4 _), (trodAll_cons_mk (Below.trod laidOut (by kernel_rfl) (of_decide_eq_true (by kernel_rfl)) k0 bel lt0) (trodAll_cons_mk (Below.trod laidOut (by kernel_rfl) (of_decide_eq_true (by kernel_rfl)) k1 bel lt1) trodAll_mk0)), rfl, bel.frame _, fun h => by cases h⟩
theorem said : Rows.FnExactEulerTourSaid :=
  OpenClaim.holds_of_wide 6 Tryd.f6 rfl rfl rfl rfl rfl rfl rfl ⟨rfl, rfl, rfl, rfl, rfl⟩ rfl rfl rfl rfl rfl (by kernel_rfl) Tryd.func6 (by kernel_rfl)
    (of_decide_eq_true (by kernel_rfl)) (by unfold Func.isWrapper; first | (rw [if_pos (by decide +kernel)]; kernel_rfl) | (rw [if_neg (by decide +kernel)]; exact ⟨rfl, rfl⟩))
    (fun os started H enc _ => lifted os started H enc)
theorem plain (f : FuncId) (fn : Func) (hf : Tryd.pinned.checked.prog.funcNamed "loop.example/g01162/laws.FnExactEulerTour" = some f) (hfn : Tryd.pinned.checked.prog.funcs[f]? = some fn) : false = Tryd.pinned.checked.prog.looks [] ∧ ∀ (j : Nat) t, fn.params[j]? = some t → Tryd.pinned.checked.prog.wantsStandIn t = false := by
  obtain rfl : f = 6 := Option.some.inj ((show Tryd.prog.funcNamed "loop.example/g01162/laws.FnExactEulerTour" = some 6 by kernel_rfl).symm.trans hf) |>.symm
  obtain rfl : fn = Tryd.f6 := (Option.some.inj (Tryd.func6.symm.trans hfn)).symm
  refine ⟨by kernel_rfl, fun j t ht => ?_⟩
  rw [Tryd.params6] at ht
  have hm : t = 33 ∨ t = 3 := by simpa using Array.mem_of_getElem? ht
  rcases hm with rfl | rfl
  · exact (show Tryd.prog.wantsStandIn 33 = false by kernel_rfl)
  · exact (show Tryd.prog.wantsStandIn 3 = false by kernel_rfl)
theorem proved : Rows.FnExactEulerTourCardSaid :=
  Claim7.holds_tied_plain_at .later [] _ _ _ _ said (fun _ h => by cases h) (by kernel_rfl) (fun _ h => by cases h) fnExactEulerTour_row_tie rfl ⟨rfl, rfl⟩ (by kernel_rfl) rfl plain (by kernel_rfl)
end Go.Proofs.YtkjkfjkapbpgiaaDoor.fnExactEulerTour
