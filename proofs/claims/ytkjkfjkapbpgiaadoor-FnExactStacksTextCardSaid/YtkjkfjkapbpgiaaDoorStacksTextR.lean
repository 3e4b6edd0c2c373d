/-
  PROVED: the card of the row 'FnExactStacksText': for every input the law returns true, and each argument reads behind the call as it read before; the listed package-level variables hold what the program's text lays in them.
-/
import Derived.Test.YtkjkfjkapbpgiaaDoorCards
import Derived.Test.YtkjkfjkapbpgiaaDoorTie
import Derived.Test.YtkjkfjkapbpgiaaDoorStacksTextK
import Derived.Test.YtkjkfjkapbpgiaaDoorM5
import Derived.ChangeSame
import Derived.ChangeVars
import Derived.JoinedOf
import Derived.RowKit
import Derived.RowKitTokens
import Derived.LaidLaws
import Derived.LaidHandle
import Derived.Stop.Joined
import Derived.Lay
import Derived.SevenTiedAt
import Derived.MakeChecks
set_option linter.unusedVariables false
set_option linter.unusedSimpArgs false
namespace Go.Proofs.YtkjkfjkapbpgiaaDoor.fnExactStacksText
open Go Go.Mx
open Go.ChangeShapes Go.WideShapes Go.ChangeAt Go.RowKit
theorem own : ownKnob Tryd.prog.godebug = none := by kernel_rfl
theorem laidOut : laidOutB Tryd.prog = true := by kernel_rfl
set_option maxRecDepth 100000 in
theorem lifted (os : Os) (started : os.Started) (H : Type) (enc : TypeId × Value → H) :
    ReturnsInHanded {} Tryd.checked os 3 .any (fun w args => (Rows.fnExactStacksTextSpec.pre enc Tryd.prog Tryd.f3 Rows.fnExactStacksTextRow.domain false w args ∧ laidMetH Tryd.prog Rows.fnExactStacksTextRow.laid w) ∧ sizedMet enc Tryd.prog Tryd.f3 (OpenSpec.ofChange Rows.fnExactStacksTextSpec) false w args) (Rows.fnExactStacksTextSpec.post enc Tryd.prog Tryd.f3 false true false false) := by
  refine returnsInHanded_of_change_and (C := Tryd.checked) (X := fun w _ => laidMetH Tryd.prog Rows.fnExactStacksTextRow.laid w) (fun _ _ _ hh h => h.of_heap hh) own started (by kernel_rfl) Tryd.func3
    (ChangeSpec.witness_shaped (enc := enc) (C := Tryd.checked) (os := os) (X := fun w _ => laidMetH Tryd.prog Rows.fnExactStacksTextRow.laid w) false (World.laidAll Tryd.prog os Rows.fnExactStacksTextRow.laid) #[.agg #[.slice none 0 0]] 8 (World.laidAll_os _ _ _)
      (World.shaped_of_ZipB (by kernel_rfl) (by kernel_rfl)) (by kernel_rfl) (by kernel_rfl) (by kernel_rfl)
      (by rw [MakeChecks.laidMetH_plain _ _ _ (by kernel_rfl)]; exact laidMet_laidAll _ (by kernel_rfl) (by kernel_rfl))) ?_
  intro W base args ds gs before hval0 hW _ _ hL _
  have hW' := hW
  obtain ⟨p, q, hA0, hV, rfl, hfz, hnd⟩ := hW
  have hA : DataW.TrodAll enc Tryd.prog W 0 (fun _ => true) true Tryd.f3.params.toList args.toList ds p := hA0
  rw [Tryd.params3] at hA
  replace hval0 : ∀ (j : Nat) t v, (Tryd.f3.params)[j]? = some t → args[j]? = some v → Value.okWide Tryd.prog W .any base t v := hval0
  rw [Tryd.params3] at hval0
  obtain ⟨v0, vs0, d0, ds0, p0, q0, hargs, rfl, rfl, h0, r0⟩ := trodAll_cons hA
  obtain ⟨rfl, rfl, rfl⟩ := trodAll_nil r0
  obtain rfl : args = #[v0] := by cases args; simp_all
  obtain ⟨rfl, rfl⟩ := trodVars_none hV
  have k0 := h0
  have lt0 : ∀ x ∈ p0, x.block < W.heap.size := by obtain ⟨m, hm⟩ := k0; exact DataW.trod_lt m _ _ _ hm
  obtain ⟨fu0, hf0⟩ := h0
  obtain ⟨a0, rfl⟩ := okWide_agg (show isStruct Tryd.prog 24 = true from by kernel_rfl) (hval0 0 24 v0 rfl rfl)
  have hl0 := trod_len (show isStruct Tryd.prog 24 = true from by kernel_rfl) (show Tryd.prog.cellsOf 24 = 1 from by kernel_rfl) hf0
  obtain ⟨c0_0, ha0⟩ := len1 _ hl0
  obtain rfl : a0 = #[c0_0] := Array.ext' ha0
  replace hf0 : DataW.trod enc Tryd.prog W 0 (fun _ => true) true fu0 24 [c0_0] = some _ := hf0
  obtain ⟨_, _, g_1⟩ := trod_fld (i := 0) (show fieldT Tryd.prog 24 0 = some (22, 0, 1) from by kernel_rfl) hf0
  replace g_1 : DataW.trod enc Tryd.prog W 0 (fun _ => true) true _ 22 [c0_0] = some _ := g_1
  obtain ⟨s_2, x_3, e_4, R_5⟩ := trod_rows (show Tryd.prog.underlying 22 = some (.slice 34) from by kernel_rfl) (show Tryd.prog.underlying 34 = some (.slice 3) from by kernel_rfl) (show Tryd.prog.underlying 3 = some (.int .i64) from by kernel_rfl) (show Tryd.prog.cellsOf 34 = 1 from by kernel_rfl) (show Tryd.prog.cellsOf 3 = 1 from by kernel_rfl) g_1
  obtain rfl : c0_0 = s_2.v := by simpa using e_4
  refine (calls_of_callM (K := fun v h' => Fr No W.heap h' ∧ v = .bool true) Tryd.func3 rfl rfl (k_lawStacksText R_5 _ fun h' f => ⟨f, rfl⟩)).mono fun e W' ⟨v, he, hs, hf, hv⟩ => ?_
  subst he hv
  have bel := below_of hs hf
  exact ⟨_, rfl, _, _, _, [], _, [], hW', trodAll_mk1 (shut_bool Tryd.underlying4 _), (trodAll_cons_mk (Below.trod laidOut (by kernel_rfl) (of_decide_eq_true (by kernel_rfl)) k0 bel lt0) trodAll_mk0), rfl, bel.frame _, fun h => by cases h⟩
theorem said : Rows.FnExactStacksTextSaid :=
  OpenClaim.holds_of_wide 3 Tryd.f3 rfl rfl rfl rfl rfl rfl rfl ⟨rfl, rfl, rfl, rfl, rfl⟩ rfl rfl rfl rfl rfl (by kernel_rfl) Tryd.func3 (by kernel_rfl)
    (of_decide_eq_true (by kernel_rfl)) (by unfold Func.isWrapper; first | (rw [if_pos (by decide +kernel)]; kernel_rfl) | (rw [if_neg (by decide +kernel)]; exact ⟨rfl, rfl⟩))
    (fun os started H enc _ => lifted os started H enc)
theorem plain (f : FuncId) (fn : Func) (hf : Tryd.pinned.checked.prog.funcNamed "loop.example/g01162/laws.FnExactStacksText" = some f) (hfn : Tryd.pinned.checked.prog.funcs[f]? = some fn) : false = Tryd.pinned.checked.prog.looks [] ∧ ∀ (j : Nat) t, fn.params[j]? = some t → Tryd.pinned.checked.prog.wantsStandIn t = false := by
  obtain rfl : f = 3 := Option.some.inj ((show Tryd.prog.funcNamed "loop.example/g01162/laws.FnExactStacksText" = some 3 by kernel_rfl).symm.trans hf) |>.symm
  obtain rfl : fn = Tryd.f3 := (Option.some.inj (Tryd.func3.symm.trans hfn)).symm
  refine ⟨by kernel_rfl, fun j t ht => ?_⟩
  rw [Tryd.params3] at ht
  obtain rfl : t = 24 := by simpa using Array.mem_of_getElem? ht
  exact (show Tryd.prog.wantsStandIn 24 = false by kernel_rfl)
theorem proved : Rows.FnExactStacksTextCardSaid :=
  Claim7.holds_tied_plain_at .later [] _ _ _ _ said (fun _ h => by cases h) (by kernel_rfl) (fun _ h => by cases h) fnExactStacksText_row_tie rfl ⟨rfl, rfl⟩ (by kernel_rfl) rfl plain (by kernel_rfl)
end Go.Proofs.YtkjkfjkapbpgiaaDoor.fnExactStacksText
