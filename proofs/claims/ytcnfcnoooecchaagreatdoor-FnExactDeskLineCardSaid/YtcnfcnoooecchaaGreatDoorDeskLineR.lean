import Derived.Test.YtcnfcnoooecchaaGreatDoorCards
import Derived.Test.YtcnfcnoooecchaaGreatDoorTie
import Derived.Test.YtcnfcnoooecchaaGreatDoorDeskLineK
import Derived.Test.YtcnfcnoooecchaaGreatDoorM5
import Derived.ChangeSame
import Derived.ChangeVars
import Derived.JoinedOf
import Derived.RowKit
import Derived.RowKitTokens
import Derived.LaidLaws
import Derived.LaidHandle
import Derived.Stop.Joined
import Derived.Lay
import Derived.SevenTiedAt
import Derived.MakeChecks
import Derived.Shelf.Vars
import Derived.Lib.LaidTab
set_option linter.unusedVariables false
set_option linter.unusedSimpArgs false
namespace Go.Proofs.YtcnfcnoooecchaaGreatDoor.fnExactDeskLine
open Go Go.Mx
open Go.ChangeShapes Go.WideShapes Go.ChangeAt Go.RowKit
theorem laid_at {P : Program} {W : World} : ∀ {l : List (String × DataW Unit)} {ps : List MemPlace}, DataW.LaidVars P W l ps → ∀ {x : String × DataW Unit}, x ∈ l → ∃ g t cs oI p, P.globalNamed x.1 = some g ∧ (P.globals[g]?).map (·.type) = some t ∧ W.var? P x.1 = some cs ∧ DataW.trod (fun _ => ()) P W 0 (fun _ => true) false oI t cs.toList = some (x.2, p)
  | [], _, _, _, hx => by cases hx
  | (n, d) :: r, ps, h, x, hx => by
    obtain ⟨g, t, cs, oI, p, q, h1, h2, h3, h4, h5, _⟩ := h
    rcases List.mem_cons.1 hx with rfl | hx
    · exact ⟨g, t, cs, oI, p, h1, h2, h3, h4⟩
    · exact laid_at h5 hx
theorem iface_at {W : World} {n nm : String} {d : DataW Unit} {g : Nat} (hg : Tryz.prog.globalNamed n = some g) (ht : (Tryz.prog.globals[g]?).map (·.type) = some 163) (h : ∃ g t cs oI p, Tryz.prog.globalNamed n = some g ∧ (Tryz.prog.globals[g]?).map (·.type) = some t ∧ W.var? Tryz.prog n = some cs ∧ DataW.trod (fun _ => ()) Tryz.prog W 0 (fun _ => true) false oI t cs.toList = some (DataW.iface nm d, p)) : ∃ ev, aQ W.heap ⟨g, 0, none⟩ = some ev ∧ (ev = .nilIface ∨ ∃ te pe, ev = .iface te pe) := by
  obtain ⟨g', t, cs, oI, p, h1, h2, h3, h4⟩ := h
  obtain rfl := Option.some.inj (hg.symm.trans h1)
  obtain rfl := Option.some.inj (ht.symm.trans h2)
  obtain ⟨ms, hm⟩ := wI
  obtain ⟨_, u, v, e, _⟩ := iface_of_trod hm h4
  obtain ⟨l⟩ := cs
  obtain rfl : l = [.iface u v] := e
  refine ⟨.iface u v, ?_, .inr ⟨u, v, rfl⟩⟩
  rw [← rT, World.var?_cell hg h3 0]
  rfl
theorem globH {W : World} (h : laidMetH Tryz.prog Rows.fnExactDeskLineRow.laid W) (hs : W.ShapedOpen Tryz.prog) : gV W.heap := by
  rw [MakeChecks.laidMetH_plain _ _ _ (by kernel_rfl)] at h
  obtain ⟨ps, hv, _⟩ := h
  refine ⟨?_, iface_at (n := "strconv.ErrSyntax") (by kernel_rfl) (by kernel_rfl) (laid_at hv (x := ("strconv.ErrSyntax", Rows.laid_strconv_ErrSyntax)) (List.mem_of_getElem? (i := 5) rfl)), iface_at (n := "strconv.ErrRange") (by kernel_rfl) (by kernel_rfl) (laid_at hv (x := ("strconv.ErrRange", Rows.laid_strconv_ErrRange)) (List.mem_of_getElem? (i := 4) rfl)), ?_⟩
  · obtain ⟨m, hm⟩ := cell_of_shapedOpen_int (g := 0) (t := 3) (zero := #[.int .i64 0]) (k := .i64) hs (of_decide_eq_true (by kernel_rfl)) (by kernel_rfl) rfl (by kernel_rfl) (by kernel_rfl) (by kernel_rfl)
    exact ⟨m, by rw [← rT]; exact hm⟩
  · obtain ⟨g, t, cs, oI, p, h1, h2, h3, h4⟩ := laid_at hv (x := ("internal/strconv.uint64pow10", Rows.laid_internal_strconv_uint64pow10)) (List.mem_of_getElem? (i := 2) rfl)
    have hg : Tryz.prog.globalNamed "internal/strconv.uint64pow10" = some 1 := by kernel_rfl
    obtain rfl := Option.some.inj (hg.symm.trans h1)
    obtain rfl := Option.some.inj ((show (Tryz.prog.globals[1]?).map (·.type) = some 267 by kernel_rfl).symm.trans h2)
    have e := Lib.cells_of_tab (k := .u64) (zs := Lib.pow10Tab) (show Tryz.prog.underlying 267 = some (.array 20 66) from by kernel_rfl) (show Tryz.prog.underlying 66 = some (.int .u64) from by kernel_rfl) (show Tryz.prog.cellsOf 66 = 1 from by kernel_rfl) (show Tryz.prog.cellsOf 267 = 20 from by kernel_rfl) h4
    simp only [World.var?, hg, Option.bind_some] at h3
    split at h3
    · rename_i c T f hc
      have h3 := Option.some.inj h3
      subst h3
      refine ⟨T, f, ?_⟩
      rw [hc, ← e]
    · cases h3
theorem own : ownKnob Tryz.prog.godebug = none := by kernel_rfl
theorem laidOut : laidOutB Tryz.prog = true := by kernel_rfl
set_option maxRecDepth 100000 in
theorem lifted (os : Os) (started : os.Started) (H : Type) (enc : TypeId × Value → H) :
    ReturnsInHanded {} Tryz.checked os 4 .any (fun w args => (Rows.fnExactDeskLineSpec.pre enc Tryz.prog Tryz.f4 Rows.fnExactDeskLineRow.domain false w args ∧ laidMetH Tryz.prog Rows.fnExactDeskLineRow.laid w) ∧ sizedMet enc Tryz.prog Tryz.f4 (OpenSpec.ofChange Rows.fnExactDeskLineSpec) false w args) (Rows.fnExactDeskLineSpec.post enc Tryz.prog Tryz.f4 false true false false) := by
  refine returnsInHanded_of_calls (C := Tryz.checked) own started (by kernel_rfl)
    (ChangeSpec.witness_shaped (enc := enc) (C := Tryz.checked) (os := os) (X := fun w _ => laidMetH Tryz.prog Rows.fnExactDeskLineRow.laid w) false (World.laidAll Tryz.prog os Rows.fnExactDeskLineRow.laid) #[.agg #[.slice none 0 0, .slice none 0 0, .int .i64 0], .string ByteArray.empty] 8 (World.laidAll_os _ _ _)
      (World.shaped_of_ZipB (by kernel_rfl) (by kernel_rfl)) (by kernel_rfl) (by kernel_rfl) (by kernel_rfl)
      (by rw [MakeChecks.laidMetH_plain _ _ _ (by kernel_rfl)]; exact laidMet_laidAll _ (by kernel_rfl) (by kernel_rfl))) ?_
  suffices key : ∀ (W : World) (base : Nat) (args : Array Value) (ds gs : List (DataW H)) (before : List MemPlace), (∀ (j : Nat) t v, Tryz.f4.params[j]? = some t → args[j]? = some v → Value.okWide Tryz.prog W .any base t v) → DataW.Whole enc Tryz.prog Tryz.f4.params.toList (Rows.fnExactDeskLineSpec).vars false W args.toList ds gs before → laidMetH Tryz.prog Rows.fnExactDeskLineRow.laid W → W.ShapedOpen Tryz.prog →
      Calls Tryz.prog 4 args W (fun e W' => ∃ v, e = .returned v ∧ Rows.fnExactDeskLineSpec.post enc Tryz.prog Tryz.f4 false true false false W args v W') by
    intro w tape i _ hsh _ hok hpre _
    obtain ⟨_, _, _, fn', hfn', _, _, _, _, hval⟩ := hok
    obtain rfl : fn' = Tryz.f4 := Option.some.inj (hfn'.symm.trans Tryz.func4)
    obtain ⟨⟨⟨ds, gs, before, hw, _⟩, hx⟩, _⟩ := hpre
    refine (key (w.forCall tape i) w.heap.size i.args ds gs before hval (DataW.Whole.of_heap (w' := w.forCall tape i) (by rfl) hw) (hx.of_heap (by rfl)) hsh).mono fun e W' ⟨v, he, hp⟩ => ?_
    subst he
    exact ChangeSpec.post_blind hp
  intro W base args ds gs before hval0 hW hL hSh
  have hW' := hW
  obtain ⟨p, q, hA0, hV, rfl, hfz, hnd⟩ := hW
  have hA : DataW.TrodAll enc Tryz.prog W 0 (fun _ => true) true Tryz.f4.params.toList args.toList ds p := hA0
  rw [Tryz.params4] at hA
  replace hval0 : ∀ (j : Nat) t v, (Tryz.f4.params)[j]? = some t → args[j]? = some v → Value.okWide Tryz.prog W .any base t v := hval0
  rw [Tryz.params4] at hval0
  obtain ⟨v0, vs0, d0, ds0, p0, q0, hargs, rfl, rfl, h0, r0⟩ := trodAll_cons hA
  obtain ⟨v1, vs1, d1, ds1, p1, q1, rfl, rfl, rfl, h1, r1⟩ := trodAll_cons r0
  obtain ⟨rfl, rfl, rfl⟩ := trodAll_nil r1
  obtain rfl : args = #[v0, v1] := by cases args; simp_all
  obtain ⟨rfl, rfl⟩ := trodVars_none hV
  have k0 := h0
  have lt0 : ∀ x ∈ p0, x.block < W.heap.size := by obtain ⟨m, hm⟩ := k0; exact DataW.trod_lt m _ _ _ hm
  obtain ⟨fu0, hf0⟩ := h0
  obtain ⟨a0, rfl⟩ := HB (show mn Tryz.prog 46 = true from by kernel_rfl) (hval0 0 46 v0 rfl rfl)
  have hl0 := Nq (show mn Tryz.prog 46 = true from by kernel_rfl) (show Tryz.prog.cellsOf 46 = 3 from by kernel_rfl) hf0
  obtain ⟨c0_0, c0_1, c0_2, ha0⟩ := ae7 _ hl0
  obtain rfl : a0 = #[c0_0, c0_1, c0_2] := Array.ext' ha0
  replace hf0 : DataW.trod enc Tryz.prog W 0 (fun _ => true) true fu0 46 [c0_0, c0_1, c0_2] = some _ := hf0
  obtain ⟨_, _, g_1⟩ := oJ (i := 0) (show qP Tryz.prog 46 0 = some (43, 0, 1) from by kernel_rfl) hf0
  replace g_1 : DataW.trod enc Tryz.prog W 0 (fun _ => true) true _ 43 [c0_0] = some _ := g_1
  obtain ⟨_, _, g_2⟩ := oJ (i := 0) (show qP Tryz.prog 43 0 = some (24, 0, 1) from by kernel_rfl) g_1
  replace g_2 : DataW.trod enc Tryz.prog W 0 (fun _ => true) true _ 24 [c0_0] = some _ := g_2
  obtain ⟨s_3, x_4, e_5, R_6⟩ := Lp (show Tryz.prog.underlying 24 = some (.slice 27) from by kernel_rfl) (show Tryz.prog.underlying 27 = some (.slice 3) from by kernel_rfl) (show Tryz.prog.underlying 3 = some (.int .i64) from by kernel_rfl) (show Tryz.prog.cellsOf 27 = 1 from by kernel_rfl) (show Tryz.prog.cellsOf 3 = 1 from by kernel_rfl) g_2
  obtain rfl : c0_0 = s_3.v := by simpa using e_5
  obtain ⟨_, _, g_7⟩ := oJ (i := 1) (show qP Tryz.prog 46 1 = some (44, 1, 2) from by kernel_rfl) hf0
  replace g_7 : DataW.trod enc Tryz.prog W 0 (fun _ => true) true _ 44 [c0_1, c0_2] = some _ := g_7
  obtain ⟨_, _, g_8⟩ := oJ (i := 0) (show qP Tryz.prog 44 0 = some (27, 0, 1) from by kernel_rfl) g_7
  replace g_8 : DataW.trod enc Tryz.prog W 0 (fun _ => true) true _ 27 [c0_1] = some _ := g_8
  obtain ⟨s_9, Je, e_11, R_12, _⟩ := AN (show Tryz.prog.underlying 27 = some (.slice 3) from by kernel_rfl) (show Tryz.prog.underlying 3 = some (.int .i64) from by kernel_rfl) (show Tryz.prog.cellsOf 3 = 1 from by kernel_rfl) g_8
  obtain rfl : c0_1 = s_9.v := by simpa using e_11
  obtain ⟨_, _, g_13⟩ := oJ (i := 1) (show qP Tryz.prog 44 1 = some (3, 1, 1) from by kernel_rfl) g_7
  replace g_13 : DataW.trod enc Tryz.prog W 0 (fun _ => true) true _ 3 [c0_2] = some _ := g_13
  obtain ⟨n_14, e_15, w_16⟩ := Np (show Tryz.prog.underlying 3 = some (.int .i64) from by kernel_rfl) g_13
  obtain rfl : c0_2 = VI n_14 := by simpa using e_15
  have k1 := h1
  have lt1 : ∀ x ∈ p1, x.block < W.heap.size := by obtain ⟨m, hm⟩ := k1; exact DataW.trod_lt m _ _ _ hm
  obtain ⟨fu1, hf1⟩ := h1
  obtain ⟨n1, rfl⟩ := okWide_string (show Tryz.prog.underlying 9 = some .string from by kernel_rfl) (hval0 1 9 v1 rfl rfl)
  have z1 : n1.size ≤ maxLen := by obtain ⟨z, e, _, m⟩ := DataW.trod_string (show Tryz.prog.underlying 9 = some .string from by kernel_rfl) hf1; simp [Value.cells] at e; subst e; exact m
  refine (xm (K := fun v h' => Fr No W.heap h' ∧ v = .bool true) Tryz.func4 rfl rfl (Ao (globH hL hSh) R_6 R_12 n_14 n1 z1 _ fun h' f => ⟨f, rfl⟩)).mono fun e W' ⟨v, he, hs, hf, hv⟩ => ?_
  subst he hv
  have bel := Nn hs hf
  exact ⟨_, rfl, _, _, _, [], _, [], hW', trodAll_mk1 (shut_bool Tryz.underlying4 _), (trodAll_cons_mk (Below.trod laidOut (by kernel_rfl) (of_decide_eq_true (by kernel_rfl)) k0 bel lt0) (trodAll_cons_mk (Below.trod laidOut (by kernel_rfl) (of_decide_eq_true (by kernel_rfl)) k1 bel lt1) trodAll_mk0)), rfl, bel.frame _, fun h => by cases h⟩
theorem f1 : (Rows.fnExactDeskLineRow.inPlace == Tryz.pinned.checked.prog.inPlace 4) = true := by kernel_rfl
theorem f2 : (Rows.fnExactDeskLineRow.unfollowed == Tryz.pinned.checked.prog.unfollowed 4) = true := by kernel_rfl
theorem f3 : (Rows.fnExactDeskLineRow.recurses == Tryz.pinned.checked.prog.recurses 4) = true := by kernel_rfl
theorem f4 : (Rows.fnExactDeskLineRow.named == Tryz.pinned.checked.prog.varsNamed 4) = true := by kernel_rfl
theorem closed : joinedFacts Tryz.pinned.checked.prog 4 Tryz.f4 Rows.fnExactDeskLineSpec Rows.fnExactDeskLineRow = true := by
  unfold joinedFacts
  rw [f1, f2, f3, f4]
  kernel_rfl
theorem nmd : Tryz.pinned.checked.prog.funcNamed Rows.fnExactDeskLineRow.func = some 4 := by kernel_rfl
theorem inst : Tryz.f4.isInstance Tryz.pinned.checked.prog Rows.fnExactDeskLineRow.origin Rows.fnExactDeskLineRow.targs := of_decide_eq_true (by kernel_rfl)
theorem wrap : Tryz.f4.isWrapper Tryz.pinned.checked.prog Rows.fnExactDeskLineRow.wrapper Rows.fnExactDeskLineRow.mainSum := by unfold Func.isWrapper; first | (rw [if_pos (by decide +kernel)]; kernel_rfl) | (rw [if_neg (by decide +kernel)]; exact ⟨rfl, rfl⟩)
theorem said : Rows.FnExactDeskLineSaid :=
  OpenClaim.holds_of_wide 4 Tryz.f4 rfl rfl rfl rfl rfl rfl rfl ⟨rfl, rfl, rfl, rfl, rfl⟩ rfl rfl rfl rfl rfl nmd Tryz.func4 closed inst wrap
    (fun os started H enc _ => lifted os started H enc)
theorem plain (f : FuncId) (fn : Func) (hf : Tryz.pinned.checked.prog.funcNamed "loop.example/g01162/laws.FnExactDeskLine" = some f) (hfn : Tryz.pinned.checked.prog.funcs[f]? = some fn) : true = Tryz.pinned.checked.prog.looks [] ∧ ∀ (j : Nat) t, fn.params[j]? = some t → Tryz.pinned.checked.prog.wantsStandIn t = false := by
  obtain rfl : f = 4 := Option.some.inj ((show Tryz.prog.funcNamed "loop.example/g01162/laws.FnExactDeskLine" = some 4 by kernel_rfl).symm.trans hf) |>.symm
  obtain rfl : fn = Tryz.f4 := (Option.some.inj (Tryz.func4.symm.trans hfn)).symm
  refine ⟨by kernel_rfl, fun j t ht => ?_⟩
  rw [Tryz.params4] at ht
  have hm : t = 46 ∨ t = 9 := by simpa using Array.mem_of_getElem? ht
  rcases hm with rfl | rfl
  · exact (show Tryz.prog.wantsStandIn 46 = false by kernel_rfl)
  · exact (show Tryz.prog.wantsStandIn 9 = false by kernel_rfl)
theorem proved : Rows.FnExactDeskLineCardSaid :=
  Claim7.holds_tied_plain_at .later [] _ _ _ _ said (fun _ h => by cases h) (by kernel_rfl) (fun _ h => by cases h) fnExactDeskLine_row_tie rfl ⟨rfl, rfl⟩ (by kernel_rfl) rfl plain (by kernel_rfl)
end Go.Proofs.YtcnfcnoooecchaaGreatDoor.fnExactDeskLine
