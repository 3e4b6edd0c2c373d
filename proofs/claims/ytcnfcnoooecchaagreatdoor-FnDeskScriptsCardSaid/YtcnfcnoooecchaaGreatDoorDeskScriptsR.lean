import Derived.Test.YtcnfcnoooecchaaGreatDoorCards
import Derived.Test.YtcnfcnoooecchaaGreatDoorTie
import Derived.Test.YtcnfcnoooecchaaGreatDoorDeskScriptsK
import Derived.Test.YtcnfcnoooecchaaGreatDoorM5
import Derived.ChangeSame
import Derived.ChangeVars
import Derived.JoinedOf
import Derived.RowKit
import Derived.RowKitTokens
import Derived.LaidLaws
import Derived.LaidHandle
import Derived.Stop.Joined
import Derived.Lay
import Derived.SevenTiedAt
import Derived.MakeChecks
import Derived.Shelf.Vars
import Derived.Lib.LaidTab
set_option linter.unusedVariables false
set_option linter.unusedSimpArgs false
namespace Go.Proofs.YtcnfcnoooecchaaGreatDoor.fnDeskScripts
open Go Go.Mx
open Go.ChangeShapes Go.WideShapes Go.ChangeAt Go.RowKit
theorem trod_u8s {H : Type} {enc : TypeId × Value → H} {P : Program} {W : World} {base : Nat} {spare : Nat → Bool} {held : Bool} {t e : TypeId} {fuel : Nat} {cs : List Value} {x : DataW H × List MemPlace} (ht : P.underlying t = some (.slice e)) (he : P.underlying e = some (.int .u8)) (hce : P.cellsOf e = 1) (h : DataW.trod enc P W base spare held fuel t cs = some x) :
    ∃ (s : Sl) (vs : List Value), cs = [s.v] ∧ dK (Low W.heap) W.heap 1 s vs ∧ ∀ v, v ∈ vs → ∃ m : Int, v = Value.int .u8 m ∧ 0 ≤ m ∧ m ≤ 255 := by
  rcases DataW.trod_slice ht h with ⟨rfl, _⟩ | ⟨a, len, cap, elems, rest, n, _, rfl, _, hb, hl, hm, hlen, hel, _⟩
  · exact ⟨aD, [], rfl, dK.nil _ _ _, by simp⟩
  · have each : ∀ j, j < len → ∃ m : Int, W.cell? (a.add j) = some (.int .u8 m) ∧ 0 ≤ m ∧ m ≤ 255 := by
      intro j hj
      have h1 := hel j hj
      rw [hce, Nat.mul_one, List.getElem?_eq_getElem (show j < elems.length by omega), Option.bind_eq_some_iff] at h1
      obtain ⟨c, hc, hy⟩ := h1
      obtain ⟨m, rfl, _, hw⟩ := DataW.trod_int he hy
      simp only [Lit.wf, Bool.and_eq_true, decide_eq_true_eq] at hw
      have a0 : IntKind.u8.min = 0 := rfl
      have a1 : IntKind.u8.max = 255 := rfl
      rw [a0, a1] at hw
      exact ⟨m, cell_of_cells?_one hc, hw⟩
    have build : ∀ m, m ≤ len → ∃ vs : List Value, vs.length = m ∧ (∀ j (h1 : j < vs.length), W.cell? (a.add j) = some vs[j]) ∧ ∀ v, v ∈ vs → ∃ m : Int, v = Value.int .u8 m ∧ 0 ≤ m ∧ m ≤ 255 := by
      intro m
      induction m with
      | zero => intro _; exact ⟨[], rfl, fun j h1 => by simp at h1, by simp⟩
      | succ m ih =>
        intro Ki
        obtain ⟨vs, e1, hh, hv⟩ := ih (by omega)
        obtain ⟨y, c1, c2⟩ := each m (by omega)
        refine ⟨vs ++ [.int .u8 y], by simp [e1], fun j h1 => ?_, fun v X2 => ?_⟩
        · by_cases hj : j < m
          · rw [List.getElem_append_left (by omega)]
            exact hh j _
          · simp at h1
            obtain rfl : j = m := by omega
            rw [List.getElem_append_right (by omega)]
            simp only [e1, Nat.sub_self, List.getElem_cons_zero]
            exact c1
        · rcases List.mem_append.1 X2 with q | q
          · exact hv v q
          · simp only [List.mem_cons, List.not_mem_nil, or_false] at q
            exact ⟨y, q, c2⟩
    obtain ⟨vs, e1, hh, hv⟩ := build len (Nat.le_refl _)
    refine ⟨⟨some a, len, cap⟩, vs, rfl, ⟨by simp [e1], Nat.le_trans hl hm, hl, fun j hj => ?_⟩, hv⟩
    have := hh j hj
    refine ⟨a, rfl, ?_, ?_⟩
    · have := Qg this
      rwa [oL] at this
    · rw [← zx, this]
theorem laid_at {P : Program} {W : World} : ∀ {l : List (String × DataW Unit)} {ps : List MemPlace}, DataW.LaidVars P W l ps → ∀ {x : String × DataW Unit}, x ∈ l → ∃ g t cs fuel p, P.globalNamed x.1 = some g ∧ (P.globals[g]?).map (·.type) = some t ∧ W.var? P x.1 = some cs ∧ DataW.trod (fun _ => ()) P W 0 (fun _ => true) false fuel t cs.toList = some (x.2, p)
  | [], _, _, _, hx => by cases hx
  | (n, d) :: r, ps, h, x, hx => by
    obtain ⟨g, t, cs, fuel, p, q, h1, h2, h3, h4, h5, _⟩ := h
    rcases List.mem_cons.1 hx with rfl | hx
    · exact ⟨g, t, cs, fuel, p, h1, h2, h3, h4⟩
    · exact laid_at h5 hx
theorem iface_at {W : World} {n nm : String} {d : DataW Unit} {g : Nat} (hg : Tryz.prog.globalNamed n = some g) (ht : (Tryz.prog.globals[g]?).map (·.type) = some 163) (h : ∃ g t cs fuel p, Tryz.prog.globalNamed n = some g ∧ (Tryz.prog.globals[g]?).map (·.type) = some t ∧ W.var? Tryz.prog n = some cs ∧ DataW.trod (fun _ => ()) Tryz.prog W 0 (fun _ => true) false fuel t cs.toList = some (DataW.iface nm d, p)) : ∃ ev, bG W.heap ⟨g, 0, none⟩ = some ev ∧ (ev = .nilIface ∨ ∃ te pe, ev = .iface te pe) := by
  obtain ⟨g', t, cs, fuel, p, h1, h2, h3, h4⟩ := h
  obtain rfl := Option.some.inj (hg.symm.trans h1)
  obtain rfl := Option.some.inj (ht.symm.trans h2)
  obtain ⟨ms, hm⟩ := Aa
  obtain ⟨_, u, v, e, _⟩ := iface_of_trod hm h4
  obtain ⟨l⟩ := cs
  obtain rfl : l = [.iface u v] := e
  refine ⟨.iface u v, ?_, .inr ⟨u, v, rfl⟩⟩
  rw [← zx, World.var?_cell hg h3 0]
  rfl
theorem globH {W : World} (h : laidMetH Tryz.prog Rows.fnDeskScriptsRow.laid W) (hs : W.ShapedOpen Tryz.prog) : iG W.heap := by
  rw [MakeChecks.laidMetH_plain _ _ _ (by kernel_rfl)] at h
  obtain ⟨ps, hv, _⟩ := h
  refine ⟨?_, iface_at (n := "strconv.ErrSyntax") (by kernel_rfl) (by kernel_rfl) (laid_at hv (x := ("strconv.ErrSyntax", Rows.laid_strconv_ErrSyntax)) (List.mem_of_getElem? (i := 5) rfl)), iface_at (n := "strconv.ErrRange") (by kernel_rfl) (by kernel_rfl) (laid_at hv (x := ("strconv.ErrRange", Rows.laid_strconv_ErrRange)) (List.mem_of_getElem? (i := 4) rfl)), ?_⟩
  · obtain ⟨m, hm⟩ := cell_of_shapedOpen_int (g := 0) (t := 3) (zero := #[.int .i64 0]) (k := .i64) hs (of_decide_eq_true (by kernel_rfl)) (by kernel_rfl) rfl (by kernel_rfl) (by kernel_rfl) (by kernel_rfl)
    exact ⟨m, by rw [← zx]; exact hm⟩
  · obtain ⟨g, t, cs, fuel, p, h1, h2, h3, h4⟩ := laid_at hv (x := ("internal/strconv.uint64pow10", Rows.laid_internal_strconv_uint64pow10)) (List.mem_of_getElem? (i := 2) rfl)
    have hg : Tryz.prog.globalNamed "internal/strconv.uint64pow10" = some 1 := by kernel_rfl
    obtain rfl := Option.some.inj (hg.symm.trans h1)
    obtain rfl := Option.some.inj ((show (Tryz.prog.globals[1]?).map (·.type) = some 267 by kernel_rfl).symm.trans h2)
    have e := Lib.cells_of_tab (k := .u64) (zs := Lib.pow10Tab) (show Tryz.prog.underlying 267 = some (.array 20 66) from by kernel_rfl) (show Tryz.prog.underlying 66 = some (.int .u64) from by kernel_rfl) (show Tryz.prog.cellsOf 66 = 1 from by kernel_rfl) (show Tryz.prog.cellsOf 267 = 20 from by kernel_rfl) h4
    simp only [World.var?, hg, Option.bind_some] at h3
    split at h3
    · rename_i c T f hc
      have h3 := Option.some.inj h3
      subst h3
      refine ⟨T, f, ?_⟩
      rw [hc, ← e]
    · cases h3
theorem own : ownKnob Tryz.prog.godebug = none := by kernel_rfl
theorem laidOut : laidOutB Tryz.prog = true := by kernel_rfl
set_option maxRecDepth 100000 in
theorem lifted (os : Os) (started : os.Started) (H : Type) (enc : TypeId × Value → H) :
    ReturnsInHanded {} Tryz.checked os 5 .any (fun w args => (Rows.fnDeskScriptsSpec.pre enc Tryz.prog Tryz.f5 Rows.fnDeskScriptsRow.domain false w args ∧ laidMetH Tryz.prog Rows.fnDeskScriptsRow.laid w) ∧ sizedMet enc Tryz.prog Tryz.f5 (OpenSpec.ofChange Rows.fnDeskScriptsSpec) false w args) (Rows.fnDeskScriptsSpec.post enc Tryz.prog Tryz.f5 false true false false) := by
  refine returnsInHanded_of_calls (C := Tryz.checked) own started (by kernel_rfl)
    (ChangeSpec.witness_shaped (enc := enc) (C := Tryz.checked) (os := os) (X := fun w _ => laidMetH Tryz.prog Rows.fnDeskScriptsRow.laid w) false (World.laidAll Tryz.prog os Rows.fnDeskScriptsRow.laid) #[.slice none 0 0, .slice none 0 0] 8 (World.laidAll_os _ _ _)
      (World.shaped_of_ZipB (by kernel_rfl) (by kernel_rfl)) (by kernel_rfl) (by kernel_rfl) (by kernel_rfl)
      (by rw [MakeChecks.laidMetH_plain _ _ _ (by kernel_rfl)]; exact laidMet_laidAll _ (by kernel_rfl) (by kernel_rfl))) ?_
  suffices key : ∀ (W : World) (base : Nat) (args : Array Value) (ds gs : List (DataW H)) (before : List MemPlace), (∀ (j : Nat) t v, Tryz.f5.params[j]? = some t → args[j]? = some v → Value.okWide Tryz.prog W .any base t v) → DataW.Whole enc Tryz.prog Tryz.f5.params.toList (Rows.fnDeskScriptsSpec).vars false W args.toList ds gs before → laidMetH Tryz.prog Rows.fnDeskScriptsRow.laid W → W.ShapedOpen Tryz.prog →
      Calls Tryz.prog 5 args W (fun e W' => ∃ v, e = .returned v ∧ Rows.fnDeskScriptsSpec.post enc Tryz.prog Tryz.f5 false true false false W args v W') by
    intro w tape i _ hsh _ hok hpre _
    obtain ⟨_, _, _, fn', hfn', _, _, _, _, hval⟩ := hok
    obtain rfl : fn' = Tryz.f5 := Option.some.inj (hfn'.symm.trans Tryz.func5)
    obtain ⟨⟨⟨ds, gs, before, hw, _⟩, hx⟩, _⟩ := hpre
    refine (key (w.forCall tape i) w.heap.size i.args ds gs before hval (DataW.Whole.of_heap (w' := w.forCall tape i) (by rfl) hw) (hx.of_heap (by rfl)) hsh).mono fun e W' ⟨v, he, hp⟩ => ?_
    subst he
    exact ChangeSpec.post_blind hp
  intro W base args ds gs before hval0 hW hL hSh
  have hW' := hW
  obtain ⟨p, q, hA0, hV, rfl, hfz, hnd⟩ := hW
  have hA : DataW.TrodAll enc Tryz.prog W 0 (fun _ => true) true Tryz.f5.params.toList args.toList ds p := hA0
  rw [Tryz.params5] at hA
  replace hval0 : ∀ (j : Nat) t v, (Tryz.f5.params)[j]? = some t → args[j]? = some v → Value.okWide Tryz.prog W .any base t v := hval0
  rw [Tryz.params5] at hval0
  obtain ⟨v0, vs0, d0, ds0, p0, q0, hargs, rfl, rfl, h0, r0⟩ := trodAll_cons hA
  obtain ⟨v1, vs1, d1, ds1, p1, q1, rfl, rfl, rfl, h1, r1⟩ := trodAll_cons r0
  obtain ⟨rfl, rfl, rfl⟩ := trodAll_nil r1
  obtain rfl : args = #[v0, v1] := by cases args; simp_all
  obtain ⟨rfl, rfl⟩ := trodVars_none hV
  have k0 := h0
  have lt0 : ∀ x ∈ p0, x.block < W.heap.size := by obtain ⟨m, hm⟩ := k0; exact DataW.trod_lt m _ _ _ hm
  obtain ⟨fu0, hf0⟩ := h0
  obtain ⟨a0, l0, q0, rfl⟩ := okWide_slice (show Tryz.prog.underlying 22 = some (.slice 5) from by kernel_rfl) (hval0 0 22 v0 rfl rfl)
  replace hf0 : DataW.trod enc Tryz.prog W 0 (fun _ => true) true fu0 22 [.slice a0 l0 q0] = some _ := hf0
  obtain ⟨s0, x0, e0, R0, B0⟩ := trod_u8s (show Tryz.prog.underlying 22 = some (.slice 5) from by kernel_rfl) (show Tryz.prog.underlying 5 = some (.int .u8) from by kernel_rfl) (show Tryz.prog.cellsOf 5 = 1 from by kernel_rfl) hf0
  simp only [List.cons.injEq, Value.slice.injEq, and_true] at e0; obtain ⟨rfl, rfl, rfl⟩ := e0
  have k1 := h1
  have lt1 : ∀ x ∈ p1, x.block < W.heap.size := by obtain ⟨m, hm⟩ := k1; exact DataW.trod_lt m _ _ _ hm
  obtain ⟨fu1, Zf⟩ := h1
  obtain ⟨a1, l1, q1, rfl⟩ := okWide_slice (show Tryz.prog.underlying 22 = some (.slice 5) from by kernel_rfl) (hval0 1 22 v1 rfl rfl)
  replace Zf : DataW.trod enc Tryz.prog W 0 (fun _ => true) true fu1 22 [.slice a1 l1 q1] = some _ := Zf
  obtain ⟨s1, x1, e1, R1, B1⟩ := trod_u8s (show Tryz.prog.underlying 22 = some (.slice 5) from by kernel_rfl) (show Tryz.prog.underlying 5 = some (.int .u8) from by kernel_rfl) (show Tryz.prog.cellsOf 5 = 1 from by kernel_rfl) Zf
  simp only [List.cons.injEq, Value.slice.injEq, and_true] at e1; obtain ⟨rfl, rfl, rfl⟩ := e1
  refine (AK (K := fun v h' => Fr No W.heap h' ∧ v = .bool true) Tryz.func5 rfl rfl (yu (globH hL hSh) R0 B0 R1 B1 _ fun h' f => ⟨f, rfl⟩)).mono fun e W' ⟨v, he, hs, hf, hv⟩ => ?_
  subst he hv
  have bel := Qf hs hf
  exact ⟨_, rfl, _, _, _, [], _, [], hW', trodAll_mk1 (shut_bool Tryz.underlying4 _), (trodAll_cons_mk (Below.trod laidOut (by kernel_rfl) (of_decide_eq_true (by kernel_rfl)) k0 bel lt0) (trodAll_cons_mk (Below.trod laidOut (by kernel_rfl) (of_decide_eq_true (by kernel_rfl)) k1 bel lt1) trodAll_mk0)), rfl, bel.frame _, fun h => by cases h⟩
theorem f1 : (Rows.fnDeskScriptsRow.inPlace == Tryz.pinned.checked.prog.inPlace 5) = true := by kernel_rfl
theorem f2 : (Rows.fnDeskScriptsRow.unfollowed == Tryz.pinned.checked.prog.unfollowed 5) = true := by kernel_rfl
theorem f3 : (Rows.fnDeskScriptsRow.recurses == Tryz.pinned.checked.prog.recurses 5) = true := by kernel_rfl
theorem f4 : (Rows.fnDeskScriptsRow.named == Tryz.pinned.checked.prog.varsNamed 5) = true := by kernel_rfl
theorem closed : joinedFacts Tryz.pinned.checked.prog 5 Tryz.f5 Rows.fnDeskScriptsSpec Rows.fnDeskScriptsRow = true := by
  unfold joinedFacts
  rw [f1, f2, f3, f4]
  kernel_rfl
theorem nmd : Tryz.pinned.checked.prog.funcNamed Rows.fnDeskScriptsRow.func = some 5 := by kernel_rfl
theorem inst : Tryz.f5.isInstance Tryz.pinned.checked.prog Rows.fnDeskScriptsRow.origin Rows.fnDeskScriptsRow.targs := of_decide_eq_true (by kernel_rfl)
theorem wrap : Tryz.f5.isWrapper Tryz.pinned.checked.prog Rows.fnDeskScriptsRow.wrapper Rows.fnDeskScriptsRow.mainSum := by unfold Func.isWrapper; first | (rw [if_pos (by decide +kernel)]; kernel_rfl) | (rw [if_neg (by decide +kernel)]; exact ⟨rfl, rfl⟩)
theorem said : Rows.FnDeskScriptsSaid :=
  OpenClaim.holds_of_wide 5 Tryz.f5 rfl rfl rfl rfl rfl rfl rfl ⟨rfl, rfl, rfl, rfl, rfl⟩ rfl rfl rfl rfl rfl nmd Tryz.func5 closed inst wrap
    (fun os started H enc _ => lifted os started H enc)
theorem plain (f : FuncId) (fn : Func) (hf : Tryz.pinned.checked.prog.funcNamed "loop.example/g01162/laws.FnDeskScripts" = some f) (hfn : Tryz.pinned.checked.prog.funcs[f]? = some fn) : true = Tryz.pinned.checked.prog.looks [] ∧ ∀ (j : Nat) t, fn.params[j]? = some t → Tryz.pinned.checked.prog.wantsStandIn t = false := by
  obtain rfl : f = 5 := Option.some.inj ((show Tryz.prog.funcNamed "loop.example/g01162/laws.FnDeskScripts" = some 5 by kernel_rfl).symm.trans hf) |>.symm
  obtain rfl : fn = Tryz.f5 := (Option.some.inj (Tryz.func5.symm.trans hfn)).symm
  refine ⟨by kernel_rfl, fun j t ht => ?_⟩
  rw [Tryz.params5] at ht
  obtain rfl : t = 22 := by simpa using Array.mem_of_getElem? ht
  exact (show Tryz.prog.wantsStandIn 22 = false by kernel_rfl)
theorem proved : Rows.FnDeskScriptsCardSaid :=
  Claim7.holds_tied_plain_at .later [] _ _ _ _ said (fun _ h => by cases h) (by kernel_rfl) (fun _ h => by cases h) fnDeskScripts_row_tie rfl ⟨rfl, rfl⟩ (by kernel_rfl) rfl plain (by kernel_rfl)
end Go.Proofs.YtcnfcnoooecchaaGreatDoor.fnDeskScripts
