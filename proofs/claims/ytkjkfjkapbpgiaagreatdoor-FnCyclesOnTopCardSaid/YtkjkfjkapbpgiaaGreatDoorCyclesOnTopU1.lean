import Derived.Test.YtkjkfjkapbpgiaaGreatDoorCyclesOnTopU
import Derived.Test.YtkjkfjkapbpgiaaGreatDoorCyclesOnTopT
import Derived.Test.YtkjkfjkapbpgiaaGreatDoorM2
set_option linter.unusedVariables false
set_option linter.unusedSimpArgs false
set_option maxRecDepth 100000
set_option maxHeartbeats 16000000
namespace Go.Proofs.YtkjkfjkapbpgiaaGreatDoor
open Go Go.Mx
theorem v3 (code0_1 : Sl) (more1_1 : Sl) (h : Heap) (K : Value -> Heap -> Prop) (H : u3 Tryz.prog code0_1 more1_1 h K) : callM Tryz.prog 3 #[code0_1.v, more1_1.v] h K := by
  refine c3 code0_1.v more1_1.v h K ?_
  unfold u3 at H
  unfold t3
  have hL : Vars h [] := .nil
  refine H.mono fun r1 h1 H => ?_
  obtain ⟨s63, rfl, hL1, H⟩ := H
  refine condM_b (fun hb1 => ?_) (fun hb1 => ?_)
  ·exact H.1 hb1
  have H := H.2 hb1
  refine H.mono fun r2 h2 H => ?_
  obtain ⟨s66, s66b, s66c, rfl, hL2, H⟩ := H
  refine pop_ext (v := (Value.agg #[s66.v])) rfl ?_
  refine pop_ext (v := (VI s66b)) rfl ?_
  refine pop_ext (v := (Value.agg #[s66c.v])) rfl ?_
  refine eop_alloc 26 zer26 rfl hL2 (fun b1 h3 hb2 hf1 hL3 => ?_)
  refine eop_alloc 28 zer28 rfl hL3 (fun b2 h4 hb3 hf2 hL4 => ?_)
  refine ul siz26 hL4 1 0 [s66.v] [(b2, [nilSl.v]), (b1, [s66.v])] (fun h5 hf3 hL5 => ?_)
  refine ul siz28 hL5 0 0 [s66c.v] [(b2, [s66c.v]), (b1, [s66.v])] (fun h6 hf4 hL6 => ?_)
  refine ra agg26 hL6 1 0 [s66.v] ?_
  refine ra agg28 hL6 0 0 [s66c.v] ?_
  have H := H b1 b2 h6 hb2 (Nat.le_trans (Fr.size (Fr.no' (Fr.r (In []) _) hf1)) hb3) (Fr.new (Fr.new (Fr.no' (Fr.no' (Fr.r (In []) _) hf1) hf2) hb2 hf3) (Nat.le_trans (Fr.size (Fr.no' (Fr.r (In []) _) hf1)) hb3) hf4) hL6
  refine H.mono fun r3 h7 H => ?_
  obtain ⟨s74, s74b, rfl, hL7, H⟩ := H
  refine pop_ext (v := s74.v) rfl ?_
  refine pop_ext (v := (VB s74b)) rfl ?_
  refine ra agg26 hL7 1 0 [s66.v] ?_
  refine ra agg28 hL7 0 0 [s66c.v] ?_
  refine H.mono fun r4 h8 H => ?_
  obtain ⟨s81, s81b, rfl, hL8, H⟩ := H
  refine pop_ext (v := s81.v) rfl ?_
  refine pop_ext (v := (VB s81b)) rfl ?_
  refine ra agg26 hL8 1 0 [s66.v] ?_
  refine ra agg28 hL8 0 0 [s66c.v] ?_
  refine H.mono fun r5 h9 H => ?_
  obtain ⟨s88, s88b, rfl, hL9, H⟩ := H
  refine pop_ext (v := s88.v) rfl ?_
  refine pop_ext (v := (VB s88b)) rfl ?_
  refine ra agg26 hL9 1 0 [s66.v] ?_
  refine ra agg28 hL9 0 0 [s66c.v] ?_
  refine H.mono fun r6 h10 H => ?_
  obtain ⟨s95, s95b, rfl, hL10, H⟩ := H
  refine pop_ext (v := s95.v) rfl ?_
  refine pop_ext (v := (VB s95b)) rfl ?_
  refine ra agg26 hL10 1 0 [s66.v] ?_
  refine ra agg28 hL10 0 0 [s66c.v] ?_
  refine H.mono fun r7 h11 H => ?_
  obtain ⟨s102, s102b, rfl, hL11, H⟩ := H
  refine pop_ext (v := (VB s102)) rfl ?_
  refine pop_ext (v := (VB s102b)) rfl ?_
  refine ra agg26 hL11 1 0 [s66.v] ?_
  refine ra agg28 hL11 0 0 [s66c.v] ?_
  refine H.mono fun r8 h12 H => ?_
  obtain ⟨s109, s109b, rfl, hL12, H⟩ := H
  refine pop_ext (v := (VB s109)) rfl ?_
  refine pop_ext (v := (VB s109b)) rfl ?_
  refine ra agg26 hL12 1 0 [s66.v] ?_
  refine ra agg28 hL12 0 0 [s66c.v] ?_
  refine H.mono fun r9 h13 H => ?_
  obtain ⟨s116, s116b, rfl, hL13, H⟩ := H
  refine pop_ext (v := s116.v) rfl ?_
  refine pop_ext (v := (VB s116b)) rfl ?_
  refine ra agg26 hL13 1 0 [s66.v] ?_
  refine ra agg28 hL13 0 0 [s66c.v] ?_
  refine H.mono fun r10 h14 H => ?_
  obtain ⟨s123, s123b, rfl, hL14, H⟩ := H
  refine pop_ext (v := s123.v) rfl ?_
  refine pop_ext (v := (VB s123b)) rfl ?_
  refine pop_bne boo4 _ _ s74b s81b ?_
  refine guardM_sf (fun hb4 => ?_) (fun hb4 => ?_)
  rotate_left
  ·have H := H.1 hb4
   refine gm hb4 ?_
   refine gm hb4 ?_
   refine gm hb4 ?_
   refine pop_pickt' hb4 ?_
   refine gn ?_
   refine gn ?_
   refine gn ?_
   refine pop_pickt _ _ ?_
   refine gn ?_
   refine gn ?_
   refine gn ?_
   refine gn ?_
   refine pop_pickt _ _ ?_
   refine gn ?_
   refine gn ?_
   refine gn ?_
   refine pop_pickt _ _ ?_
   refine gn ?_
   refine gn ?_
   refine gn ?_
   refine pop_pickt _ _ ?_
   refine gn ?_
   refine gn ?_
   refine gn ?_
   refine pop_pickt _ _ ?_
   refine gn ?_
   refine gn ?_
   refine gn ?_
   refine gn ?_
   refine pop_pickt _ _ ?_
   refine gn ?_
   refine gn ?_
   refine gn ?_
   refine gn ?_
   refine gn ?_
   refine gn ?_
   refine pop_pickt _ _ ?_
   refine gn ?_
   refine gn ?_
   refine gn ?_
   refine gn ?_
   refine gn ?_
   refine gn ?_
   refine gn ?_
   refine gn ?_
   refine pop_pickt _ _ ?_
   refine gn ?_
   refine gn ?_
   refine gn ?_
   refine gn ?_
   refine gn ?_
   refine pop_pickt _ _ ?_
   refine condM_t ?_
   exact H
  have H := H.2 hb4
  refine gy hb4 ?_
  refine gy hb4 ?_
  refine H.mono fun r11 h15 H => ?_
  obtain ⟨s132, rfl, hL15, H⟩ := H
  refine gy hb4 ?_
  refine pop_not s132 ?_
  refine pop_pickf' hb4 ?_
  refine guardM_sf (fun hb5 => ?_) (fun hb5 => ?_)
  rotate_left
  ·have H := H.1 hb5
   refine gm hb5 ?_
   refine gm hb5 ?_
   refine pop_pickt' hb5 ?_
   refine gn ?_
   refine gn ?_
   refine gn ?_
   refine gn ?_
   refine pop_pickt _ _ ?_
   refine gn ?_
   refine gn ?_
   refine gn ?_
   refine pop_pickt _ _ ?_
   refine gn ?_
   refine gn ?_
   refine gn ?_
   refine pop_pickt _ _ ?_
   refine gn ?_
   refine gn ?_
   refine gn ?_
   refine pop_pickt _ _ ?_
   refine gn ?_
   refine gn ?_
   refine gn ?_
   refine gn ?_
   refine pop_pickt _ _ ?_
   refine gn ?_
   refine gn ?_
   refine gn ?_
   refine gn ?_
   refine gn ?_
   refine gn ?_
   refine pop_pickt _ _ ?_
   refine gn ?_
   refine gn ?_
   refine gn ?_
   refine gn ?_
   refine gn ?_
   refine gn ?_
   refine gn ?_
   refine gn ?_
   refine pop_pickt _ _ ?_
   refine gn ?_
   refine gn ?_
   refine gn ?_
   refine gn ?_
   refine gn ?_
   refine pop_pickt _ _ ?_
   refine condM_t ?_
   exact H
  have H := H.2 hb5
  refine gy hb5 ?_
  refine gy hb5 ?_
  refine pop_bne boo4 _ _ s88b s95b ?_
  refine pop_pickf' hb5 ?_
  refine guardM_sf (fun hb6 => ?_) (fun hb6 => ?_)
  rotate_left
  ·have H := H.1 hb6
   refine gm hb6 ?_
   refine gm hb6 ?_
   refine gm hb6 ?_
   refine pop_pickt' hb6 ?_
   refine gn ?_
   refine gn ?_
   refine gn ?_
   refine pop_pickt _ _ ?_
   refine gn ?_
   refine gn ?_
   refine gn ?_
   refine pop_pickt _ _ ?_
   refine gn ?_
   refine gn ?_
   refine gn ?_
   refine pop_pickt _ _ ?_
   refine gn ?_
   refine gn ?_
   refine gn ?_
   refine gn ?_
   refine pop_pickt _ _ ?_
   refine gn ?_
   refine gn ?_
   refine gn ?_
   refine gn ?_
   refine gn ?_
   refine gn ?_
   refine pop_pickt _ _ ?_
   refine gn ?_
   refine gn ?_
   refine gn ?_
   refine gn ?_
   refine gn ?_
   refine gn ?_
   refine gn ?_
   refine gn ?_
   refine pop_pickt _ _ ?_
   refine gn ?_
   refine gn ?_
   refine gn ?_
   refine gn ?_
   refine gn ?_
   refine pop_pickt _ _ ?_
   refine condM_t ?_
   exact H
  have H := H.2 hb6
  refine gy hb6 ?_
  refine gy hb6 ?_
  refine H.mono fun r12 h16 H => ?_
  obtain ⟨s143, rfl, hL16, H⟩ := H
  refine gy hb6 ?_
  refine pop_not s143 ?_
  refine pop_pickf' hb6 ?_
  refine guardM_sf (fun hb7 => ?_) (fun hb7 => ?_)
  rotate_left
  ·have H := H.1 hb7
   refine gm hb7 ?_
   refine gm hb7 ?_
   refine pop_pickt' hb7 ?_
   refine gn ?_
   refine gn ?_
   refine gn ?_
   refine pop_pickt _ _ ?_
   refine gn ?_
   refine gn ?_
   refine gn ?_
   refine pop_pickt _ _ ?_
   refine gn ?_
   refine gn ?_
   refine gn ?_
   refine gn ?_
   refine pop_pickt _ _ ?_
   refine gn ?_
   refine gn ?_
   refine gn ?_
   refine gn ?_
   refine gn ?_
   refine gn ?_
   refine pop_pickt _ _ ?_
   refine gn ?_
   refine gn ?_
   refine gn ?_
   refine gn ?_
   refine gn ?_
   refine gn ?_
   refine gn ?_
   refine gn ?_
   refine pop_pickt _ _ ?_
   refine gn ?_
   refine gn ?_
   refine gn ?_
   refine gn ?_
   refine gn ?_
   refine pop_pickt _ _ ?_
   refine condM_t ?_
   exact H
  have H := H.2 hb7
  refine gy hb7 ?_
  refine gy hb7 ?_
  refine pop_bne boo4 _ _ s102b s109b ?_
  refine pop_pickf' hb7 ?_
  refine guardM_sf (fun hb8 => ?_) (fun hb8 => ?_)
  rotate_left
  ·have H := H.1 hb8
   refine gm hb8 ?_
   refine gm hb8 ?_
   refine pop_pickt' hb8 ?_
   refine gn ?_
   refine gn ?_
   refine gn ?_
   refine pop_pickt _ _ ?_
   refine gn ?_
   refine gn ?_
   refine gn ?_
   refine gn ?_
   refine pop_pickt _ _ ?_
   refine gn ?_
   refine gn ?_
   refine gn ?_
   refine gn ?_
   refine gn ?_
   refine gn ?_
   refine pop_pickt _ _ ?_
   refine gn ?_
   refine gn ?_
   refine gn ?_
   refine gn ?_
   refine gn ?_
   refine gn ?_
   refine gn ?_
   refine gn ?_
   refine pop_pickt _ _ ?_
   refine gn ?_
   refine gn ?_
   refine gn ?_
   refine gn ?_
   refine gn ?_
   refine pop_pickt _ _ ?_
   refine condM_t ?_
   exact H
  have H := H.2 hb8
  refine gy hb8 ?_
  refine gy hb8 ?_
  refine pop_bne boo4 _ _ s102 s109 ?_
  refine pop_pickf' hb8 ?_
  refine guardM_sf (fun hb9 => ?_) (fun hb9 => ?_)
  rotate_left
  ·have H := H.1 hb9
   refine gm hb9 ?_
   refine gm hb9 ?_
   refine pop_pickt' hb9 ?_
   refine gn ?_
   refine gn ?_
   refine gn ?_
   refine gn ?_
   refine pop_pickt _ _ ?_
   refine gn ?_
   refine gn ?_
   refine gn ?_
   refine gn ?_
   refine gn ?_
   refine gn ?_
   refine pop_pickt _ _ ?_
   refine gn ?_
   refine gn ?_
   refine gn ?_
   refine gn ?_
   refine gn ?_
   refine gn ?_
   refine gn ?_
   refine gn ?_
   refine pop_pickt _ _ ?_
   refine gn ?_
   refine gn ?_
   refine gn ?_
   refine gn ?_
   refine gn ?_
   refine pop_pickt _ _ ?_
   refine condM_t ?_
   exact H
  have H := H.2 hb9
  refine gy hb9 ?_
  refine gy hb9 ?_
  refine pop_bne boo4 _ _ s116b s123b ?_
  refine pop_pickf' hb9 ?_
  refine guardM_sf (fun hb10 => ?_) (fun hb10 => ?_)
  rotate_left
  ·have H := H.1 hb10
   refine gm hb10 ?_
   refine gm hb10 ?_
   refine gm hb10 ?_
   refine pop_pickt' hb10 ?_
   refine gn ?_
   refine gn ?_
   refine gn ?_
   refine gn ?_
   refine gn ?_
   refine gn ?_
   refine pop_pickt _ _ ?_
   refine gn ?_
   refine gn ?_
   refine gn ?_
   refine gn ?_
   refine gn ?_
   refine gn ?_
   refine gn ?_
   refine gn ?_
   refine pop_pickt _ _ ?_
   refine gn ?_
   refine gn ?_
   refine gn ?_
   refine gn ?_
   refine gn ?_
   refine pop_pickt _ _ ?_
   refine condM_t ?_
   exact H
  have H := H.2 hb10
  refine gy hb10 ?_
  refine gy hb10 ?_
  refine H.mono fun r13 h17 H => ?_
  obtain ⟨s164, rfl, hL17, H⟩ := H
  refine gy hb10 ?_
  refine pop_not s164 ?_
  refine pop_pickf' hb10 ?_
  refine guardM_sf (fun hb11 => ?_) (fun hb11 => ?_)
  rotate_left
  ·have H := H.1 hb11
   refine gm hb11 ?_
   refine gm hb11 ?_
   refine gn ?_
   refine gm hb11 ?_
   refine gm hb11 ?_
   refine pop_pickt' hb11 ?_
   refine gn ?_
   refine gn ?_
   refine gn ?_
   refine gn ?_
   refine gn ?_
   refine gn ?_
   refine gn ?_
   refine gn ?_
   refine pop_pickt _ _ ?_
   refine gn ?_
   refine gn ?_
   refine gn ?_
   refine gn ?_
   refine gn ?_
   refine pop_pickt _ _ ?_
   refine condM_t ?_
   exact H
  have H := H.2 hb11
  refine gy hb11 ?_
  refine gy hb11 ?_
  refine guardM_st (fun hb12 => ?_) (fun hb12 => ?_)
  ·have H := H.1 hb12
   refine gy hb11 ?_
   refine pop_pickt' hb12 ?_
   refine gy hb11 ?_
   refine pop_bne boo4 _ _ s74b s102 ?_
   refine pop_pickf' hb11 ?_
   refine guardM_sf (fun hb13 => ?_) (fun hb13 => ?_)
   rotate_left
   ·have H := H.1 hb13
    refine gm hb13 ?_
    refine gm hb13 ?_
    refine gn ?_
    refine gn ?_
    refine gn ?_
    refine gm hb13 ?_
    refine gm hb13 ?_
    refine pop_pickt' hb13 ?_
    refine gn ?_
    refine gn ?_
    refine gn ?_
    refine gn ?_
    refine gn ?_
    refine pop_pickt _ _ ?_
    refine condM_t ?_
    exact H
   have H := H.2 hb13
   refine gy hb13 ?_
   refine gy hb13 ?_
   refine guardM_st (fun hb14 => ?_) (fun hb14 => ?_)
   rotate_left
   ·have H := H.2 hb14
    refine gm hb14 ?_
    refine gm hb14 ?_
    refine gy hb13 ?_
    refine pop_pickf' hb14 ?_
    refine gy hb13 ?_
    refine pop_bne boo4 _ _ s88b false ?_
    refine pop_pickf' hb13 ?_
    refine guardM_sf (fun hb106 => ?_) (fun hb106 => ?_)
    rotate_left
    ·have H := H.1 hb106
     refine gm hb106 ?_
     refine gn ?_
     refine gn ?_
     refine gm hb106 ?_
     refine pop_pickt' hb106 ?_
     refine condM_t ?_
     exact H
    have H := H.2 hb106
    refine gy hb106 ?_
    refine guardM_st (fun hb107 => ?_) (fun hb107 => ?_)
    rotate_left
    ·have H := H.2 hb107
     refine gm hb107 ?_
     refine gy hb106 ?_
     refine pop_pickf' hb107 ?_
     refine pop_pickf' hb106 ?_
     refine condM_f ?_
     obtain ⟨J22, H, HB26⟩ := H
     refine ⟨fun (vs : List Value) (h' : Heap) => vs = [] /\ J22  h' /\ Vars h' [(b2, [s66c.v]), (b1, [s66.v])], ?_, ?_⟩
     ·refine condM_f' hb14 ?_
      exact ⟨rfl, H, hL17⟩
     intro junk22  h139
     rintro ⟨hv, hJ22, hL139⟩
     have H := HB26  h139 hJ22 hL139
     refine H.mono fun r81 h140 H => ?_
     obtain ⟨t309_13, t309_14, t309_15, t309_16, rfl, hL140, H⟩ := H
     refine pop_ext (v := (Value.agg #[t309_13.v])) rfl ?_
     refine pop_ext (v := (VI t309_14)) rfl ?_
     refine pop_ext (v := (Value.agg #[t309_15.v])) rfl ?_
     refine pop_ext (v := (VI t309_16)) rfl ?_
     refine eop_alloc 26 zer26 rfl hL140 (fun b27 h141 hb133 hf53 hL141 => ?_)
     refine eop_alloc 28 zer28 rfl hL141 (fun b28 h142 hb134 hf54 hL142 => ?_)
     refine ul siz26 hL142 1 0 [t309_13.v] [(b28, [nilSl.v]), (b27, [t309_13.v]), (b2, [s66c.v]), (b1, [s66.v])] (fun h143 hf55 hL143 => ?_)
     refine ul siz28 hL143 0 0 [t309_15.v] [(b28, [t309_15.v]), (b27, [t309_13.v]), (b2, [s66c.v]), (b1, [s66.v])] (fun h144 hf56 hL144 => ?_)
     refine ra agg26 hL144 1 0 [t309_13.v] ?_
     refine ra agg28 hL144 0 0 [t309_15.v] ?_
     have H := H b27 b28 h144 hb133 (Nat.le_trans (Fr.size (Fr.no' (Fr.r (In []) _) hf53)) hb134) (Fr.new (Fr.new (Fr.no' (Fr.no' (Fr.r (In []) _) hf53) hf54) hb133 hf55) (Nat.le_trans (Fr.size (Fr.no' (Fr.r (In []) _) hf53)) hb134) hf56) hL144
     refine H.mono fun r82 h145 H => ?_
     obtain ⟨s319g, s319h, rfl, hL145, H⟩ := H
     refine pop_ext (v := (Value.agg #[s319g.v])) rfl ?_
     refine pop_ext (v := (VB s319h)) rfl ?_
     refine eop_alloc 28 zer28 rfl hL145 (fun b29 h146 hb135 hf57 hL146 => ?_)
     refine ul siz28 hL146 0 0 [s319g.v] [(b29, [s319g.v]), (b28, [t309_15.v]), (b27, [t309_13.v]), (b2, [s66c.v]), (b1, [s66.v])] (fun h147 hf58 hL147 => ?_)
     refine ra agg26 hL147 2 0 [t309_13.v] ?_
     refine ra agg28 hL147 1 0 [t309_15.v] ?_
     have H := H b29 h147 hb135 (Fr.new (Fr.no' (Fr.r (In []) _) hf57) hb135 hf58) hL147
     refine H.mono fun r83 h148 H => ?_
     obtain ⟨s327g, s327h, rfl, hL148, H⟩ := H
     refine pop_ext (v := (Value.agg #[s327g.v])) rfl ?_
     refine pop_ext (v := (VB s327h)) rfl ?_
     refine eop_alloc 28 zer28 rfl hL148 (fun b30 h149 hb136 hf59 hL149 => ?_)
     refine ul siz28 hL149 0 0 [s327g.v] [(b30, [s327g.v]), (b29, [s319g.v]), (b28, [t309_15.v]), (b27, [t309_13.v]), (b2, [s66c.v]), (b1, [s66.v])] (fun h150 hf60 hL150 => ?_)
     refine pop_bne boo4 _ _ s319h s327h ?_
     refine guardM_sf (fun hb137 => ?_) (fun hb137 => ?_)
     rotate_left
     ·have H := H.1 hb137
      refine gm hb137 ?_
      refine gm hb137 ?_
      refine gm hb137 ?_
      refine pop_pickt' hb137 ?_
      refine condM_t ?_
      have H := H b30 h150 hb136 (Fr.new (Fr.no' (Fr.r (In []) _) hf59) hb136 hf60) hL150
      exact H
     have H := H.2 hb137
     refine ra agg28 hL150 1 0 [s319g.v] ?_
     refine gy hb137 ?_
     refine ra agg28 hL150 0 0 [s327g.v] ?_
     refine gy hb137 ?_
     have H := H b30 h150 hb136 (Fr.new (Fr.no' (Fr.r (In []) _) hf59) hb136 hf60) hL150
     refine H.mono fun r84 h151 H => ?_
     obtain ⟨s336d, rfl, hL151, H⟩ := H
     refine gy hb137 ?_
     refine pop_not s336d ?_
     refine pop_pickf' hb137 ?_
     refine condM_b (fun hb138 => ?_) (fun hb138 => ?_)
     ·exact H.1 hb138
     have H := H.2 hb138
     obtain ⟨J23, H, HB25⟩ := H
     refine ⟨fun (vs : List Value) (h' : Heap) => vs = [] /\ J23  h' /\ Vars h' [(b30, [s327g.v]), (b29, [s319g.v]), (b28, [t309_15.v]), (b27, [t309_13.v]), (b2, [s66c.v]), (b1, [s66.v])], ?_, ?_⟩
     ·refine condM_b (fun hb139 => ?_) (fun hb139 => ?_)
      rotate_left
      ·have H := H.2 hb139
       exact ⟨rfl, H, hL151⟩
      have H := H.1 hb139
      refine ra agg26 hL151 3 0 [t309_13.v] ?_
      refine ra agg28 hL151 2 0 [t309_15.v] ?_
      refine H.mono fun r85 h152 H => ?_
      obtain ⟨s344g, s344h, rfl, hL152, H⟩ := H
      refine pop_ext (v := s344g.v) rfl ?_
      refine pop_ext (v := (VB s344h)) rfl ?_
      refine pop_len s344g _ _ sli24 ?_
      obtain ⟨J24, ⟨n28, h0_14⟩, HB24⟩ := H
      refine loop_intro (J := fun (n : Nat) (vs : List Value) (h' : Heap) => ∃ own41_4 : Sl, ∃ s349d : Int, vs = [own41_4.v, (VI s349d)] /\ J24 n own41_4 s349d h' /\ Vars h' [(b30, [s327g.v]), (b29, [s319g.v]), (b28, [t309_15.v]), (b27, [t309_13.v]), (b2, [s66c.v]), (b1, [s66.v])]) n28 ⟨nilSl, 0, rfl, h0_14, hL152⟩ ?_
      intro I14 mu14 hI14 junk23 tv27 tv28 h153 hi64
      obtain ⟨n25, ⟨own41_4, s349d, hv, hJ23, hL153⟩, hn13⟩ := hI14 _ _ hi64
      cases hv
      have H := HB24 n25 own41_4 s349d h153 hJ23 hL153
      refine pop_lss .i64 s349d (s344g.n : Int) ?_
      refine condM_b (fun hb140 => ?_) (fun hb140 => ?_)
      ·have H := H.1 hb140
       obtain ⟨hi65, H⟩ := H
       refine pop_index sli24 siz33 .i64 s344g s349d hi65 ?_
       obtain ⟨s352d, hc55, H⟩ := H
       refine rop_one one33 s352d.v hc55 ?_
       refine H.mono fun r86 h154 H => ?_
       obtain ⟨s355d, rfl, hL154, H⟩ := H
       refine condM_b (fun hb141 => ?_) (fun hb141 => ?_)
       ·have H := H.1 hb141
        refine pop_add .i64 s349d 1 ?_
        obtain ⟨m_18, hm_18, H⟩ := H
        exact hn13 _ _ ⟨m_18, hm_18, s352d, (w64 (s349d + 1)), rfl, H, hL154⟩
       have H := H.2 hb141
       refine pop_add .i64 s349d 1 ?_
       obtain ⟨m_19, hm_19, H⟩ := H
       exact hn13 _ _ ⟨m_19, hm_19, own41_4, (w64 (s349d + 1)), rfl, H, hL154⟩
      have H := H.2 hb140
      refine pop_not s344h ?_
      refine guardM_sf (fun hb142 => ?_) (fun hb142 => ?_)
      rotate_left
      ·have H := H.1 hb142
       refine gm hb142 ?_
       refine gm hb142 ?_
       refine pop_pickt' hb142 ?_
       refine condM_t ?_
       exact H
      have H := H.2 hb142
      refine gy hb142 ?_
      refine pop_len own41_4 _ _ sli33 ?_
      refine gy hb142 ?_
      refine pop_ieq .i64 _ _ (own41_4.n : Int) 0 ?_
      refine pop_pickf' hb142 ?_
      refine condM_b (fun hb143 => ?_) (fun hb143 => ?_)
      ·exact H.1 hb143
      have H := H.2 hb143
      refine pop_field 0 fld26_0 b27 0 ?_
      refine rl one24 hL153 3 0 t309_13.v ?_
      refine pop_len t309_13 _ _ sli24 ?_
      obtain ⟨J25, ⟨n27, h0_13⟩, HB23⟩ := H
      refine loop_intro (J := fun (n : Nat) (vs : List Value) (h' : Heap) => ∃ s368d : Int, vs = [(VI s368d)] /\ J25 n s368d h' /\ Vars h' [(b30, [s327g.v]), (b29, [s319g.v]), (b28, [t309_15.v]), (b27, [t309_13.v]), (b2, [s66c.v]), (b1, [s66.v])]) n27 ⟨0, rfl, h0_13, hL153⟩ ?_
      intro I13 mu13 hI13 junk24 tv26 h155 hi66
      obtain ⟨n26, ⟨s368d, hv, hJ24, hL155⟩, hn14⟩ := hI13 _ _ hi66
      cases hv
      have H := HB23 n26 s368d h155 hJ24 hL155
      refine pop_lss .i64 s368d (t309_13.n : Int) ?_
      refine condM_b (fun hb144 => ?_) (fun hb144 => ?_)
      rotate_left
      ·have H := H.2 hb144
       exact ⟨rfl, H, hL155⟩
      have H := H.1 hb144
      obtain ⟨J26, H, HB22⟩ := H
      refine ⟨fun (vs : List Value) (h' : Heap) => ∃ y4 : Int, vs = [(VI y4)] /\ J26 y4 h' /\ Vars h' [(b30, [s327g.v]), (b29, [s319g.v]), (b28, [t309_15.v]), (b27, [t309_13.v]), (b2, [s66c.v]), (b1, [s66.v])], ?_, ?_⟩
      ·refine H.mono fun r87 h156 H => ?_
       obtain ⟨s373d, rfl, hL156, H⟩ := H
       refine condM_b (fun hb145 => ?_) (fun hb145 => ?_)
       ·have H := H.1 hb145
        exact ⟨1, rfl, H, hL156⟩
       have H := H.2 hb145
       exact ⟨0, rfl, H, hL156⟩
      intro junk25 tv25 h157
      rintro ⟨y4, hv, hJ25, hL157⟩
      cases hv
      have H := HB22 y4 h157 hJ25 hL157
      refine pop_field 0 fld28_0 b29 0 ?_
      refine rl one24 hL157 1 0 s319g.v ?_
      obtain ⟨hi67, H⟩ := H
      refine pop_index sli24 siz33 .i64 s319g s368d hi67 ?_
      obtain ⟨s378d, hc58, H⟩ := H
      refine rop_one one33 s378d.v hc58 ?_
      refine pop_field 0 fld28_0 b28 0 ?_
      refine rl one24 hL157 2 0 t309_15.v ?_
      obtain ⟨hi68, H⟩ := H
      refine pop_index sli24 siz33 .i64 t309_15 s368d hi68 ?_
      obtain ⟨s383d, hc57, H⟩ := H
      refine rop_one one33 s383d.v hc57 ?_
      refine H.mono fun r88 H => ?_
      obtain ⟨s385d, rfl, H⟩ := H
      refine H.mono fun r89 h158 H => ?_
      obtain ⟨s386d, rfl, hL158, H⟩ := H
      refine ⟨?_, ?_⟩
      ·exact still_one one33 H.1
      obtain ⟨hc56, H⟩ := H
      refine ⟨?_, ?_⟩
      ·exact still_loc one24 hL158 2 rfl 0 (v := t309_15.v) rfl
      refine ⟨?_, ?_⟩
      ·exact still_loc one24 hL158 1 rfl 0 (v := s319g.v) rfl
      refine pop_not s386d ?_
      refine condM_b (fun hb146 => ?_) (fun hb146 => ?_)
      ·exact H.1 hb146
      have H := H.2 hb146
      refine pop_add .i64 s368d 1 ?_
      obtain ⟨m_20, hm_20, H⟩ := H
      exact hn14 _ _ ⟨m_20, hm_20, (w64 (s368d + 1)), rfl, H, hL158⟩
     intro junk26  h159
     rintro ⟨hv, hJ26, hL159⟩
     have H := HB25  h159 hJ26 hL159
     refine H.mono fun r90 h160 H => ?_
     obtain ⟨t391_13, t391_14, t391_15, t391_16, rfl, hL160, H⟩ := H
     refine pop_ext (v := (Value.agg #[t391_13.v])) rfl ?_
     refine pop_ext (v := (VI t391_14)) rfl ?_
     refine pop_ext (v := t391_15.v) rfl ?_
     refine pop_ext (v := (VI t391_16)) rfl ?_
     refine eop_alloc 26 zer26 rfl hL160 (fun b31 h161 hb147 hf61 hL161 => ?_)
     refine ul siz26 hL161 0 0 [t391_13.v] [(b31, [t391_13.v]), (b30, [s327g.v]), (b29, [s319g.v]), (b28, [t309_15.v]), (b27, [t309_13.v]), (b2, [s66c.v]), (b1, [s66.v])] (fun h162 hf62 hL162 => ?_)
     refine ra agg26 hL162 0 0 [t391_13.v] ?_
     have H := H b31 h162 hb147 (Fr.new (Fr.no' (Fr.r (In []) _) hf61) hb147 hf62) hL162
     refine H.mono fun r91 h163 H => ?_
     obtain ⟨s401g, s401h, rfl, hL163, H⟩ := H
     refine pop_ext (v := (Value.agg #[s401g.v])) rfl ?_
     refine pop_ext (v := (VB s401h)) rfl ?_
     refine eop_alloc 28 zer28 rfl hL163 (fun b32 h164 hb148 hf63 hL164 => ?_)
     refine ul siz28 hL164 0 0 [s401g.v] [(b32, [s401g.v]), (b31, [t391_13.v]), (b30, [s327g.v]), (b29, [s319g.v]), (b28, [t309_15.v]), (b27, [t309_13.v]), (b2, [s66c.v]), (b1, [s66.v])] (fun h165 hf64 hL165 => ?_)
     refine ra agg26 hL165 1 0 [t391_13.v] ?_
     have H := H b32 h165 hb148 (Fr.new (Fr.no' (Fr.r (In []) _) hf63) hb148 hf64) hL165
     refine H.mono fun r92 h166 H => ?_
     obtain ⟨s409g, s409h, rfl, hL166, H⟩ := H
     refine pop_ext (v := (Value.agg #[s409g.v])) rfl ?_
     refine pop_ext (v := (VB s409h)) rfl ?_
     refine eop_alloc 28 zer28 rfl hL166 (fun b33 h167 hb149 hf65 hL167 => ?_)
     refine ul siz28 hL167 0 0 [s409g.v] [(b33, [s409g.v]), (b32, [s401g.v]), (b31, [t391_13.v]), (b30, [s327g.v]), (b29, [s319g.v]), (b28, [t309_15.v]), (b27, [t309_13.v]), (b2, [s66c.v]), (b1, [s66.v])] (fun h168 hf66 hL168 => ?_)
     have H := H b33 h168 hb149 (Fr.new (Fr.no' (Fr.r (In []) _) hf65) hb149 hf66) hL168
     refine H.mono fun r93 h169 H => ?_
     obtain ⟨s413d, rfl, hL169, H⟩ := H
     refine eop_alloc 28 zer28 rfl hL169 (fun b34 h170 hb150 hf67 hL170 => ?_)
     refine ul siz28 hL170 0 0 [s413d.v] [(b34, [s413d.v]), (b33, [s409g.v]), (b32, [s401g.v]), (b31, [t391_13.v]), (b30, [s327g.v]), (b29, [s319g.v]), (b28, [t309_15.v]), (b27, [t309_13.v]), (b2, [s66c.v]), (b1, [s66.v])] (fun h171 hf68 hL171 => ?_)
     refine ra agg28 hL171 0 0 [s413d.v] ?_
     have H := H b34 h171 hb150 (Fr.new (Fr.no' (Fr.r (In []) _) hf67) hb150 hf68) hL171
     refine H.mono fun r94 h172 H => ?_
     obtain ⟨s416g, s416h, rfl, hL172, H⟩ := H
     refine pop_ext (v := (VS s416g)) rfl ?_
     refine pop_ext (v := (VB s416h)) rfl ?_
     refine ra agg28 hL172 0 0 [s413d.v] ?_
     refine H.mono fun r95 h173 H => ?_
     obtain ⟨s421g, s421h, rfl, hL173, H⟩ := H
     refine pop_ext (v := (VS s421g)) rfl ?_
     refine pop_ext (v := (VB s421h)) rfl ?_
     refine pop_bne boo4 _ _ s401h s409h ?_
     refine guardM_sf (fun hb151 => ?_) (fun hb151 => ?_)
     rotate_left
     ·have H := H.1 hb151
      refine gm hb151 ?_
      refine gm hb151 ?_
      refine gm hb151 ?_
      refine pop_pickt' hb151 ?_
      refine gn ?_
      refine gn ?_
      refine gn ?_
      refine pop_pickt _ _ ?_
      refine gn ?_
      refine gn ?_
      refine gn ?_
      refine pop_pickt _ _ ?_
      refine condM_t ?_
      exact H
     have H := H.2 hb151
     refine ra agg28 hL173 2 0 [s401g.v] ?_
     refine gy hb151 ?_
     refine ra agg28 hL173 1 0 [s409g.v] ?_
     refine gy hb151 ?_
     refine H.mono fun r96 h174 H => ?_
     obtain ⟨s430d, rfl, hL174, H⟩ := H
     refine gy hb151 ?_
     refine pop_not s430d ?_
     refine pop_pickf' hb151 ?_
     refine guardM_sf (fun hb152 => ?_) (fun hb152 => ?_)
     rotate_left
     ·have H := H.1 hb152
      refine gm hb152 ?_
      refine gm hb152 ?_
      refine pop_pickt' hb152 ?_
      refine gn ?_
      refine gn ?_
      refine gn ?_
      refine pop_pickt _ _ ?_
      refine condM_t ?_
      exact H
     have H := H.2 hb152
     refine gy hb152 ?_
     refine gy hb152 ?_
     refine pop_bne boo4 _ _ s416h s421h ?_
     refine pop_pickf' hb152 ?_
     refine guardM_sf (fun hb153 => ?_) (fun hb153 => ?_)
     rotate_left
     ·have H := H.1 hb153
      refine gm hb153 ?_
      refine gm hb153 ?_
      refine pop_pickt' hb153 ?_
      refine condM_t ?_
      exact H
     have H := H.2 hb153
     refine gy hb153 ?_
     refine gy hb153 ?_
     refine pop_sne _ _ s416g s421g ?_
     refine pop_pickf' hb153 ?_
     refine condM_b (fun hb154 => ?_) (fun hb154 => ?_)
     ·exact H.1 hb154
     have H := H.2 hb154
     refine condM_b (fun hb155 => ?_) (fun hb155 => ?_)
     rotate_left
     ·exact H.2 hb155
     have H := H.1 hb155
     refine ra agg26 hL174 3 0 [t391_13.v] ?_
     refine ra agg28 hL174 2 0 [s401g.v] ?_
     refine H.mono fun r97 h175 H => ?_
     obtain ⟨s448g, s448h, rfl, hL175, H⟩ := H
     refine pop_ext (v := (VB s448g)) rfl ?_
     refine pop_ext (v := (VB s448h)) rfl ?_
     refine guardM_st (fun hb156 => ?_) (fun hb156 => ?_)
     ·have H := H.1 hb156
      refine pop_pickt' hb156 ?_
      exact H
     have H := H.2 hb156
     refine pop_pickf' hb156 ?_
     exact H
    have H := H.1 hb107
    refine gy hb107 ?_
    refine pop_not s74b ?_
    refine gy hb106 ?_
    refine pop_pickt' hb107 ?_
    refine pop_pickf' hb106 ?_
    refine condM_b (fun hb108 => ?_) (fun hb108 => ?_)
    ·exact H.1 hb108
    have H := H.2 hb108
    obtain ⟨J17, H, HB21⟩ := H
    refine ⟨fun (vs : List Value) (h' : Heap) => vs = [] /\ J17  h' /\ Vars h' [(b2, [s66c.v]), (b1, [s66.v])], ?_, ?_⟩
    ·refine condM_f' hb14 ?_
     exact ⟨rfl, H, hL17⟩
    intro junk17  h102
    rintro ⟨hv, hJ17, hL102⟩
    have H := HB21  h102 hJ17 hL102
    refine H.mono fun r64 h103 H => ?_
    obtain ⟨s309i, t309_10, t309_11, t309_12, rfl, hL103, H⟩ := H
    refine pop_ext (v := (Value.agg #[s309i.v])) rfl ?_
    refine pop_ext (v := (VI t309_10)) rfl ?_
    refine pop_ext (v := (Value.agg #[t309_11.v])) rfl ?_
    refine pop_ext (v := (VI t309_12)) rfl ?_
    refine eop_alloc 26 zer26 rfl hL103 (fun b19 h104 hb109 hf37 hL104 => ?_)
    refine eop_alloc 28 zer28 rfl hL104 (fun b20 h105 hb110 hf38 hL105 => ?_)
    refine ul siz26 hL105 1 0 [s309i.v] [(b20, [nilSl.v]), (b19, [s309i.v]), (b2, [s66c.v]), (b1, [s66.v])] (fun h106 hf39 hL106 => ?_)
    refine ul siz28 hL106 0 0 [t309_11.v] [(b20, [t309_11.v]), (b19, [s309i.v]), (b2, [s66c.v]), (b1, [s66.v])] (fun h107 hf40 hL107 => ?_)
    refine ra agg26 hL107 1 0 [s309i.v] ?_
    refine ra agg28 hL107 0 0 [t309_11.v] ?_
    have H := H b19 b20 h107 hb109 (Nat.le_trans (Fr.size (Fr.no' (Fr.r (In []) _) hf37)) hb110) (Fr.new (Fr.new (Fr.no' (Fr.no' (Fr.r (In []) _) hf37) hf38) hb109 hf39) (Nat.le_trans (Fr.size (Fr.no' (Fr.r (In []) _) hf37)) hb110) hf40) hL107
    refine H.mono fun r65 h108 H => ?_
    obtain ⟨s319e, s319f, rfl, hL108, H⟩ := H
    refine pop_ext (v := (Value.agg #[s319e.v])) rfl ?_
    refine pop_ext (v := (VB s319f)) rfl ?_
    refine eop_alloc 28 zer28 rfl hL108 (fun b21 h109 hb111 hf41 hL109 => ?_)
    refine ul siz28 hL109 0 0 [s319e.v] [(b21, [s319e.v]), (b20, [t309_11.v]), (b19, [s309i.v]), (b2, [s66c.v]), (b1, [s66.v])] (fun h110 hf42 hL110 => ?_)
    refine ra agg26 hL110 2 0 [s309i.v] ?_
    refine ra agg28 hL110 1 0 [t309_11.v] ?_
    have H := H b21 h110 hb111 (Fr.new (Fr.no' (Fr.r (In []) _) hf41) hb111 hf42) hL110
    refine H.mono fun r66 h111 H => ?_
    obtain ⟨s327e, s327f, rfl, hL111, H⟩ := H
    refine pop_ext (v := (Value.agg #[s327e.v])) rfl ?_
    refine pop_ext (v := (VB s327f)) rfl ?_
    refine eop_alloc 28 zer28 rfl hL111 (fun b22 h112 hb112 hf43 hL112 => ?_)
    refine ul siz28 hL112 0 0 [s327e.v] [(b22, [s327e.v]), (b21, [s319e.v]), (b20, [t309_11.v]), (b19, [s309i.v]), (b2, [s66c.v]), (b1, [s66.v])] (fun h113 hf44 hL113 => ?_)
    refine pop_bne boo4 _ _ s319f s327f ?_
    refine guardM_sf (fun hb113 => ?_) (fun hb113 => ?_)
    rotate_left
    ·have H := H.1 hb113
     refine gm hb113 ?_
     refine gm hb113 ?_
     refine gm hb113 ?_
     refine pop_pickt' hb113 ?_
     refine condM_t ?_
     have H := H b22 h113 hb112 (Fr.new (Fr.no' (Fr.r (In []) _) hf43) hb112 hf44) hL113
     exact H
    have H := H.2 hb113
    refine ra agg28 hL113 1 0 [s319e.v] ?_
    refine gy hb113 ?_
    refine ra agg28 hL113 0 0 [s327e.v] ?_
    refine gy hb113 ?_
    have H := H b22 h113 hb112 (Fr.new (Fr.no' (Fr.r (In []) _) hf43) hb112 hf44) hL113
    refine H.mono fun r67 h114 H => ?_
    obtain ⟨s336c, rfl, hL114, H⟩ := H
    refine gy hb113 ?_
    refine pop_not s336c ?_
    refine pop_pickf' hb113 ?_
    refine condM_b (fun hb114 => ?_) (fun hb114 => ?_)
    ·exact H.1 hb114
    have H := H.2 hb114
    obtain ⟨J18, H, HB20⟩ := H
    refine ⟨fun (vs : List Value) (h' : Heap) => vs = [] /\ J18  h' /\ Vars h' [(b22, [s327e.v]), (b21, [s319e.v]), (b20, [t309_11.v]), (b19, [s309i.v]), (b2, [s66c.v]), (b1, [s66.v])], ?_, ?_⟩
    ·refine condM_b (fun hb115 => ?_) (fun hb115 => ?_)
     rotate_left
     ·have H := H.2 hb115
      exact ⟨rfl, H, hL114⟩
     have H := H.1 hb115
     refine ra agg26 hL114 3 0 [s309i.v] ?_
     refine ra agg28 hL114 2 0 [t309_11.v] ?_
     refine H.mono fun r68 h115 H => ?_
     obtain ⟨s344e, s344f, rfl, hL115, H⟩ := H
     refine pop_ext (v := s344e.v) rfl ?_
     refine pop_ext (v := (VB s344f)) rfl ?_
     refine pop_len s344e _ _ sli24 ?_
     obtain ⟨J19, ⟨n24, h0_12⟩, HB19⟩ := H
     refine loop_intro (J := fun (n : Nat) (vs : List Value) (h' : Heap) => ∃ own41_3 : Sl, ∃ s349c : Int, vs = [own41_3.v, (VI s349c)] /\ J19 n own41_3 s349c h' /\ Vars h' [(b22, [s327e.v]), (b21, [s319e.v]), (b20, [t309_11.v]), (b19, [s309i.v]), (b2, [s66c.v]), (b1, [s66.v])]) n24 ⟨nilSl, 0, rfl, h0_12, hL115⟩ ?_
     intro I12 mu12 hI12 junk18 tv23 tv24 h116 hi59
     obtain ⟨n21, ⟨own41_3, s349c, hv, hJ18, hL116⟩, hn11⟩ := hI12 _ _ hi59
     cases hv
     have H := HB19 n21 own41_3 s349c h116 hJ18 hL116
     refine pop_lss .i64 s349c (s344e.n : Int) ?_
     refine condM_b (fun hb116 => ?_) (fun hb116 => ?_)
     ·have H := H.1 hb116
      obtain ⟨hi60, H⟩ := H
      refine pop_index sli24 siz33 .i64 s344e s349c hi60 ?_
      obtain ⟨s352c, hc51, H⟩ := H
      refine rop_one one33 s352c.v hc51 ?_
      refine H.mono fun r69 h117 H => ?_
      obtain ⟨s355c, rfl, hL117, H⟩ := H
      refine condM_b (fun hb117 => ?_) (fun hb117 => ?_)
      ·have H := H.1 hb117
       refine pop_add .i64 s349c 1 ?_
       obtain ⟨m_15, hm_15, H⟩ := H
       exact hn11 _ _ ⟨m_15, hm_15, s352c, (w64 (s349c + 1)), rfl, H, hL117⟩
      have H := H.2 hb117
      refine pop_add .i64 s349c 1 ?_
      obtain ⟨m_16, hm_16, H⟩ := H
      exact hn11 _ _ ⟨m_16, hm_16, own41_3, (w64 (s349c + 1)), rfl, H, hL117⟩
     have H := H.2 hb116
     refine pop_not s344f ?_
     refine guardM_sf (fun hb118 => ?_) (fun hb118 => ?_)
     rotate_left
     ·have H := H.1 hb118
      refine gm hb118 ?_
      refine gm hb118 ?_
      refine pop_pickt' hb118 ?_
      refine condM_t ?_
      exact H
     have H := H.2 hb118
     refine gy hb118 ?_
     refine pop_len own41_3 _ _ sli33 ?_
     refine gy hb118 ?_
     refine pop_ieq .i64 _ _ (own41_3.n : Int) 0 ?_
     refine pop_pickf' hb118 ?_
     refine condM_b (fun hb119 => ?_) (fun hb119 => ?_)
     ·exact H.1 hb119
     have H := H.2 hb119
     refine pop_field 0 fld26_0 b19 0 ?_
     refine rl one24 hL116 3 0 s309i.v ?_
     refine pop_len s309i _ _ sli24 ?_
     obtain ⟨J20, ⟨n23, h0_11⟩, HB18⟩ := H
     refine loop_intro (J := fun (n : Nat) (vs : List Value) (h' : Heap) => ∃ s368c : Int, vs = [(VI s368c)] /\ J20 n s368c h' /\ Vars h' [(b22, [s327e.v]), (b21, [s319e.v]), (b20, [t309_11.v]), (b19, [s309i.v]), (b2, [s66c.v]), (b1, [s66.v])]) n23 ⟨0, rfl, h0_11, hL116⟩ ?_
     intro I11 mu11 hI11 junk19 tv22 h118 hi61
     obtain ⟨n22, ⟨s368c, hv, hJ19, hL118⟩, hn12⟩ := hI11 _ _ hi61
     cases hv
     have H := HB18 n22 s368c h118 hJ19 hL118
     refine pop_lss .i64 s368c (s309i.n : Int) ?_
     refine condM_b (fun hb120 => ?_) (fun hb120 => ?_)
     rotate_left
     ·have H := H.2 hb120
      exact ⟨rfl, H, hL118⟩
     have H := H.1 hb120
     obtain ⟨J21, H, HB17⟩ := H
     refine ⟨fun (vs : List Value) (h' : Heap) => ∃ y3 : Int, vs = [(VI y3)] /\ J21 y3 h' /\ Vars h' [(b22, [s327e.v]), (b21, [s319e.v]), (b20, [t309_11.v]), (b19, [s309i.v]), (b2, [s66c.v]), (b1, [s66.v])], ?_, ?_⟩
     ·refine H.mono fun r70 h119 H => ?_
      obtain ⟨s373c, rfl, hL119, H⟩ := H
      refine condM_b (fun hb121 => ?_) (fun hb121 => ?_)
      ·have H := H.1 hb121
       exact ⟨1, rfl, H, hL119⟩
      have H := H.2 hb121
      exact ⟨0, rfl, H, hL119⟩
     intro junk20 tv21 h120
     rintro ⟨y3, hv, hJ20, hL120⟩
     cases hv
     have H := HB17 y3 h120 hJ20 hL120
     refine pop_field 0 fld28_0 b21 0 ?_
     refine rl one24 hL120 1 0 s319e.v ?_
     obtain ⟨hi62, H⟩ := H
     refine pop_index sli24 siz33 .i64 s319e s368c hi62 ?_
     obtain ⟨s378c, hc54, H⟩ := H
     refine rop_one one33 s378c.v hc54 ?_
     refine pop_field 0 fld28_0 b20 0 ?_
     refine rl one24 hL120 2 0 t309_11.v ?_
     obtain ⟨hi63, H⟩ := H
     refine pop_index sli24 siz33 .i64 t309_11 s368c hi63 ?_
     obtain ⟨s383c, hc53, H⟩ := H
     refine rop_one one33 s383c.v hc53 ?_
     refine H.mono fun r71 H => ?_
     obtain ⟨s385c, rfl, H⟩ := H
     refine H.mono fun r72 h121 H => ?_
     obtain ⟨s386c, rfl, hL121, H⟩ := H
     refine ⟨?_, ?_⟩
     ·exact still_one one33 H.1
     obtain ⟨hc52, H⟩ := H
     refine ⟨?_, ?_⟩
     ·exact still_loc one24 hL121 2 rfl 0 (v := t309_11.v) rfl
     refine ⟨?_, ?_⟩
     ·exact still_loc one24 hL121 1 rfl 0 (v := s319e.v) rfl
     refine pop_not s386c ?_
     refine condM_b (fun hb122 => ?_) (fun hb122 => ?_)
     ·exact H.1 hb122
     have H := H.2 hb122
     refine pop_add .i64 s368c 1 ?_
     obtain ⟨m_17, hm_17, H⟩ := H
     exact hn12 _ _ ⟨m_17, hm_17, (w64 (s368c + 1)), rfl, H, hL121⟩
    intro junk21  h122
    rintro ⟨hv, hJ21, hL122⟩
    have H := HB20  h122 hJ21 hL122
    refine H.mono fun r73 h123 H => ?_
    obtain ⟨s391i, t391_10, t391_11, t391_12, rfl, hL123, H⟩ := H
    refine pop_ext (v := (Value.agg #[s391i.v])) rfl ?_
    refine pop_ext (v := (VI t391_10)) rfl ?_
    refine pop_ext (v := t391_11.v) rfl ?_
    refine pop_ext (v := (VI t391_12)) rfl ?_
    refine eop_alloc 26 zer26 rfl hL123 (fun b23 h124 hb123 hf45 hL124 => ?_)
    refine ul siz26 hL124 0 0 [s391i.v] [(b23, [s391i.v]), (b22, [s327e.v]), (b21, [s319e.v]), (b20, [t309_11.v]), (b19, [s309i.v]), (b2, [s66c.v]), (b1, [s66.v])] (fun h125 hf46 hL125 => ?_)
    refine ra agg26 hL125 0 0 [s391i.v] ?_
    have H := H b23 h125 hb123 (Fr.new (Fr.no' (Fr.r (In []) _) hf45) hb123 hf46) hL125
    refine H.mono fun r74 h126 H => ?_
    obtain ⟨s401e, s401f, rfl, hL126, H⟩ := H
    refine pop_ext (v := (Value.agg #[s401e.v])) rfl ?_
    refine pop_ext (v := (VB s401f)) rfl ?_
    refine eop_alloc 28 zer28 rfl hL126 (fun b24 h127 hb124 hf47 hL127 => ?_)
    refine ul siz28 hL127 0 0 [s401e.v] [(b24, [s401e.v]), (b23, [s391i.v]), (b22, [s327e.v]), (b21, [s319e.v]), (b20, [t309_11.v]), (b19, [s309i.v]), (b2, [s66c.v]), (b1, [s66.v])] (fun h128 hf48 hL128 => ?_)
    refine ra agg26 hL128 1 0 [s391i.v] ?_
    have H := H b24 h128 hb124 (Fr.new (Fr.no' (Fr.r (In []) _) hf47) hb124 hf48) hL128
    refine H.mono fun r75 h129 H => ?_
    obtain ⟨s409e, s409f, rfl, hL129, H⟩ := H
    refine pop_ext (v := (Value.agg #[s409e.v])) rfl ?_
    refine pop_ext (v := (VB s409f)) rfl ?_
    refine eop_alloc 28 zer28 rfl hL129 (fun b25 h130 hb125 hf49 hL130 => ?_)
    refine ul siz28 hL130 0 0 [s409e.v] [(b25, [s409e.v]), (b24, [s401e.v]), (b23, [s391i.v]), (b22, [s327e.v]), (b21, [s319e.v]), (b20, [t309_11.v]), (b19, [s309i.v]), (b2, [s66c.v]), (b1, [s66.v])] (fun h131 hf50 hL131 => ?_)
    have H := H b25 h131 hb125 (Fr.new (Fr.no' (Fr.r (In []) _) hf49) hb125 hf50) hL131
    refine H.mono fun r76 h132 H => ?_
    obtain ⟨s413c, rfl, hL132, H⟩ := H
    refine eop_alloc 28 zer28 rfl hL132 (fun b26 h133 hb126 hf51 hL133 => ?_)
    refine ul siz28 hL133 0 0 [s413c.v] [(b26, [s413c.v]), (b25, [s409e.v]), (b24, [s401e.v]), (b23, [s391i.v]), (b22, [s327e.v]), (b21, [s319e.v]), (b20, [t309_11.v]), (b19, [s309i.v]), (b2, [s66c.v]), (b1, [s66.v])] (fun h134 hf52 hL134 => ?_)
    refine ra agg28 hL134 0 0 [s413c.v] ?_
    have H := H b26 h134 hb126 (Fr.new (Fr.no' (Fr.r (In []) _) hf51) hb126 hf52) hL134
    refine H.mono fun r77 h135 H => ?_
    obtain ⟨s416e, s416f, rfl, hL135, H⟩ := H
    refine pop_ext (v := (VS s416e)) rfl ?_
    refine pop_ext (v := (VB s416f)) rfl ?_
    refine ra agg28 hL135 0 0 [s413c.v] ?_
    refine H.mono fun r78 h136 H => ?_
    obtain ⟨s421e, s421f, rfl, hL136, H⟩ := H
    refine pop_ext (v := (VS s421e)) rfl ?_
    refine pop_ext (v := (VB s421f)) rfl ?_
    refine pop_bne boo4 _ _ s401f s409f ?_
    refine guardM_sf (fun hb127 => ?_) (fun hb127 => ?_)
    rotate_left
    ·have H := H.1 hb127
     refine gm hb127 ?_
     refine gm hb127 ?_
     refine gm hb127 ?_
     refine pop_pickt' hb127 ?_
     refine gn ?_
     refine gn ?_
     refine gn ?_
     refine pop_pickt _ _ ?_
     refine gn ?_
     refine gn ?_
     refine gn ?_
     refine pop_pickt _ _ ?_
     refine condM_t ?_
     exact H
    have H := H.2 hb127
    refine ra agg28 hL136 2 0 [s401e.v] ?_
    refine gy hb127 ?_
    refine ra agg28 hL136 1 0 [s409e.v] ?_
    refine gy hb127 ?_
    refine H.mono fun r79 h137 H => ?_
    obtain ⟨s430c, rfl, hL137, H⟩ := H
    refine gy hb127 ?_
    refine pop_not s430c ?_
    refine pop_pickf' hb127 ?_
    refine guardM_sf (fun hb128 => ?_) (fun hb128 => ?_)
    rotate_left
    ·have H := H.1 hb128
     refine gm hb128 ?_
     refine gm hb128 ?_
     refine pop_pickt' hb128 ?_
     refine gn ?_
     refine gn ?_
     refine gn ?_
     refine pop_pickt _ _ ?_
     refine condM_t ?_
     exact H
    have H := H.2 hb128
    refine gy hb128 ?_
    refine gy hb128 ?_
    refine pop_bne boo4 _ _ s416f s421f ?_
    refine pop_pickf' hb128 ?_
    refine guardM_sf (fun hb129 => ?_) (fun hb129 => ?_)
    rotate_left
    ·have H := H.1 hb129
     refine gm hb129 ?_
     refine gm hb129 ?_
     refine pop_pickt' hb129 ?_
     refine condM_t ?_
     exact H
    have H := H.2 hb129
    refine gy hb129 ?_
    refine gy hb129 ?_
    refine pop_sne _ _ s416e s421e ?_
    refine pop_pickf' hb129 ?_
    refine condM_b (fun hb130 => ?_) (fun hb130 => ?_)
    ·exact H.1 hb130
    have H := H.2 hb130
    refine condM_b (fun hb131 => ?_) (fun hb131 => ?_)
    rotate_left
    ·exact H.2 hb131
    have H := H.1 hb131
    refine ra agg26 hL137 3 0 [s391i.v] ?_
    refine ra agg28 hL137 2 0 [s401e.v] ?_
    refine H.mono fun r80 h138 H => ?_
    obtain ⟨s448e, s448f, rfl, hL138, H⟩ := H
    refine pop_ext (v := (VB s448e)) rfl ?_
    refine pop_ext (v := (VB s448f)) rfl ?_
    refine guardM_st (fun hb132 => ?_) (fun hb132 => ?_)
    ·have H := H.1 hb132
     refine pop_pickt' hb132 ?_
     exact H
    have H := H.2 hb132
    refine pop_pickf' hb132 ?_
    exact H
   have H := H.1 hb14
   refine gy hb14 ?_
   refine pop_len s74 _ _ sli24 ?_
   refine gy hb14 ?_
   refine pop_gtr .i64 (s74.n : Int) 0 ?_
   refine gy hb13 ?_
   refine pop_pickt' hb14 ?_
   refine gy hb13 ?_
   refine pop_bne boo4 _ _ s88b (decide (0 < (s74.n : Int))) ?_
   refine pop_pickf' hb13 ?_
   refine guardM_sf (fun hb15 => ?_) (fun hb15 => ?_)
   rotate_left
   ·have H := H.1 hb15
    refine gm hb15 ?_
    refine gn ?_
    refine gn ?_
    refine gm hb15 ?_
    refine pop_pickt' hb15 ?_
    refine condM_t ?_
    exact H
   have H := H.2 hb15
   refine gy hb15 ?_
   refine guardM_st (fun hb16 => ?_) (fun hb16 => ?_)
   rotate_left
   ·have H := H.2 hb16
    refine gm hb16 ?_
    refine gy hb15 ?_
    refine pop_pickf' hb16 ?_
    refine pop_pickf' hb15 ?_
    refine condM_f ?_
    obtain ⟨J9, H, HB16⟩ := H
    refine ⟨fun (vs : List Value) (h' : Heap) => vs = [] /\ J9  h' /\ Vars h' [(b2, [s66c.v]), (b1, [s66.v])], ?_, ?_⟩
    ·refine condM_t' hb14 ?_
     refine pop_len s74 _ _ sli24 ?_
     obtain ⟨J10, ⟨n16, h0_8⟩, HB11⟩ := H
     refine loop_intro (J := fun (n : Nat) (vs : List Value) (h' : Heap) => ∃ seen24_4 : Int, ∃ s195b : Int, vs = [(VI seen24_4), (VI s195b)] /\ J10 n seen24_4 s195b h' /\ Vars h' [(b2, [s66c.v]), (b1, [s66.v])]) n16 ⟨0, 0, rfl, h0_8, hL17⟩ ?_
     intro I8 mu8 hI8 junk9 tv15 tv16 h61 hi30
     obtain ⟨n11, ⟨seen24_4, s195b, hv, hJ9, hL61⟩, hn6⟩ := hI8 _ _ hi30
     cases hv
     have H := HB11 n11 seen24_4 s195b h61 hJ9 hL61
     refine pop_lss .i64 s195b (s74.n : Int) ?_
     refine condM_b (fun hb65 => ?_) (fun hb65 => ?_)
     rotate_left
     ·have H := H.2 hb65
      refine guardM_st (fun hb80 => ?_) (fun hb80 => ?_)
      rotate_left
      ·have H := H.2 hb80
       refine gm hb80 ?_
       refine gm hb80 ?_
       refine gm hb80 ?_
       refine gm hb80 ?_
       refine gm hb80 ?_
       refine pop_pickf' hb80 ?_
       refine condM_f ?_
       refine gm hb16 ?_
       refine gm hb16 ?_
       refine gm hb16 ?_
       refine pop_pickf' hb16 ?_
       refine condM_f ?_
       exact ⟨rfl, H, hL61⟩
      have H := H.1 hb80
      refine gy hb80 ?_
      refine gy hb80 ?_
      obtain ⟨hi53, H⟩ := H
      refine pop_index sli24 siz33 .i64 s74 0 hi53 ?_
      refine gy hb80 ?_
      obtain ⟨s284b, hc46, H⟩ := H
      refine rop_one one33 s284b.v hc46 ?_
      refine gy hb80 ?_
      refine H.mono fun r46 h64 H => ?_
      obtain ⟨s285b, rfl, hL64, H⟩ := H
      refine gy hb80 ?_
      refine pop_not s285b ?_
      refine pop_pickt' hb80 ?_
      refine condM_b (fun hb81 => ?_) (fun hb81 => ?_)
      ·exact H.1 hb81
      have H := H.2 hb81
      refine gm hb16 ?_
      refine gm hb16 ?_
      refine gm hb16 ?_
      refine pop_pickf' hb16 ?_
      refine condM_f ?_
      exact ⟨rfl, H, hL64⟩
     have H := H.1 hb65
     obtain ⟨hi31, H⟩ := H
     refine pop_index sli24 siz33 .i64 s74 s195b hi31 ?_
     obtain ⟨s199b, hc45, H⟩ := H
     refine rop_one one33 s199b.v hc45 ?_
     refine pop_gtr .i64 s195b 0 ?_
     refine guardM_st (fun hb66 => ?_) (fun hb66 => ?_)
     rotate_left
     ·have H := H.2 hb66
      refine gm hb66 ?_
      refine gm hb66 ?_
      refine gm hb66 ?_
      refine gm hb66 ?_
      refine gm hb66 ?_
      refine gm hb66 ?_
      refine gm hb66 ?_
      refine gm hb66 ?_
      refine gm hb66 ?_
      refine gm hb66 ?_
      refine pop_pickf' hb66 ?_
      refine condM_f ?_
      refine pop_len s199b _ _ sli33 ?_
      obtain ⟨J12, ⟨n15, h0_7⟩, HB10⟩ := H
      refine loop_intro (J := fun (n : Nat) (vs : List Value) (h' : Heap) => ∃ seen24_6 : Int, ∃ s217d : Int, vs = [(VI seen24_6), (VI s217d)] /\ J12 n seen24_6 s217d h' /\ Vars h' [(b2, [s66c.v]), (b1, [s66.v])]) n15 ⟨seen24_4, 0, rfl, h0_7, hL61⟩ ?_
      intro I7 mu7 hI7 junk11 tv13 tv14 h63 hi44
      obtain ⟨n14, ⟨seen24_6, s217d, hv, hJ11, hL63⟩, hn8⟩ := hI7 _ _ hi44
      cases hv
      have H := HB10 n14 seen24_6 s217d h63 hJ11 hL63
      refine pop_lss .i64 s217d (s199b.n : Int) ?_
      refine condM_b (fun hb74 => ?_) (fun hb74 => ?_)
      rotate_left
      ·have H := H.2 hb74
       refine pop_add .i64 s195b 1 ?_
       obtain ⟨m_11, hm_11, H⟩ := H
       exact hn6 _ _ ⟨m_11, hm_11, seen24_6, (w64 (s195b + 1)), rfl, H, hL63⟩
      have H := H.1 hb74
      obtain ⟨hi45, H⟩ := H
      refine pop_index sli33 siz3 .i64 s199b s217d hi45 ?_
      obtain ⟨s221d, hc44, H⟩ := H
      refine rop_one one3 (VI s221d) hc44 ?_
      obtain ⟨hi46, H⟩ := H
      refine pop_index sli33 siz3 .i64 s199b 0 hi46 ?_
      obtain ⟨s225d, hc43, H⟩ := H
      refine rop_one one3 (VI s225d) hc43 ?_
      refine pop_lss .i64 s221d s225d ?_
      refine guardM_sf (fun hb75 => ?_) (fun hb75 => ?_)
      rotate_left
      ·have H := H.1 hb75
       refine gm hb75 ?_
       refine gm hb75 ?_
       refine pop_pickt' hb75 ?_
       refine gn ?_
       refine gn ?_
       refine gn ?_
       refine gn ?_
       refine gn ?_
       refine pop_pickt _ _ ?_
       refine gn ?_
       refine gn ?_
       refine gn ?_
       refine gn ?_
       refine gn ?_
       refine gn ?_
       refine gn ?_
       refine pop_pickt _ _ ?_
       refine gn ?_
       refine gn ?_
       refine gn ?_
       refine gn ?_
       refine gn ?_
       refine gn ?_
       refine gn ?_
       refine gn ?_
       refine gn ?_
       refine gn ?_
       refine gn ?_
       refine gn ?_
       refine gn ?_
       refine gn ?_
       refine gn ?_
       refine gn ?_
       refine gn ?_
       refine gn ?_
       refine gn ?_
       refine gn ?_
       refine gn ?_
       refine gn ?_
       refine gn ?_
       refine pop_pickt _ _ ?_
       refine condM_t ?_
       exact H
      have H := H.2 hb75
      refine gy hb75 ?_
      refine gy hb75 ?_
      refine pop_ieq .i64 _ _ s221d s66b ?_
      refine pop_pickf' hb75 ?_
      refine guardM_sf (fun hb76 => ?_) (fun hb76 => ?_)
      rotate_left
      ·have H := H.1 hb76
       refine gm hb76 ?_
       refine gm hb76 ?_
       refine gm hb76 ?_
       refine gm hb76 ?_
       refine pop_pickt' hb76 ?_
       refine gn ?_
       refine gn ?_
       refine gn ?_
       refine gn ?_
       refine gn ?_
       refine gn ?_
       refine gn ?_
       refine pop_pickt _ _ ?_
       refine gn ?_
       refine gn ?_
       refine gn ?_
       refine gn ?_
       refine gn ?_
       refine gn ?_
       refine gn ?_
       refine gn ?_
       refine gn ?_
       refine gn ?_
       refine gn ?_
       refine gn ?_
       refine gn ?_
       refine gn ?_
       refine gn ?_
       refine gn ?_
       refine gn ?_
       refine gn ?_
       refine gn ?_
       refine gn ?_
       refine gn ?_
       refine gn ?_
       refine gn ?_
       refine pop_pickt _ _ ?_
       refine condM_t ?_
       exact H
      have H := H.2 hb76
      refine gy hb76 ?_
      refine gy hb76 ?_
      refine H.mono fun r43 H => ?_
      obtain ⟨s235d, rfl, H⟩ := H
      refine gy hb76 ?_
      refine pop_rem .i64 s235d 2 (by decide) ?_
      refine gy hb76 ?_
      refine pop_ieq .i64 _ _ (Int.tmod s235d 2) 1 ?_
      refine pop_pickf' hb76 ?_
      refine guardM_sf (fun hb77 => ?_) (fun hb77 => ?_)
      rotate_left
      ·have H := H.1 hb77
       refine gm hb77 ?_
       refine gm hb77 ?_
       refine gm hb77 ?_
       refine gm hb77 ?_
       refine gm hb77 ?_
       refine gm hb77 ?_
       refine pop_pickt' hb77 ?_
       refine gn ?_
       refine gn ?_
       refine gn ?_
       refine gn ?_
       refine gn ?_
       refine gn ?_
       refine gn ?_
       refine gn ?_
       refine gn ?_
       refine gn ?_
       refine gn ?_
       refine gn ?_
       refine gn ?_
       refine gn ?_
       refine gn ?_
       refine gn ?_
       refine gn ?_
       refine gn ?_
       refine gn ?_
       refine gn ?_
       refine gn ?_
       refine gn ?_
       refine gn ?_
       refine pop_pickt _ _ ?_
       refine condM_t ?_
       exact H
      have H := H.2 hb77
      refine pop_field 0 fld28_0 b2 0 ?_
      refine gy hb77 ?_
      refine rl one24 hL63 0 0 s66c.v ?_
      refine gy hb77 ?_
      refine gy hb77 ?_
      obtain ⟨hi47, H⟩ := H
      refine pop_index sli24 siz33 .i64 s66c s221d hi47 ?_
      refine gy hb77 ?_
      obtain ⟨s244d, hc42, H⟩ := H
      refine rop_one one33 s244d.v hc42 ?_
      refine gy hb77 ?_
      refine pop_len s244d _ _ sli33 ?_
      refine gy hb77 ?_
      refine pop_ieq .i64 _ _ (s244d.n : Int) 0 ?_
      refine pop_pickf' hb77 ?_
      refine guardM_sf (fun hb78 => ?_) (fun hb78 => ?_)
      rotate_left
      ·have H := H.1 hb78
       refine gm hb78 ?_
       refine gm hb78 ?_
       refine gm hb78 ?_
       refine gm hb78 ?_
       refine gm hb78 ?_
       refine gm hb78 ?_
       refine gm hb78 ?_
       refine gm hb78 ?_
       refine gm hb78 ?_
       refine gm hb78 ?_
       refine gm hb78 ?_
       refine gm hb78 ?_
       refine gm hb78 ?_
       refine gm hb78 ?_
       refine gm hb78 ?_
       refine gm hb78 ?_
       refine gm hb78 ?_
       refine gm hb78 ?_
       refine gm hb78 ?_
       refine gm hb78 ?_
       refine gm hb78 ?_
       refine gm hb78 ?_
       refine pop_pickt' hb78 ?_
       refine condM_t ?_
       exact H
      have H := H.2 hb78
      refine pop_field 0 fld26_0 b1 0 ?_
      refine gy hb78 ?_
      refine rl one24 hL63 1 0 s66.v ?_
      refine gy hb78 ?_
      refine gy hb78 ?_
      obtain ⟨hi48, H⟩ := H
      refine pop_index sli24 siz33 .i64 s66 s221d hi48 ?_
      refine gy hb78 ?_
      obtain ⟨s253d, hc41, H⟩ := H
      refine rop_one one33 s253d.v hc41 ?_
      refine gy hb78 ?_
      refine pop_field 0 fld28_0 b2 0 ?_
      refine gy hb78 ?_
      refine rl one24 hL63 0 0 s66c.v ?_
      refine gy hb78 ?_
      refine gy hb78 ?_
      obtain ⟨hi49, H⟩ := H
      refine pop_index sli24 siz33 .i64 s66c s221d hi49 ?_
      refine gy hb78 ?_
      obtain ⟨s258d, hc40, H⟩ := H
      refine rop_one one33 s258d.v hc40 ?_
      refine gy hb78 ?_
      obtain ⟨hi50, H⟩ := H
      refine pop_index sli33 siz3 .i64 s258d 0 hi50 ?_
      refine gy hb78 ?_
      obtain ⟨s260d, hc39, H⟩ := H
      refine rop_one one3 (VI s260d) hc39 ?_
      refine gy hb78 ?_
      obtain ⟨hi51, H⟩ := H
      refine pop_index sli33 siz3 .i64 s253d s260d hi51 ?_
      refine gy hb78 ?_
      obtain ⟨s262d, hc38, H⟩ := H
      refine rop_one one3 (VI s262d) hc38 ?_
      refine gy hb78 ?_
      refine gy hb78 ?_
      refine gy hb78 ?_
      refine pop_add .i64 s217d 1 ?_
      refine gy hb78 ?_
      refine gy hb78 ?_
      refine pop_len s199b _ _ sli33 ?_
      refine gy hb78 ?_
      obtain ⟨hz_4, H⟩ := H
      refine pop_rem .i64 (w64 (s217d + 1)) (s199b.n : Int) hz_4 ?_
      refine gy hb78 ?_
      obtain ⟨hi52, H⟩ := H
      refine pop_index sli33 siz3 .i64 s199b (Int.tmod (w64 (s217d + 1)) (s199b.n : Int)) hi52 ?_
      refine gy hb78 ?_
      obtain ⟨s270d, hc37, H⟩ := H
      refine rop_one one3 (VI s270d) hc37 ?_
      refine gy hb78 ?_
      refine pop_ine .i64 _ _ s262d s270d ?_
      refine pop_pickf' hb78 ?_
      refine condM_b (fun hb79 => ?_) (fun hb79 => ?_)
      ·exact H.1 hb79
      have H := H.2 hb79
      refine H.mono fun r44 H => ?_
      obtain ⟨s275d, rfl, H⟩ := H
      refine H.mono fun r45 H => ?_
      obtain ⟨s276d, rfl, H⟩ := H
      refine pop_add .i64 s217d 1 ?_
      obtain ⟨m_10, hm_10, H⟩ := H
      exact hn8 _ _ ⟨m_10, hm_10, s276d, (w64 (s217d + 1)), rfl, H, hL63⟩
     have H := H.1 hb66
     refine gy hb66 ?_
     refine gy hb66 ?_
     refine pop_sub .i64 s195b 1 ?_
     refine gy hb66 ?_
     obtain ⟨hi32, H⟩ := H
     refine pop_index sli24 siz33 .i64 s74 (w64 (s195b - 1)) hi32 ?_
     refine gy hb66 ?_
     obtain ⟨s207b, hc36, H⟩ := H
     refine rop_one one33 s207b.v hc36 ?_
     refine gy hb66 ?_
     obtain ⟨hi33, H⟩ := H
     refine pop_index sli33 siz3 .i64 s207b 0 hi33 ?_
     refine gy hb66 ?_
     obtain ⟨s209b, hc35, H⟩ := H
     refine rop_one one3 (VI s209b) hc35 ?_
     refine gy hb66 ?_
     refine gy hb66 ?_
     obtain ⟨hi34, H⟩ := H
     refine pop_index sli33 siz3 .i64 s199b 0 hi34 ?_
     refine gy hb66 ?_
     obtain ⟨s212b, hc34, H⟩ := H
     refine rop_one one3 (VI s212b) hc34 ?_
     refine gy hb66 ?_
     refine pop_geq .i64 s209b s212b ?_
     refine pop_pickt' hb66 ?_
     refine condM_b (fun hb67 => ?_) (fun hb67 => ?_)
     ·exact H.1 hb67
     have H := H.2 hb67
     refine pop_len s199b _ _ sli33 ?_
     obtain ⟨J11, ⟨n13, h0_6⟩, HB9⟩ := H
     refine loop_intro (J := fun (n : Nat) (vs : List Value) (h' : Heap) => ∃ seen24_5 : Int, ∃ s217c : Int, vs = [(VI seen24_5), (VI s217c)] /\ J11 n seen24_5 s217c h' /\ Vars h' [(b2, [s66c.v]), (b1, [s66.v])]) n13 ⟨seen24_4, 0, rfl, h0_6, hL61⟩ ?_
     intro I6 mu6 hI6 junk10 tv11 tv12 h62 hi35
     obtain ⟨n12, ⟨seen24_5, s217c, hv, hJ10, hL62⟩, hn7⟩ := hI6 _ _ hi35
     cases hv
     have H := HB9 n12 seen24_5 s217c h62 hJ10 hL62
     refine pop_lss .i64 s217c (s199b.n : Int) ?_
     refine condM_b (fun hb68 => ?_) (fun hb68 => ?_)
     rotate_left
     ·have H := H.2 hb68
      refine pop_add .i64 s195b 1 ?_
      obtain ⟨m_9, hm_9, H⟩ := H
      exact hn6 _ _ ⟨m_9, hm_9, seen24_5, (w64 (s195b + 1)), rfl, H, hL62⟩
     have H := H.1 hb68
     obtain ⟨hi36, H⟩ := H
     refine pop_index sli33 siz3 .i64 s199b s217c hi36 ?_
     obtain ⟨s221c, hc33, H⟩ := H
     refine rop_one one3 (VI s221c) hc33 ?_
     obtain ⟨hi37, H⟩ := H
     refine pop_index sli33 siz3 .i64 s199b 0 hi37 ?_
     obtain ⟨s225c, hc32, H⟩ := H
     refine rop_one one3 (VI s225c) hc32 ?_
     refine pop_lss .i64 s221c s225c ?_
     refine guardM_sf (fun hb69 => ?_) (fun hb69 => ?_)
     rotate_left
     ·have H := H.1 hb69
      refine gm hb69 ?_
      refine gm hb69 ?_
      refine pop_pickt' hb69 ?_
      refine gn ?_
      refine gn ?_
      refine gn ?_
      refine gn ?_
      refine gn ?_
      refine pop_pickt _ _ ?_
      refine gn ?_
      refine gn ?_
      refine gn ?_
      refine gn ?_
      refine gn ?_
      refine gn ?_
      refine gn ?_
      refine pop_pickt _ _ ?_
      refine gn ?_
      refine gn ?_
      refine gn ?_
      refine gn ?_
      refine gn ?_
      refine gn ?_
      refine gn ?_
      refine gn ?_
      refine gn ?_
      refine gn ?_
      refine gn ?_
      refine gn ?_
      refine gn ?_
      refine gn ?_
      refine gn ?_
      refine gn ?_
      refine gn ?_
      refine gn ?_
      refine gn ?_
      refine gn ?_
      refine gn ?_
      refine gn ?_
      refine gn ?_
      refine pop_pickt _ _ ?_
      refine condM_t ?_
      exact H
     have H := H.2 hb69
     refine gy hb69 ?_
     refine gy hb69 ?_
     refine pop_ieq .i64 _ _ s221c s66b ?_
     refine pop_pickf' hb69 ?_
     refine guardM_sf (fun hb70 => ?_) (fun hb70 => ?_)
     rotate_left
     ·have H := H.1 hb70
      refine gm hb70 ?_
      refine gm hb70 ?_
      refine gm hb70 ?_
      refine gm hb70 ?_
      refine pop_pickt' hb70 ?_
      refine gn ?_
      refine gn ?_
      refine gn ?_
      refine gn ?_
      refine gn ?_
      refine gn ?_
      refine gn ?_
      refine pop_pickt _ _ ?_
      refine gn ?_
      refine gn ?_
      refine gn ?_
      refine gn ?_
      refine gn ?_
      refine gn ?_
      refine gn ?_
      refine gn ?_
      refine gn ?_
      refine gn ?_
      refine gn ?_
      refine gn ?_
      refine gn ?_
      refine gn ?_
      refine gn ?_
      refine gn ?_
      refine gn ?_
      refine gn ?_
      refine gn ?_
      refine gn ?_
      refine gn ?_
      refine gn ?_
      refine gn ?_
      refine pop_pickt _ _ ?_
      refine condM_t ?_
      exact H
     have H := H.2 hb70
     refine gy hb70 ?_
     refine gy hb70 ?_
     refine H.mono fun r40 H => ?_
     obtain ⟨s235c, rfl, H⟩ := H
     refine gy hb70 ?_
     refine pop_rem .i64 s235c 2 (by decide) ?_
     refine gy hb70 ?_
     refine pop_ieq .i64 _ _ (Int.tmod s235c 2) 1 ?_
     refine pop_pickf' hb70 ?_
     refine guardM_sf (fun hb71 => ?_) (fun hb71 => ?_)
     rotate_left
     ·have H := H.1 hb71
      refine gm hb71 ?_
      refine gm hb71 ?_
      refine gm hb71 ?_
      refine gm hb71 ?_
      refine gm hb71 ?_
      refine gm hb71 ?_
      refine pop_pickt' hb71 ?_
      refine gn ?_
      refine gn ?_
      refine gn ?_
      refine gn ?_
      refine gn ?_
      refine gn ?_
      refine gn ?_
      refine gn ?_
      refine gn ?_
      refine gn ?_
      refine gn ?_
      refine gn ?_
      refine gn ?_
      refine gn ?_
      refine gn ?_
      refine gn ?_
      refine gn ?_
      refine gn ?_
      refine gn ?_
      refine gn ?_
      refine gn ?_
      refine gn ?_
      refine gn ?_
      refine pop_pickt _ _ ?_
      refine condM_t ?_
      exact H
     have H := H.2 hb71
     refine pop_field 0 fld28_0 b2 0 ?_
     refine gy hb71 ?_
     refine rl one24 hL62 0 0 s66c.v ?_
     refine gy hb71 ?_
     refine gy hb71 ?_
     obtain ⟨hi38, H⟩ := H
     refine pop_index sli24 siz33 .i64 s66c s221c hi38 ?_
     refine gy hb71 ?_
     obtain ⟨s244c, hc31, H⟩ := H
     refine rop_one one33 s244c.v hc31 ?_
     refine gy hb71 ?_
     refine pop_len s244c _ _ sli33 ?_
     refine gy hb71 ?_
     refine pop_ieq .i64 _ _ (s244c.n : Int) 0 ?_
     refine pop_pickf' hb71 ?_
     refine guardM_sf (fun hb72 => ?_) (fun hb72 => ?_)
     rotate_left
     ·have H := H.1 hb72
      refine gm hb72 ?_
      refine gm hb72 ?_
      refine gm hb72 ?_
      refine gm hb72 ?_
      refine gm hb72 ?_
      refine gm hb72 ?_
      refine gm hb72 ?_
      refine gm hb72 ?_
      refine gm hb72 ?_
      refine gm hb72 ?_
      refine gm hb72 ?_
      refine gm hb72 ?_
      refine gm hb72 ?_
      refine gm hb72 ?_
      refine gm hb72 ?_
      refine gm hb72 ?_
      refine gm hb72 ?_
      refine gm hb72 ?_
      refine gm hb72 ?_
      refine gm hb72 ?_
      refine gm hb72 ?_
      refine gm hb72 ?_
      refine pop_pickt' hb72 ?_
      refine condM_t ?_
      exact H
     have H := H.2 hb72
     refine pop_field 0 fld26_0 b1 0 ?_
     refine gy hb72 ?_
     refine rl one24 hL62 1 0 s66.v ?_
     refine gy hb72 ?_
     refine gy hb72 ?_
     obtain ⟨hi39, H⟩ := H
     refine pop_index sli24 siz33 .i64 s66 s221c hi39 ?_
     refine gy hb72 ?_
     obtain ⟨s253c, hc30, H⟩ := H
     refine rop_one one33 s253c.v hc30 ?_
     refine gy hb72 ?_
     refine pop_field 0 fld28_0 b2 0 ?_
     refine gy hb72 ?_
     refine rl one24 hL62 0 0 s66c.v ?_
     refine gy hb72 ?_
     refine gy hb72 ?_
     obtain ⟨hi40, H⟩ := H
     refine pop_index sli24 siz33 .i64 s66c s221c hi40 ?_
     refine gy hb72 ?_
     obtain ⟨s258c, hc29, H⟩ := H
     refine rop_one one33 s258c.v hc29 ?_
     refine gy hb72 ?_
     obtain ⟨hi41, H⟩ := H
     refine pop_index sli33 siz3 .i64 s258c 0 hi41 ?_
     refine gy hb72 ?_
     obtain ⟨s260c, hc28, H⟩ := H
     refine rop_one one3 (VI s260c) hc28 ?_
     refine gy hb72 ?_
     obtain ⟨hi42, H⟩ := H
     refine pop_index sli33 siz3 .i64 s253c s260c hi42 ?_
     refine gy hb72 ?_
     obtain ⟨s262c, hc27, H⟩ := H
     refine rop_one one3 (VI s262c) hc27 ?_
     refine gy hb72 ?_
     refine gy hb72 ?_
     refine gy hb72 ?_
     refine pop_add .i64 s217c 1 ?_
     refine gy hb72 ?_
     refine gy hb72 ?_
     refine pop_len s199b _ _ sli33 ?_
     refine gy hb72 ?_
     obtain ⟨hz_3, H⟩ := H
     refine pop_rem .i64 (w64 (s217c + 1)) (s199b.n : Int) hz_3 ?_
     refine gy hb72 ?_
     obtain ⟨hi43, H⟩ := H
     refine pop_index sli33 siz3 .i64 s199b (Int.tmod (w64 (s217c + 1)) (s199b.n : Int)) hi43 ?_
     refine gy hb72 ?_
     obtain ⟨s270c, hc26, H⟩ := H
     refine rop_one one3 (VI s270c) hc26 ?_
     refine gy hb72 ?_
     refine pop_ine .i64 _ _ s262c s270c ?_
     refine pop_pickf' hb72 ?_
     refine condM_b (fun hb73 => ?_) (fun hb73 => ?_)
     ·exact H.1 hb73
     have H := H.2 hb73
     refine H.mono fun r41 H => ?_
     obtain ⟨s275c, rfl, H⟩ := H
     refine H.mono fun r42 H => ?_
     obtain ⟨s276c, rfl, H⟩ := H
     refine pop_add .i64 s217c 1 ?_
     obtain ⟨m_8, hm_8, H⟩ := H
     exact hn7 _ _ ⟨m_8, hm_8, s276c, (w64 (s217c + 1)), rfl, H, hL62⟩
    intro junk12  h65
    rintro ⟨hv, hJ12, hL65⟩
    have H := HB16  h65 hJ12 hL65
    refine H.mono fun r47 h66 H => ?_
    obtain ⟨s309e, s309f, s309g, s309h, rfl, hL66, H⟩ := H
    refine pop_ext (v := (Value.agg #[s309e.v])) rfl ?_
    refine pop_ext (v := (VI s309f)) rfl ?_
    refine pop_ext (v := (Value.agg #[s309g.v])) rfl ?_
    refine pop_ext (v := (VI s309h)) rfl ?_
    refine eop_alloc 26 zer26 rfl hL66 (fun b11 h67 hb82 hf21 hL67 => ?_)
    refine eop_alloc 28 zer28 rfl hL67 (fun b12 h68 hb83 hf22 hL68 => ?_)
    refine ul siz26 hL68 1 0 [s309e.v] [(b12, [nilSl.v]), (b11, [s309e.v]), (b2, [s66c.v]), (b1, [s66.v])] (fun h69 hf23 hL69 => ?_)
    refine ul siz28 hL69 0 0 [s309g.v] [(b12, [s309g.v]), (b11, [s309e.v]), (b2, [s66c.v]), (b1, [s66.v])] (fun h70 hf24 hL70 => ?_)
    refine ra agg26 hL70 1 0 [s309e.v] ?_
    refine ra agg28 hL70 0 0 [s309g.v] ?_
    have H := H b11 b12 h70 hb82 (Nat.le_trans (Fr.size (Fr.no' (Fr.r (In []) _) hf21)) hb83) (Fr.new (Fr.new (Fr.no' (Fr.no' (Fr.r (In []) _) hf21) hf22) hb82 hf23) (Nat.le_trans (Fr.size (Fr.no' (Fr.r (In []) _) hf21)) hb83) hf24) hL70
    refine H.mono fun r48 h71 H => ?_
    obtain ⟨s319c, s319d, rfl, hL71, H⟩ := H
    refine pop_ext (v := (Value.agg #[s319c.v])) rfl ?_
    refine pop_ext (v := (VB s319d)) rfl ?_
    refine eop_alloc 28 zer28 rfl hL71 (fun b13 h72 hb84 hf25 hL72 => ?_)
    refine ul siz28 hL72 0 0 [s319c.v] [(b13, [s319c.v]), (b12, [s309g.v]), (b11, [s309e.v]), (b2, [s66c.v]), (b1, [s66.v])] (fun h73 hf26 hL73 => ?_)
    refine ra agg26 hL73 2 0 [s309e.v] ?_
    refine ra agg28 hL73 1 0 [s309g.v] ?_
    have H := H b13 h73 hb84 (Fr.new (Fr.no' (Fr.r (In []) _) hf25) hb84 hf26) hL73
    refine H.mono fun r49 h74 H => ?_
    obtain ⟨s327c, s327d, rfl, hL74, H⟩ := H
    refine pop_ext (v := (Value.agg #[s327c.v])) rfl ?_
    refine pop_ext (v := (VB s327d)) rfl ?_
    refine eop_alloc 28 zer28 rfl hL74 (fun b14 h75 hb85 hf27 hL75 => ?_)
    refine ul siz28 hL75 0 0 [s327c.v] [(b14, [s327c.v]), (b13, [s319c.v]), (b12, [s309g.v]), (b11, [s309e.v]), (b2, [s66c.v]), (b1, [s66.v])] (fun h76 hf28 hL76 => ?_)
    refine pop_bne boo4 _ _ s319d s327d ?_
    refine guardM_sf (fun hb86 => ?_) (fun hb86 => ?_)
    rotate_left
    ·have H := H.1 hb86
     refine gm hb86 ?_
     refine gm hb86 ?_
     refine gm hb86 ?_
     refine pop_pickt' hb86 ?_
     refine condM_t ?_
     have H := H b14 h76 hb85 (Fr.new (Fr.no' (Fr.r (In []) _) hf27) hb85 hf28) hL76
     exact H
    have H := H.2 hb86
    refine ra agg28 hL76 1 0 [s319c.v] ?_
    refine gy hb86 ?_
    refine ra agg28 hL76 0 0 [s327c.v] ?_
    refine gy hb86 ?_
    have H := H b14 h76 hb85 (Fr.new (Fr.no' (Fr.r (In []) _) hf27) hb85 hf28) hL76
    refine H.mono fun r50 h77 H => ?_
    obtain ⟨s336b, rfl, hL77, H⟩ := H
    refine gy hb86 ?_
    refine pop_not s336b ?_
    refine pop_pickf' hb86 ?_
    refine condM_b (fun hb87 => ?_) (fun hb87 => ?_)
    ·exact H.1 hb87
    have H := H.2 hb87
    obtain ⟨J13, H, HB15⟩ := H
    refine ⟨fun (vs : List Value) (h' : Heap) => vs = [] /\ J13  h' /\ Vars h' [(b14, [s327c.v]), (b13, [s319c.v]), (b12, [s309g.v]), (b11, [s309e.v]), (b2, [s66c.v]), (b1, [s66.v])], ?_, ?_⟩
    ·refine condM_b (fun hb88 => ?_) (fun hb88 => ?_)
     rotate_left
     ·have H := H.2 hb88
      exact ⟨rfl, H, hL77⟩
     have H := H.1 hb88
     refine ra agg26 hL77 3 0 [s309e.v] ?_
     refine ra agg28 hL77 2 0 [s309g.v] ?_
     refine H.mono fun r51 h78 H => ?_
     obtain ⟨s344c, s344d, rfl, hL78, H⟩ := H
     refine pop_ext (v := s344c.v) rfl ?_
     refine pop_ext (v := (VB s344d)) rfl ?_
     refine pop_len s344c _ _ sli24 ?_
     obtain ⟨J14, ⟨n20, h0_10⟩, HB14⟩ := H
     refine loop_intro (J := fun (n : Nat) (vs : List Value) (h' : Heap) => ∃ own41_2 : Sl, ∃ s349b : Int, vs = [own41_2.v, (VI s349b)] /\ J14 n own41_2 s349b h' /\ Vars h' [(b14, [s327c.v]), (b13, [s319c.v]), (b12, [s309g.v]), (b11, [s309e.v]), (b2, [s66c.v]), (b1, [s66.v])]) n20 ⟨nilSl, 0, rfl, h0_10, hL78⟩ ?_
     intro I10 mu10 hI10 junk13 tv19 tv20 h79 hi54
     obtain ⟨n17, ⟨own41_2, s349b, hv, hJ13, hL79⟩, hn9⟩ := hI10 _ _ hi54
     cases hv
     have H := HB14 n17 own41_2 s349b h79 hJ13 hL79
     refine pop_lss .i64 s349b (s344c.n : Int) ?_
     refine condM_b (fun hb89 => ?_) (fun hb89 => ?_)
     ·have H := H.1 hb89
      obtain ⟨hi55, H⟩ := H
      refine pop_index sli24 siz33 .i64 s344c s349b hi55 ?_
      obtain ⟨s352b, hc47, H⟩ := H
      refine rop_one one33 s352b.v hc47 ?_
      refine H.mono fun r52 h80 H => ?_
      obtain ⟨s355b, rfl, hL80, H⟩ := H
      refine condM_b (fun hb90 => ?_) (fun hb90 => ?_)
      ·have H := H.1 hb90
       refine pop_add .i64 s349b 1 ?_
       obtain ⟨m_12, hm_12, H⟩ := H
       exact hn9 _ _ ⟨m_12, hm_12, s352b, (w64 (s349b + 1)), rfl, H, hL80⟩
      have H := H.2 hb90
      refine pop_add .i64 s349b 1 ?_
      obtain ⟨m_13, hm_13, H⟩ := H
      exact hn9 _ _ ⟨m_13, hm_13, own41_2, (w64 (s349b + 1)), rfl, H, hL80⟩
     have H := H.2 hb89
     refine pop_not s344d ?_
     refine guardM_sf (fun hb91 => ?_) (fun hb91 => ?_)
     rotate_left
     ·have H := H.1 hb91
      refine gm hb91 ?_
      refine gm hb91 ?_
      refine pop_pickt' hb91 ?_
      refine condM_t ?_
      exact H
     have H := H.2 hb91
     refine gy hb91 ?_
     refine pop_len own41_2 _ _ sli33 ?_
     refine gy hb91 ?_
     refine pop_ieq .i64 _ _ (own41_2.n : Int) 0 ?_
     refine pop_pickf' hb91 ?_
     refine condM_b (fun hb92 => ?_) (fun hb92 => ?_)
     ·exact H.1 hb92
     have H := H.2 hb92
     refine pop_field 0 fld26_0 b11 0 ?_
     refine rl one24 hL79 3 0 s309e.v ?_
     refine pop_len s309e _ _ sli24 ?_
     obtain ⟨J15, ⟨n19, h0_9⟩, HB13⟩ := H
     refine loop_intro (J := fun (n : Nat) (vs : List Value) (h' : Heap) => ∃ s368b : Int, vs = [(VI s368b)] /\ J15 n s368b h' /\ Vars h' [(b14, [s327c.v]), (b13, [s319c.v]), (b12, [s309g.v]), (b11, [s309e.v]), (b2, [s66c.v]), (b1, [s66.v])]) n19 ⟨0, rfl, h0_9, hL79⟩ ?_
     intro I9 mu9 hI9 junk14 tv18 h81 hi56
     obtain ⟨n18, ⟨s368b, hv, hJ14, hL81⟩, hn10⟩ := hI9 _ _ hi56
     cases hv
     have H := HB13 n18 s368b h81 hJ14 hL81
     refine pop_lss .i64 s368b (s309e.n : Int) ?_
     refine condM_b (fun hb93 => ?_) (fun hb93 => ?_)
     rotate_left
     ·have H := H.2 hb93
      exact ⟨rfl, H, hL81⟩
     have H := H.1 hb93
     obtain ⟨J16, H, HB12⟩ := H
     refine ⟨fun (vs : List Value) (h' : Heap) => ∃ y2 : Int, vs = [(VI y2)] /\ J16 y2 h' /\ Vars h' [(b14, [s327c.v]), (b13, [s319c.v]), (b12, [s309g.v]), (b11, [s309e.v]), (b2, [s66c.v]), (b1, [s66.v])], ?_, ?_⟩
     ·refine H.mono fun r53 h82 H => ?_
      obtain ⟨s373b, rfl, hL82, H⟩ := H
      refine condM_b (fun hb94 => ?_) (fun hb94 => ?_)
      ·have H := H.1 hb94
       exact ⟨1, rfl, H, hL82⟩
      have H := H.2 hb94
      exact ⟨0, rfl, H, hL82⟩
     intro junk15 tv17 h83
     rintro ⟨y2, hv, hJ15, hL83⟩
     cases hv
     have H := HB12 y2 h83 hJ15 hL83
     refine pop_field 0 fld28_0 b13 0 ?_
     refine rl one24 hL83 1 0 s319c.v ?_
     obtain ⟨hi57, H⟩ := H
     refine pop_index sli24 siz33 .i64 s319c s368b hi57 ?_
     obtain ⟨s378b, hc50, H⟩ := H
     refine rop_one one33 s378b.v hc50 ?_
     refine pop_field 0 fld28_0 b12 0 ?_
     refine rl one24 hL83 2 0 s309g.v ?_
     obtain ⟨hi58, H⟩ := H
     refine pop_index sli24 siz33 .i64 s309g s368b hi58 ?_
     obtain ⟨s383b, hc49, H⟩ := H
     refine rop_one one33 s383b.v hc49 ?_
     refine H.mono fun r54 H => ?_
     obtain ⟨s385b, rfl, H⟩ := H
     refine H.mono fun r55 h84 H => ?_
     obtain ⟨s386b, rfl, hL84, H⟩ := H
     refine ⟨?_, ?_⟩
     ·exact still_one one33 H.1
     obtain ⟨hc48, H⟩ := H
     refine ⟨?_, ?_⟩
     ·exact still_loc one24 hL84 2 rfl 0 (v := s309g.v) rfl
     refine ⟨?_, ?_⟩
     ·exact still_loc one24 hL84 1 rfl 0 (v := s319c.v) rfl
     refine pop_not s386b ?_
     refine condM_b (fun hb95 => ?_) (fun hb95 => ?_)
     ·exact H.1 hb95
     have H := H.2 hb95
     refine pop_add .i64 s368b 1 ?_
     obtain ⟨m_14, hm_14, H⟩ := H
     exact hn10 _ _ ⟨m_14, hm_14, (w64 (s368b + 1)), rfl, H, hL84⟩
    intro junk16  h85
    rintro ⟨hv, hJ16, hL85⟩
    have H := HB15  h85 hJ16 hL85
    refine H.mono fun r56 h86 H => ?_
    obtain ⟨s391e, s391f, s391g, s391h, rfl, hL86, H⟩ := H
    refine pop_ext (v := (Value.agg #[s391e.v])) rfl ?_
    refine pop_ext (v := (VI s391f)) rfl ?_
    refine pop_ext (v := s391g.v) rfl ?_
    refine pop_ext (v := (VI s391h)) rfl ?_
    refine eop_alloc 26 zer26 rfl hL86 (fun b15 h87 hb96 hf29 hL87 => ?_)
    refine ul siz26 hL87 0 0 [s391e.v] [(b15, [s391e.v]), (b14, [s327c.v]), (b13, [s319c.v]), (b12, [s309g.v]), (b11, [s309e.v]), (b2, [s66c.v]), (b1, [s66.v])] (fun h88 hf30 hL88 => ?_)
    refine ra agg26 hL88 0 0 [s391e.v] ?_
    have H := H b15 h88 hb96 (Fr.new (Fr.no' (Fr.r (In []) _) hf29) hb96 hf30) hL88
    refine H.mono fun r57 h89 H => ?_
    obtain ⟨s401c, s401d, rfl, hL89, H⟩ := H
    refine pop_ext (v := (Value.agg #[s401c.v])) rfl ?_
    refine pop_ext (v := (VB s401d)) rfl ?_
    refine eop_alloc 28 zer28 rfl hL89 (fun b16 h90 hb97 hf31 hL90 => ?_)
    refine ul siz28 hL90 0 0 [s401c.v] [(b16, [s401c.v]), (b15, [s391e.v]), (b14, [s327c.v]), (b13, [s319c.v]), (b12, [s309g.v]), (b11, [s309e.v]), (b2, [s66c.v]), (b1, [s66.v])] (fun h91 hf32 hL91 => ?_)
    refine ra agg26 hL91 1 0 [s391e.v] ?_
    have H := H b16 h91 hb97 (Fr.new (Fr.no' (Fr.r (In []) _) hf31) hb97 hf32) hL91
    refine H.mono fun r58 h92 H => ?_
    obtain ⟨s409c, s409d, rfl, hL92, H⟩ := H
    refine pop_ext (v := (Value.agg #[s409c.v])) rfl ?_
    refine pop_ext (v := (VB s409d)) rfl ?_
    refine eop_alloc 28 zer28 rfl hL92 (fun b17 h93 hb98 hf33 hL93 => ?_)
    refine ul siz28 hL93 0 0 [s409c.v] [(b17, [s409c.v]), (b16, [s401c.v]), (b15, [s391e.v]), (b14, [s327c.v]), (b13, [s319c.v]), (b12, [s309g.v]), (b11, [s309e.v]), (b2, [s66c.v]), (b1, [s66.v])] (fun h94 hf34 hL94 => ?_)
    have H := H b17 h94 hb98 (Fr.new (Fr.no' (Fr.r (In []) _) hf33) hb98 hf34) hL94
    refine H.mono fun r59 h95 H => ?_
    obtain ⟨s413b, rfl, hL95, H⟩ := H
    refine eop_alloc 28 zer28 rfl hL95 (fun b18 h96 hb99 hf35 hL96 => ?_)
    refine ul siz28 hL96 0 0 [s413b.v] [(b18, [s413b.v]), (b17, [s409c.v]), (b16, [s401c.v]), (b15, [s391e.v]), (b14, [s327c.v]), (b13, [s319c.v]), (b12, [s309g.v]), (b11, [s309e.v]), (b2, [s66c.v]), (b1, [s66.v])] (fun h97 hf36 hL97 => ?_)
    refine ra agg28 hL97 0 0 [s413b.v] ?_
    have H := H b18 h97 hb99 (Fr.new (Fr.no' (Fr.r (In []) _) hf35) hb99 hf36) hL97
    refine H.mono fun r60 h98 H => ?_
    obtain ⟨s416c, s416d, rfl, hL98, H⟩ := H
    refine pop_ext (v := (VS s416c)) rfl ?_
    refine pop_ext (v := (VB s416d)) rfl ?_
    refine ra agg28 hL98 0 0 [s413b.v] ?_
    refine H.mono fun r61 h99 H => ?_
    obtain ⟨s421c, s421d, rfl, hL99, H⟩ := H
    refine pop_ext (v := (VS s421c)) rfl ?_
    refine pop_ext (v := (VB s421d)) rfl ?_
    refine pop_bne boo4 _ _ s401d s409d ?_
    refine guardM_sf (fun hb100 => ?_) (fun hb100 => ?_)
    rotate_left
    ·have H := H.1 hb100
     refine gm hb100 ?_
     refine gm hb100 ?_
     refine gm hb100 ?_
     refine pop_pickt' hb100 ?_
     refine gn ?_
     refine gn ?_
     refine gn ?_
     refine pop_pickt _ _ ?_
     refine gn ?_
     refine gn ?_
     refine gn ?_
     refine pop_pickt _ _ ?_
     refine condM_t ?_
     exact H
    have H := H.2 hb100
    refine ra agg28 hL99 2 0 [s401c.v] ?_
    refine gy hb100 ?_
    refine ra agg28 hL99 1 0 [s409c.v] ?_
    refine gy hb100 ?_
    refine H.mono fun r62 h100 H => ?_
    obtain ⟨s430b, rfl, hL100, H⟩ := H
    refine gy hb100 ?_
    refine pop_not s430b ?_
    refine pop_pickf' hb100 ?_
    refine guardM_sf (fun hb101 => ?_) (fun hb101 => ?_)
    rotate_left
    ·have H := H.1 hb101
     refine gm hb101 ?_
     refine gm hb101 ?_
     refine pop_pickt' hb101 ?_
     refine gn ?_
     refine gn ?_
     refine gn ?_
     refine pop_pickt _ _ ?_
     refine condM_t ?_
     exact H
    have H := H.2 hb101
    refine gy hb101 ?_
    refine gy hb101 ?_
    refine pop_bne boo4 _ _ s416d s421d ?_
    refine pop_pickf' hb101 ?_
    refine guardM_sf (fun hb102 => ?_) (fun hb102 => ?_)
    rotate_left
    ·have H := H.1 hb102
     refine gm hb102 ?_
     refine gm hb102 ?_
     refine pop_pickt' hb102 ?_
     refine condM_t ?_
     exact H
    have H := H.2 hb102
    refine gy hb102 ?_
    refine gy hb102 ?_
    refine pop_sne _ _ s416c s421c ?_
    refine pop_pickf' hb102 ?_
    refine condM_b (fun hb103 => ?_) (fun hb103 => ?_)
    ·exact H.1 hb103
    have H := H.2 hb103
    refine condM_b (fun hb104 => ?_) (fun hb104 => ?_)
    rotate_left
    ·exact H.2 hb104
    have H := H.1 hb104
    refine ra agg26 hL100 3 0 [s391e.v] ?_
    refine ra agg28 hL100 2 0 [s401c.v] ?_
    refine H.mono fun r63 h101 H => ?_
    obtain ⟨s448c, s448d, rfl, hL101, H⟩ := H
    refine pop_ext (v := (VB s448c)) rfl ?_
    refine pop_ext (v := (VB s448d)) rfl ?_
    refine guardM_st (fun hb105 => ?_) (fun hb105 => ?_)
    ·have H := H.1 hb105
     refine pop_pickt' hb105 ?_
     exact H
    have H := H.2 hb105
    refine pop_pickf' hb105 ?_
    exact H
   have H := H.1 hb16
   refine gy hb16 ?_
   refine pop_not s74b ?_
   refine gy hb15 ?_
   refine pop_pickt' hb16 ?_
   refine pop_pickf' hb15 ?_
   refine condM_b (fun hb17 => ?_) (fun hb17 => ?_)
   ·exact H.1 hb17
   have H := H.2 hb17
   obtain ⟨J1, H, HB8⟩ := H
   refine ⟨fun (vs : List Value) (h' : Heap) => vs = [] /\ J1  h' /\ Vars h' [(b2, [s66c.v]), (b1, [s66.v])], ?_, ?_⟩
   ·refine condM_t' hb14 ?_
    refine pop_len s74 _ _ sli24 ?_
    obtain ⟨J2, ⟨n6, h0_3⟩, HB3⟩ := H
    refine loop_intro (J := fun (n : Nat) (vs : List Value) (h' : Heap) => ∃ seen24_1 : Int, ∃ s195 : Int, vs = [(VI seen24_1), (VI s195)] /\ J2 n seen24_1 s195 h' /\ Vars h' [(b2, [s66c.v]), (b1, [s66.v])]) n6 ⟨0, 0, rfl, h0_3, hL17⟩ ?_
    intro I3 mu3 hI3 junk1 tv5 tv6 h18 hi1
    obtain ⟨n1, ⟨seen24_1, s195, hv, hJ1, hL18⟩, hn1⟩ := hI3 _ _ hi1
    cases hv
    have H := HB3 n1 seen24_1 s195 h18 hJ1 hL18
    refine pop_lss .i64 s195 (s74.n : Int) ?_
    refine condM_b (fun hb18 => ?_) (fun hb18 => ?_)
    rotate_left
    ·have H := H.2 hb18
     refine guardM_st (fun hb33 => ?_) (fun hb33 => ?_)
     rotate_left
     ·have H := H.2 hb33
      refine gm hb33 ?_
      refine gm hb33 ?_
      refine gm hb33 ?_
      refine gm hb33 ?_
      refine gm hb33 ?_
      refine pop_pickf' hb33 ?_
      refine condM_f ?_
      refine gy hb16 ?_
      refine gy hb16 ?_
      refine pop_len s74 _ _ sli24 ?_
      refine gy hb16 ?_
      refine pop_ieq .i64 _ _ (s74.n : Int) 0 ?_
      refine pop_pickt' hb16 ?_
      refine condM_b (fun hb38 => ?_) (fun hb38 => ?_)
      rotate_left
      ·have H := H.2 hb38
       exact ⟨rfl, H, hL18⟩
      have H := H.1 hb38
      refine ra agg26 hL18 1 0 [s66.v] ?_
      refine H.mono fun r22 h23 H => ?_
      obtain ⟨s298c, s298d, rfl, hL23, H⟩ := H
      refine pop_ext (v := (VB s298c)) rfl ?_
      refine pop_ext (v := (VB s298d)) rfl ?_
      refine pop_not s298d ?_
      refine guardM_sf (fun hb39 => ?_) (fun hb39 => ?_)
      rotate_left
      ·have H := H.1 hb39
       refine gm hb39 ?_
       refine pop_pickt' hb39 ?_
       refine condM_t ?_
       exact H
      have H := H.2 hb39
      refine gy hb39 ?_
      refine pop_not s298c ?_
      refine pop_pickf' hb39 ?_
      refine condM_b (fun hb40 => ?_) (fun hb40 => ?_)
      ·exact H.1 hb40
      have H := H.2 hb40
      exact ⟨rfl, H, hL23⟩
     have H := H.1 hb33
     refine gy hb33 ?_
     refine gy hb33 ?_
     obtain ⟨hi24, H⟩ := H
     refine pop_index sli24 siz33 .i64 s74 0 hi24 ?_
     refine gy hb33 ?_
     obtain ⟨s284, hc21, H⟩ := H
     refine rop_one one33 s284.v hc21 ?_
     refine gy hb33 ?_
     refine H.mono fun r20 h21 H => ?_
     obtain ⟨s285, rfl, hL21, H⟩ := H
     refine gy hb33 ?_
     refine pop_not s285 ?_
     refine pop_pickt' hb33 ?_
     refine condM_b (fun hb34 => ?_) (fun hb34 => ?_)
     ·exact H.1 hb34
     have H := H.2 hb34
     refine gy hb16 ?_
     refine gy hb16 ?_
     refine pop_len s74 _ _ sli24 ?_
     refine gy hb16 ?_
     refine pop_ieq .i64 _ _ (s74.n : Int) 0 ?_
     refine pop_pickt' hb16 ?_
     refine condM_b (fun hb35 => ?_) (fun hb35 => ?_)
     rotate_left
     ·have H := H.2 hb35
      exact ⟨rfl, H, hL21⟩
     have H := H.1 hb35
     refine ra agg26 hL21 1 0 [s66.v] ?_
     refine H.mono fun r21 h22 H => ?_
     obtain ⟨s298, s298b, rfl, hL22, H⟩ := H
     refine pop_ext (v := (VB s298)) rfl ?_
     refine pop_ext (v := (VB s298b)) rfl ?_
     refine pop_not s298b ?_
     refine guardM_sf (fun hb36 => ?_) (fun hb36 => ?_)
     rotate_left
     ·have H := H.1 hb36
      refine gm hb36 ?_
      refine pop_pickt' hb36 ?_
      refine condM_t ?_
      exact H
     have H := H.2 hb36
     refine gy hb36 ?_
     refine pop_not s298 ?_
     refine pop_pickf' hb36 ?_
     refine condM_b (fun hb37 => ?_) (fun hb37 => ?_)
     ·exact H.1 hb37
     have H := H.2 hb37
     exact ⟨rfl, H, hL22⟩
    have H := H.1 hb18
    obtain ⟨hi2, H⟩ := H
    refine pop_index sli24 siz33 .i64 s74 s195 hi2 ?_
    obtain ⟨s199, hc20, H⟩ := H
    refine rop_one one33 s199.v hc20 ?_
    refine pop_gtr .i64 s195 0 ?_
    refine guardM_st (fun hb19 => ?_) (fun hb19 => ?_)
    rotate_left
    ·have H := H.2 hb19
     refine gm hb19 ?_
     refine gm hb19 ?_
     refine gm hb19 ?_
     refine gm hb19 ?_
     refine gm hb19 ?_
     refine gm hb19 ?_
     refine gm hb19 ?_
     refine gm hb19 ?_
     refine gm hb19 ?_
     refine gm hb19 ?_
     refine pop_pickf' hb19 ?_
     refine condM_f ?_
     refine pop_len s199 _ _ sli33 ?_
     obtain ⟨J4, ⟨n5, h0_2⟩, HB2⟩ := H
     refine loop_intro (J := fun (n : Nat) (vs : List Value) (h' : Heap) => ∃ seen24_3 : Int, ∃ s217b : Int, vs = [(VI seen24_3), (VI s217b)] /\ J4 n seen24_3 s217b h' /\ Vars h' [(b2, [s66c.v]), (b1, [s66.v])]) n5 ⟨seen24_1, 0, rfl, h0_2, hL18⟩ ?_
     intro I2 mu2 hI2 junk3 tv3 tv4 h20 hi15
     obtain ⟨n4, ⟨seen24_3, s217b, hv, hJ3, hL20⟩, hn3⟩ := hI2 _ _ hi15
     cases hv
     have H := HB2 n4 seen24_3 s217b h20 hJ3 hL20
     refine pop_lss .i64 s217b (s199.n : Int) ?_
     refine condM_b (fun hb27 => ?_) (fun hb27 => ?_)
     rotate_left
     ·have H := H.2 hb27
      refine pop_add .i64 s195 1 ?_
      obtain ⟨m_4, hm_4, H⟩ := H
      exact hn1 _ _ ⟨m_4, hm_4, seen24_3, (w64 (s195 + 1)), rfl, H, hL20⟩
     have H := H.1 hb27
     obtain ⟨hi16, H⟩ := H
     refine pop_index sli33 siz3 .i64 s199 s217b hi16 ?_
     obtain ⟨s221b, hc19, H⟩ := H
     refine rop_one one3 (VI s221b) hc19 ?_
     obtain ⟨hi17, H⟩ := H
     refine pop_index sli33 siz3 .i64 s199 0 hi17 ?_
     obtain ⟨s225b, hc18, H⟩ := H
     refine rop_one one3 (VI s225b) hc18 ?_
     refine pop_lss .i64 s221b s225b ?_
     refine guardM_sf (fun hb28 => ?_) (fun hb28 => ?_)
     rotate_left
     ·have H := H.1 hb28
      refine gm hb28 ?_
      refine gm hb28 ?_
      refine pop_pickt' hb28 ?_
      refine gn ?_
      refine gn ?_
      refine gn ?_
      refine gn ?_
      refine gn ?_
      refine pop_pickt _ _ ?_
      refine gn ?_
      refine gn ?_
      refine gn ?_
      refine gn ?_
      refine gn ?_
      refine gn ?_
      refine gn ?_
      refine pop_pickt _ _ ?_
      refine gn ?_
      refine gn ?_
      refine gn ?_
      refine gn ?_
      refine gn ?_
      refine gn ?_
      refine gn ?_
      refine gn ?_
      refine gn ?_
      refine gn ?_
      refine gn ?_
      refine gn ?_
      refine gn ?_
      refine gn ?_
      refine gn ?_
      refine gn ?_
      refine gn ?_
      refine gn ?_
      refine gn ?_
      refine gn ?_
      refine gn ?_
      refine gn ?_
      refine gn ?_
      refine pop_pickt _ _ ?_
      refine condM_t ?_
      exact H
     have H := H.2 hb28
     refine gy hb28 ?_
     refine gy hb28 ?_
     refine pop_ieq .i64 _ _ s221b s66b ?_
     refine pop_pickf' hb28 ?_
     refine guardM_sf (fun hb29 => ?_) (fun hb29 => ?_)
     rotate_left
     ·have H := H.1 hb29
      refine gm hb29 ?_
      refine gm hb29 ?_
      refine gm hb29 ?_
      refine gm hb29 ?_
      refine pop_pickt' hb29 ?_
      refine gn ?_
      refine gn ?_
      refine gn ?_
      refine gn ?_
      refine gn ?_
      refine gn ?_
      refine gn ?_
      refine pop_pickt _ _ ?_
      refine gn ?_
      refine gn ?_
      refine gn ?_
      refine gn ?_
      refine gn ?_
      refine gn ?_
      refine gn ?_
      refine gn ?_
      refine gn ?_
      refine gn ?_
      refine gn ?_
      refine gn ?_
      refine gn ?_
      refine gn ?_
      refine gn ?_
      refine gn ?_
      refine gn ?_
      refine gn ?_
      refine gn ?_
      refine gn ?_
      refine gn ?_
      refine gn ?_
      refine gn ?_
      refine pop_pickt _ _ ?_
      refine condM_t ?_
      exact H
     have H := H.2 hb29
     refine gy hb29 ?_
     refine gy hb29 ?_
     refine H.mono fun r17 H => ?_
     obtain ⟨s235b, rfl, H⟩ := H
     refine gy hb29 ?_
     refine pop_rem .i64 s235b 2 (by decide) ?_
     refine gy hb29 ?_
     refine pop_ieq .i64 _ _ (Int.tmod s235b 2) 1 ?_
     refine pop_pickf' hb29 ?_
     refine guardM_sf (fun hb30 => ?_) (fun hb30 => ?_)
     rotate_left
     ·have H := H.1 hb30
      refine gm hb30 ?_
      refine gm hb30 ?_
      refine gm hb30 ?_
      refine gm hb30 ?_
      refine gm hb30 ?_
      refine gm hb30 ?_
      refine pop_pickt' hb30 ?_
      refine gn ?_
      refine gn ?_
      refine gn ?_
      refine gn ?_
      refine gn ?_
      refine gn ?_
      refine gn ?_
      refine gn ?_
      refine gn ?_
      refine gn ?_
      refine gn ?_
      refine gn ?_
      refine gn ?_
      refine gn ?_
      refine gn ?_
      refine gn ?_
      refine gn ?_
      refine gn ?_
      refine gn ?_
      refine gn ?_
      refine gn ?_
      refine gn ?_
      refine gn ?_
      refine pop_pickt _ _ ?_
      refine condM_t ?_
      exact H
     have H := H.2 hb30
     refine pop_field 0 fld28_0 b2 0 ?_
     refine gy hb30 ?_
     refine rl one24 hL20 0 0 s66c.v ?_
     refine gy hb30 ?_
     refine gy hb30 ?_
     obtain ⟨hi18, H⟩ := H
     refine pop_index sli24 siz33 .i64 s66c s221b hi18 ?_
     refine gy hb30 ?_
     obtain ⟨s244b, hc17, H⟩ := H
     refine rop_one one33 s244b.v hc17 ?_
     refine gy hb30 ?_
     refine pop_len s244b _ _ sli33 ?_
     refine gy hb30 ?_
     refine pop_ieq .i64 _ _ (s244b.n : Int) 0 ?_
     refine pop_pickf' hb30 ?_
     refine guardM_sf (fun hb31 => ?_) (fun hb31 => ?_)
     rotate_left
     ·have H := H.1 hb31
      refine gm hb31 ?_
      refine gm hb31 ?_
      refine gm hb31 ?_
      refine gm hb31 ?_
      refine gm hb31 ?_
      refine gm hb31 ?_
      refine gm hb31 ?_
      refine gm hb31 ?_
      refine gm hb31 ?_
      refine gm hb31 ?_
      refine gm hb31 ?_
      refine gm hb31 ?_
      refine gm hb31 ?_
      refine gm hb31 ?_
      refine gm hb31 ?_
      refine gm hb31 ?_
      refine gm hb31 ?_
      refine gm hb31 ?_
      refine gm hb31 ?_
      refine gm hb31 ?_
      refine gm hb31 ?_
      refine gm hb31 ?_
      refine pop_pickt' hb31 ?_
      refine condM_t ?_
      exact H
     have H := H.2 hb31
     refine pop_field 0 fld26_0 b1 0 ?_
     refine gy hb31 ?_
     refine rl one24 hL20 1 0 s66.v ?_
     refine gy hb31 ?_
     refine gy hb31 ?_
     obtain ⟨hi19, H⟩ := H
     refine pop_index sli24 siz33 .i64 s66 s221b hi19 ?_
     refine gy hb31 ?_
     obtain ⟨s253b, hc16, H⟩ := H
     refine rop_one one33 s253b.v hc16 ?_
     refine gy hb31 ?_
     refine pop_field 0 fld28_0 b2 0 ?_
     refine gy hb31 ?_
     refine rl one24 hL20 0 0 s66c.v ?_
     refine gy hb31 ?_
     refine gy hb31 ?_
     obtain ⟨hi20, H⟩ := H
     refine pop_index sli24 siz33 .i64 s66c s221b hi20 ?_
     refine gy hb31 ?_
     obtain ⟨s258b, hc15, H⟩ := H
     refine rop_one one33 s258b.v hc15 ?_
     refine gy hb31 ?_
     obtain ⟨hi21, H⟩ := H
     refine pop_index sli33 siz3 .i64 s258b 0 hi21 ?_
     refine gy hb31 ?_
     obtain ⟨s260b, hc14, H⟩ := H
     refine rop_one one3 (VI s260b) hc14 ?_
     refine gy hb31 ?_
     obtain ⟨hi22, H⟩ := H
     refine pop_index sli33 siz3 .i64 s253b s260b hi22 ?_
     refine gy hb31 ?_
     obtain ⟨s262b, hc13, H⟩ := H
     refine rop_one one3 (VI s262b) hc13 ?_
     refine gy hb31 ?_
     refine gy hb31 ?_
     refine gy hb31 ?_
     refine pop_add .i64 s217b 1 ?_
     refine gy hb31 ?_
     refine gy hb31 ?_
     refine pop_len s199 _ _ sli33 ?_
     refine gy hb31 ?_
     obtain ⟨hz_2, H⟩ := H
     refine pop_rem .i64 (w64 (s217b + 1)) (s199.n : Int) hz_2 ?_
     refine gy hb31 ?_
     obtain ⟨hi23, H⟩ := H
     refine pop_index sli33 siz3 .i64 s199 (Int.tmod (w64 (s217b + 1)) (s199.n : Int)) hi23 ?_
     refine gy hb31 ?_
     obtain ⟨s270b, hc12, H⟩ := H
     refine rop_one one3 (VI s270b) hc12 ?_
     refine gy hb31 ?_
     refine pop_ine .i64 _ _ s262b s270b ?_
     refine pop_pickf' hb31 ?_
     refine condM_b (fun hb32 => ?_) (fun hb32 => ?_)
     ·exact H.1 hb32
     have H := H.2 hb32
     refine H.mono fun r18 H => ?_
     obtain ⟨s275b, rfl, H⟩ := H
     refine H.mono fun r19 H => ?_
     obtain ⟨s276b, rfl, H⟩ := H
     refine pop_add .i64 s217b 1 ?_
     obtain ⟨m_3, hm_3, H⟩ := H
     exact hn3 _ _ ⟨m_3, hm_3, s276b, (w64 (s217b + 1)), rfl, H, hL20⟩
    have H := H.1 hb19
    refine gy hb19 ?_
    refine gy hb19 ?_
    refine pop_sub .i64 s195 1 ?_
    refine gy hb19 ?_
    obtain ⟨hi3, H⟩ := H
    refine pop_index sli24 siz33 .i64 s74 (w64 (s195 - 1)) hi3 ?_
    refine gy hb19 ?_
    obtain ⟨s207, hc11, H⟩ := H
    refine rop_one one33 s207.v hc11 ?_
    refine gy hb19 ?_
    obtain ⟨hi4, H⟩ := H
    refine pop_index sli33 siz3 .i64 s207 0 hi4 ?_
    refine gy hb19 ?_
    obtain ⟨s209, hc10, H⟩ := H
    refine rop_one one3 (VI s209) hc10 ?_
    refine gy hb19 ?_
    refine gy hb19 ?_
    obtain ⟨hi5, H⟩ := H
    refine pop_index sli33 siz3 .i64 s199 0 hi5 ?_
    refine gy hb19 ?_
    obtain ⟨s212, hc9, H⟩ := H
    refine rop_one one3 (VI s212) hc9 ?_
    refine gy hb19 ?_
    refine pop_geq .i64 s209 s212 ?_
    refine pop_pickt' hb19 ?_
    refine condM_b (fun hb20 => ?_) (fun hb20 => ?_)
    ·exact H.1 hb20
    have H := H.2 hb20
    refine pop_len s199 _ _ sli33 ?_
    obtain ⟨J3, ⟨n3, h0_1⟩, HB1⟩ := H
    refine loop_intro (J := fun (n : Nat) (vs : List Value) (h' : Heap) => ∃ seen24_2 : Int, ∃ s217 : Int, vs = [(VI seen24_2), (VI s217)] /\ J3 n seen24_2 s217 h' /\ Vars h' [(b2, [s66c.v]), (b1, [s66.v])]) n3 ⟨seen24_1, 0, rfl, h0_1, hL18⟩ ?_
    intro I1 mu1 hI1 junk2 tv1 tv2 h19 hi6
    obtain ⟨n2, ⟨seen24_2, s217, hv, hJ2, hL19⟩, hn2⟩ := hI1 _ _ hi6
    cases hv
    have H := HB1 n2 seen24_2 s217 h19 hJ2 hL19
    refine pop_lss .i64 s217 (s199.n : Int) ?_
    refine condM_b (fun hb21 => ?_) (fun hb21 => ?_)
    rotate_left
    ·have H := H.2 hb21
     refine pop_add .i64 s195 1 ?_
     obtain ⟨m_2, hm_2, H⟩ := H
     exact hn1 _ _ ⟨m_2, hm_2, seen24_2, (w64 (s195 + 1)), rfl, H, hL19⟩
    have H := H.1 hb21
    obtain ⟨hi7, H⟩ := H
    refine pop_index sli33 siz3 .i64 s199 s217 hi7 ?_
    obtain ⟨s221, hc8, H⟩ := H
    refine rop_one one3 (VI s221) hc8 ?_
    obtain ⟨hi8, H⟩ := H
    refine pop_index sli33 siz3 .i64 s199 0 hi8 ?_
    obtain ⟨s225, hc7, H⟩ := H
    refine rop_one one3 (VI s225) hc7 ?_
    refine pop_lss .i64 s221 s225 ?_
    refine guardM_sf (fun hb22 => ?_) (fun hb22 => ?_)
    rotate_left
    ·have H := H.1 hb22
     refine gm hb22 ?_
     refine gm hb22 ?_
     refine pop_pickt' hb22 ?_
     refine gn ?_
     refine gn ?_
     refine gn ?_
     refine gn ?_
     refine gn ?_
     refine pop_pickt _ _ ?_
     refine gn ?_
     refine gn ?_
     refine gn ?_
     refine gn ?_
     refine gn ?_
     refine gn ?_
     refine gn ?_
     refine pop_pickt _ _ ?_
     refine gn ?_
     refine gn ?_
     refine gn ?_
     refine gn ?_
     refine gn ?_
     refine gn ?_
     refine gn ?_
     refine gn ?_
     refine gn ?_
     refine gn ?_
     refine gn ?_
     refine gn ?_
     refine gn ?_
     refine gn ?_
     refine gn ?_
     refine gn ?_
     refine gn ?_
     refine gn ?_
     refine gn ?_
     refine gn ?_
     refine gn ?_
     refine gn ?_
     refine gn ?_
     refine pop_pickt _ _ ?_
     refine condM_t ?_
     exact H
    have H := H.2 hb22
    refine gy hb22 ?_
    refine gy hb22 ?_
    refine pop_ieq .i64 _ _ s221 s66b ?_
    refine pop_pickf' hb22 ?_
    refine guardM_sf (fun hb23 => ?_) (fun hb23 => ?_)
    rotate_left
    ·have H := H.1 hb23
     refine gm hb23 ?_
     refine gm hb23 ?_
     refine gm hb23 ?_
     refine gm hb23 ?_
     refine pop_pickt' hb23 ?_
     refine gn ?_
     refine gn ?_
     refine gn ?_
     refine gn ?_
     refine gn ?_
     refine gn ?_
     refine gn ?_
     refine pop_pickt _ _ ?_
     refine gn ?_
     refine gn ?_
     refine gn ?_
     refine gn ?_
     refine gn ?_
     refine gn ?_
     refine gn ?_
     refine gn ?_
     refine gn ?_
     refine gn ?_
     refine gn ?_
     refine gn ?_
     refine gn ?_
     refine gn ?_
     refine gn ?_
     refine gn ?_
     refine gn ?_
     refine gn ?_
     refine gn ?_
     refine gn ?_
     refine gn ?_
     refine gn ?_
     refine gn ?_
     refine pop_pickt _ _ ?_
     refine condM_t ?_
     exact H
    have H := H.2 hb23
    refine gy hb23 ?_
    refine gy hb23 ?_
    refine H.mono fun r14 H => ?_
    obtain ⟨s235, rfl, H⟩ := H
    refine gy hb23 ?_
    refine pop_rem .i64 s235 2 (by decide) ?_
    refine gy hb23 ?_
    refine pop_ieq .i64 _ _ (Int.tmod s235 2) 1 ?_
    refine pop_pickf' hb23 ?_
    refine guardM_sf (fun hb24 => ?_) (fun hb24 => ?_)
    rotate_left
    ·have H := H.1 hb24
     refine gm hb24 ?_
     refine gm hb24 ?_
     refine gm hb24 ?_
     refine gm hb24 ?_
     refine gm hb24 ?_
     refine gm hb24 ?_
     refine pop_pickt' hb24 ?_
     refine gn ?_
     refine gn ?_
     refine gn ?_
     refine gn ?_
     refine gn ?_
     refine gn ?_
     refine gn ?_
     refine gn ?_
     refine gn ?_
     refine gn ?_
     refine gn ?_
     refine gn ?_
     refine gn ?_
     refine gn ?_
     refine gn ?_
     refine gn ?_
     refine gn ?_
     refine gn ?_
     refine gn ?_
     refine gn ?_
     refine gn ?_
     refine gn ?_
     refine gn ?_
     refine pop_pickt _ _ ?_
     refine condM_t ?_
     exact H
    have H := H.2 hb24
    refine pop_field 0 fld28_0 b2 0 ?_
    refine gy hb24 ?_
    refine rl one24 hL19 0 0 s66c.v ?_
    refine gy hb24 ?_
    refine gy hb24 ?_
    obtain ⟨hi9, H⟩ := H
    refine pop_index sli24 siz33 .i64 s66c s221 hi9 ?_
    refine gy hb24 ?_
    obtain ⟨s244, hc6, H⟩ := H
    refine rop_one one33 s244.v hc6 ?_
    refine gy hb24 ?_
    refine pop_len s244 _ _ sli33 ?_
    refine gy hb24 ?_
    refine pop_ieq .i64 _ _ (s244.n : Int) 0 ?_
    refine pop_pickf' hb24 ?_
    refine guardM_sf (fun hb25 => ?_) (fun hb25 => ?_)
    rotate_left
    ·have H := H.1 hb25
     refine gm hb25 ?_
     refine gm hb25 ?_
     refine gm hb25 ?_
     refine gm hb25 ?_
     refine gm hb25 ?_
     refine gm hb25 ?_
     refine gm hb25 ?_
     refine gm hb25 ?_
     refine gm hb25 ?_
     refine gm hb25 ?_
     refine gm hb25 ?_
     refine gm hb25 ?_
     refine gm hb25 ?_
     refine gm hb25 ?_
     refine gm hb25 ?_
     refine gm hb25 ?_
     refine gm hb25 ?_
     refine gm hb25 ?_
     refine gm hb25 ?_
     refine gm hb25 ?_
     refine gm hb25 ?_
     refine gm hb25 ?_
     refine pop_pickt' hb25 ?_
     refine condM_t ?_
     exact H
    have H := H.2 hb25
    refine pop_field 0 fld26_0 b1 0 ?_
    refine gy hb25 ?_
    refine rl one24 hL19 1 0 s66.v ?_
    refine gy hb25 ?_
    refine gy hb25 ?_
    obtain ⟨hi10, H⟩ := H
    refine pop_index sli24 siz33 .i64 s66 s221 hi10 ?_
    refine gy hb25 ?_
    obtain ⟨s253, hc5, H⟩ := H
    refine rop_one one33 s253.v hc5 ?_
    refine gy hb25 ?_
    refine pop_field 0 fld28_0 b2 0 ?_
    refine gy hb25 ?_
    refine rl one24 hL19 0 0 s66c.v ?_
    refine gy hb25 ?_
    refine gy hb25 ?_
    obtain ⟨hi11, H⟩ := H
    refine pop_index sli24 siz33 .i64 s66c s221 hi11 ?_
    refine gy hb25 ?_
    obtain ⟨s258, hc4, H⟩ := H
    refine rop_one one33 s258.v hc4 ?_
    refine gy hb25 ?_
    obtain ⟨hi12, H⟩ := H
    refine pop_index sli33 siz3 .i64 s258 0 hi12 ?_
    refine gy hb25 ?_
    obtain ⟨s260, hc3, H⟩ := H
    refine rop_one one3 (VI s260) hc3 ?_
    refine gy hb25 ?_
    obtain ⟨hi13, H⟩ := H
    refine pop_index sli33 siz3 .i64 s253 s260 hi13 ?_
    refine gy hb25 ?_
    obtain ⟨s262, hc2, H⟩ := H
    refine rop_one one3 (VI s262) hc2 ?_
    refine gy hb25 ?_
    refine gy hb25 ?_
    refine gy hb25 ?_
    refine pop_add .i64 s217 1 ?_
    refine gy hb25 ?_
    refine gy hb25 ?_
    refine pop_len s199 _ _ sli33 ?_
    refine gy hb25 ?_
    obtain ⟨hz_1, H⟩ := H
    refine pop_rem .i64 (w64 (s217 + 1)) (s199.n : Int) hz_1 ?_
    refine gy hb25 ?_
    obtain ⟨hi14, H⟩ := H
    refine pop_index sli33 siz3 .i64 s199 (Int.tmod (w64 (s217 + 1)) (s199.n : Int)) hi14 ?_
    refine gy hb25 ?_
    obtain ⟨s270, hc1, H⟩ := H
    refine rop_one one3 (VI s270) hc1 ?_
    refine gy hb25 ?_
    refine pop_ine .i64 _ _ s262 s270 ?_
    refine pop_pickf' hb25 ?_
    refine condM_b (fun hb26 => ?_) (fun hb26 => ?_)
    ·exact H.1 hb26
    have H := H.2 hb26
    refine H.mono fun r15 H => ?_
    obtain ⟨s275, rfl, H⟩ := H
    refine H.mono fun r16 H => ?_
    obtain ⟨s276, rfl, H⟩ := H
    refine pop_add .i64 s217 1 ?_
    obtain ⟨m_1, hm_1, H⟩ := H
    exact hn2 _ _ ⟨m_1, hm_1, s276, (w64 (s217 + 1)), rfl, H, hL19⟩
   intro junk4  h24
   rintro ⟨hv, hJ4, hL24⟩
   have H := HB8  h24 hJ4 hL24
   refine H.mono fun r23 h25 H => ?_
   obtain ⟨s309, s309b, s309c, s309d, rfl, hL25, H⟩ := H
   refine pop_ext (v := (Value.agg #[s309.v])) rfl ?_
   refine pop_ext (v := (VI s309b)) rfl ?_
   refine pop_ext (v := (Value.agg #[s309c.v])) rfl ?_
   refine pop_ext (v := (VI s309d)) rfl ?_
   refine eop_alloc 26 zer26 rfl hL25 (fun b3 h26 hb41 hf5 hL26 => ?_)
   refine eop_alloc 28 zer28 rfl hL26 (fun b4 h27 hb42 hf6 hL27 => ?_)
   refine ul siz26 hL27 1 0 [s309.v] [(b4, [nilSl.v]), (b3, [s309.v]), (b2, [s66c.v]), (b1, [s66.v])] (fun h28 hf7 hL28 => ?_)
   refine ul siz28 hL28 0 0 [s309c.v] [(b4, [s309c.v]), (b3, [s309.v]), (b2, [s66c.v]), (b1, [s66.v])] (fun h29 hf8 hL29 => ?_)
   refine ra agg26 hL29 1 0 [s309.v] ?_
   refine ra agg28 hL29 0 0 [s309c.v] ?_
   have H := H b3 b4 h29 hb41 (Nat.le_trans (Fr.size (Fr.no' (Fr.r (In []) _) hf5)) hb42) (Fr.new (Fr.new (Fr.no' (Fr.no' (Fr.r (In []) _) hf5) hf6) hb41 hf7) (Nat.le_trans (Fr.size (Fr.no' (Fr.r (In []) _) hf5)) hb42) hf8) hL29
   refine H.mono fun r24 h30 H => ?_
   obtain ⟨s319, s319b, rfl, hL30, H⟩ := H
   refine pop_ext (v := (Value.agg #[s319.v])) rfl ?_
   refine pop_ext (v := (VB s319b)) rfl ?_
   refine eop_alloc 28 zer28 rfl hL30 (fun b5 h31 hb43 hf9 hL31 => ?_)
   refine ul siz28 hL31 0 0 [s319.v] [(b5, [s319.v]), (b4, [s309c.v]), (b3, [s309.v]), (b2, [s66c.v]), (b1, [s66.v])] (fun h32 hf10 hL32 => ?_)
   refine ra agg26 hL32 2 0 [s309.v] ?_
   refine ra agg28 hL32 1 0 [s309c.v] ?_
   have H := H b5 h32 hb43 (Fr.new (Fr.no' (Fr.r (In []) _) hf9) hb43 hf10) hL32
   refine H.mono fun r25 h33 H => ?_
   obtain ⟨s327, s327b, rfl, hL33, H⟩ := H
   refine pop_ext (v := (Value.agg #[s327.v])) rfl ?_
   refine pop_ext (v := (VB s327b)) rfl ?_
   refine eop_alloc 28 zer28 rfl hL33 (fun b6 h34 hb44 hf11 hL34 => ?_)
   refine ul siz28 hL34 0 0 [s327.v] [(b6, [s327.v]), (b5, [s319.v]), (b4, [s309c.v]), (b3, [s309.v]), (b2, [s66c.v]), (b1, [s66.v])] (fun h35 hf12 hL35 => ?_)
   refine pop_bne boo4 _ _ s319b s327b ?_
   refine guardM_sf (fun hb45 => ?_) (fun hb45 => ?_)
   rotate_left
   ·have H := H.1 hb45
    refine gm hb45 ?_
    refine gm hb45 ?_
    refine gm hb45 ?_
    refine pop_pickt' hb45 ?_
    refine condM_t ?_
    have H := H b6 h35 hb44 (Fr.new (Fr.no' (Fr.r (In []) _) hf11) hb44 hf12) hL35
    exact H
   have H := H.2 hb45
   refine ra agg28 hL35 1 0 [s319.v] ?_
   refine gy hb45 ?_
   refine ra agg28 hL35 0 0 [s327.v] ?_
   refine gy hb45 ?_
   have H := H b6 h35 hb44 (Fr.new (Fr.no' (Fr.r (In []) _) hf11) hb44 hf12) hL35
   refine H.mono fun r26 h36 H => ?_
   obtain ⟨s336, rfl, hL36, H⟩ := H
   refine gy hb45 ?_
   refine pop_not s336 ?_
   refine pop_pickf' hb45 ?_
   refine condM_b (fun hb46 => ?_) (fun hb46 => ?_)
   ·exact H.1 hb46
   have H := H.2 hb46
   obtain ⟨J5, H, HB7⟩ := H
   refine ⟨fun (vs : List Value) (h' : Heap) => vs = [] /\ J5  h' /\ Vars h' [(b6, [s327.v]), (b5, [s319.v]), (b4, [s309c.v]), (b3, [s309.v]), (b2, [s66c.v]), (b1, [s66.v])], ?_, ?_⟩
   ·refine condM_b (fun hb47 => ?_) (fun hb47 => ?_)
    rotate_left
    ·have H := H.2 hb47
     exact ⟨rfl, H, hL36⟩
    have H := H.1 hb47
    refine ra agg26 hL36 3 0 [s309.v] ?_
    refine ra agg28 hL36 2 0 [s309c.v] ?_
    refine H.mono fun r27 h37 H => ?_
    obtain ⟨s344, s344b, rfl, hL37, H⟩ := H
    refine pop_ext (v := s344.v) rfl ?_
    refine pop_ext (v := (VB s344b)) rfl ?_
    refine pop_len s344 _ _ sli24 ?_
    obtain ⟨J6, ⟨n10, h0_5⟩, HB6⟩ := H
    refine loop_intro (J := fun (n : Nat) (vs : List Value) (h' : Heap) => ∃ own41_1 : Sl, ∃ s349 : Int, vs = [own41_1.v, (VI s349)] /\ J6 n own41_1 s349 h' /\ Vars h' [(b6, [s327.v]), (b5, [s319.v]), (b4, [s309c.v]), (b3, [s309.v]), (b2, [s66c.v]), (b1, [s66.v])]) n10 ⟨nilSl, 0, rfl, h0_5, hL37⟩ ?_
    intro I5 mu5 hI5 junk5 tv9 tv10 h38 hi25
    obtain ⟨n7, ⟨own41_1, s349, hv, hJ5, hL38⟩, hn4⟩ := hI5 _ _ hi25
    cases hv
    have H := HB6 n7 own41_1 s349 h38 hJ5 hL38
    refine pop_lss .i64 s349 (s344.n : Int) ?_
    refine condM_b (fun hb48 => ?_) (fun hb48 => ?_)
    ·have H := H.1 hb48
     obtain ⟨hi26, H⟩ := H
     refine pop_index sli24 siz33 .i64 s344 s349 hi26 ?_
     obtain ⟨s352, hc22, H⟩ := H
     refine rop_one one33 s352.v hc22 ?_
     refine H.mono fun r28 h39 H => ?_
     obtain ⟨s355, rfl, hL39, H⟩ := H
     refine condM_b (fun hb49 => ?_) (fun hb49 => ?_)
     ·have H := H.1 hb49
      refine pop_add .i64 s349 1 ?_
      obtain ⟨m_5, hm_5, H⟩ := H
      exact hn4 _ _ ⟨m_5, hm_5, s352, (w64 (s349 + 1)), rfl, H, hL39⟩
     have H := H.2 hb49
     refine pop_add .i64 s349 1 ?_
     obtain ⟨m_6, hm_6, H⟩ := H
     exact hn4 _ _ ⟨m_6, hm_6, own41_1, (w64 (s349 + 1)), rfl, H, hL39⟩
    have H := H.2 hb48
    refine pop_not s344b ?_
    refine guardM_sf (fun hb50 => ?_) (fun hb50 => ?_)
    rotate_left
    ·have H := H.1 hb50
     refine gm hb50 ?_
     refine gm hb50 ?_
     refine pop_pickt' hb50 ?_
     refine condM_t ?_
     exact H
    have H := H.2 hb50
    refine gy hb50 ?_
    refine pop_len own41_1 _ _ sli33 ?_
    refine gy hb50 ?_
    refine pop_ieq .i64 _ _ (own41_1.n : Int) 0 ?_
    refine pop_pickf' hb50 ?_
    refine condM_b (fun hb51 => ?_) (fun hb51 => ?_)
    ·exact H.1 hb51
    have H := H.2 hb51
    refine pop_field 0 fld26_0 b3 0 ?_
    refine rl one24 hL38 3 0 s309.v ?_
    refine pop_len s309 _ _ sli24 ?_
    obtain ⟨J7, ⟨n9, h0_4⟩, HB5⟩ := H
    refine loop_intro (J := fun (n : Nat) (vs : List Value) (h' : Heap) => ∃ s368 : Int, vs = [(VI s368)] /\ J7 n s368 h' /\ Vars h' [(b6, [s327.v]), (b5, [s319.v]), (b4, [s309c.v]), (b3, [s309.v]), (b2, [s66c.v]), (b1, [s66.v])]) n9 ⟨0, rfl, h0_4, hL38⟩ ?_
    intro I4 mu4 hI4 junk6 tv8 h40 hi27
    obtain ⟨n8, ⟨s368, hv, hJ6, hL40⟩, hn5⟩ := hI4 _ _ hi27
    cases hv
    have H := HB5 n8 s368 h40 hJ6 hL40
    refine pop_lss .i64 s368 (s309.n : Int) ?_
    refine condM_b (fun hb52 => ?_) (fun hb52 => ?_)
    rotate_left
    ·have H := H.2 hb52
     exact ⟨rfl, H, hL40⟩
    have H := H.1 hb52
    obtain ⟨J8, H, HB4⟩ := H
    refine ⟨fun (vs : List Value) (h' : Heap) => ∃ y1 : Int, vs = [(VI y1)] /\ J8 y1 h' /\ Vars h' [(b6, [s327.v]), (b5, [s319.v]), (b4, [s309c.v]), (b3, [s309.v]), (b2, [s66c.v]), (b1, [s66.v])], ?_, ?_⟩
    ·refine H.mono fun r29 h41 H => ?_
     obtain ⟨s373, rfl, hL41, H⟩ := H
     refine condM_b (fun hb53 => ?_) (fun hb53 => ?_)
     ·have H := H.1 hb53
      exact ⟨1, rfl, H, hL41⟩
     have H := H.2 hb53
     exact ⟨0, rfl, H, hL41⟩
    intro junk7 tv7 h42
    rintro ⟨y1, hv, hJ7, hL42⟩
    cases hv
    have H := HB4 y1 h42 hJ7 hL42
    refine pop_field 0 fld28_0 b5 0 ?_
    refine rl one24 hL42 1 0 s319.v ?_
    obtain ⟨hi28, H⟩ := H
    refine pop_index sli24 siz33 .i64 s319 s368 hi28 ?_
    obtain ⟨s378, hc25, H⟩ := H
    refine rop_one one33 s378.v hc25 ?_
    refine pop_field 0 fld28_0 b4 0 ?_
    refine rl one24 hL42 2 0 s309c.v ?_
    obtain ⟨hi29, H⟩ := H
    refine pop_index sli24 siz33 .i64 s309c s368 hi29 ?_
    obtain ⟨s383, hc24, H⟩ := H
    refine rop_one one33 s383.v hc24 ?_
    refine H.mono fun r30 H => ?_
    obtain ⟨s385, rfl, H⟩ := H
    refine H.mono fun r31 h43 H => ?_
    obtain ⟨s386, rfl, hL43, H⟩ := H
    refine ⟨?_, ?_⟩
    ·exact still_one one33 H.1
    obtain ⟨hc23, H⟩ := H
    refine ⟨?_, ?_⟩
    ·exact still_loc one24 hL43 2 rfl 0 (v := s309c.v) rfl
    refine ⟨?_, ?_⟩
    ·exact still_loc one24 hL43 1 rfl 0 (v := s319.v) rfl
    refine pop_not s386 ?_
    refine condM_b (fun hb54 => ?_) (fun hb54 => ?_)
    ·exact H.1 hb54
    have H := H.2 hb54
    refine pop_add .i64 s368 1 ?_
    obtain ⟨m_7, hm_7, H⟩ := H
    exact hn5 _ _ ⟨m_7, hm_7, (w64 (s368 + 1)), rfl, H, hL43⟩
   intro junk8  h44
   rintro ⟨hv, hJ8, hL44⟩
   have H := HB7  h44 hJ8 hL44
   refine H.mono fun r32 h45 H => ?_
   obtain ⟨s391, s391b, s391c, s391d, rfl, hL45, H⟩ := H
   refine pop_ext (v := (Value.agg #[s391.v])) rfl ?_
   refine pop_ext (v := (VI s391b)) rfl ?_
   refine pop_ext (v := s391c.v) rfl ?_
   refine pop_ext (v := (VI s391d)) rfl ?_
   refine eop_alloc 26 zer26 rfl hL45 (fun b7 h46 hb55 hf13 hL46 => ?_)
   refine ul siz26 hL46 0 0 [s391.v] [(b7, [s391.v]), (b6, [s327.v]), (b5, [s319.v]), (b4, [s309c.v]), (b3, [s309.v]), (b2, [s66c.v]), (b1, [s66.v])] (fun h47 hf14 hL47 => ?_)
   refine ra agg26 hL47 0 0 [s391.v] ?_
   have H := H b7 h47 hb55 (Fr.new (Fr.no' (Fr.r (In []) _) hf13) hb55 hf14) hL47
   refine H.mono fun r33 h48 H => ?_
   obtain ⟨s401, s401b, rfl, hL48, H⟩ := H
   refine pop_ext (v := (Value.agg #[s401.v])) rfl ?_
   refine pop_ext (v := (VB s401b)) rfl ?_
   refine eop_alloc 28 zer28 rfl hL48 (fun b8 h49 hb56 hf15 hL49 => ?_)
   refine ul siz28 hL49 0 0 [s401.v] [(b8, [s401.v]), (b7, [s391.v]), (b6, [s327.v]), (b5, [s319.v]), (b4, [s309c.v]), (b3, [s309.v]), (b2, [s66c.v]), (b1, [s66.v])] (fun h50 hf16 hL50 => ?_)
   refine ra agg26 hL50 1 0 [s391.v] ?_
   have H := H b8 h50 hb56 (Fr.new (Fr.no' (Fr.r (In []) _) hf15) hb56 hf16) hL50
   refine H.mono fun r34 h51 H => ?_
   obtain ⟨s409, s409b, rfl, hL51, H⟩ := H
   refine pop_ext (v := (Value.agg #[s409.v])) rfl ?_
   refine pop_ext (v := (VB s409b)) rfl ?_
   refine eop_alloc 28 zer28 rfl hL51 (fun b9 h52 hb57 hf17 hL52 => ?_)
   refine ul siz28 hL52 0 0 [s409.v] [(b9, [s409.v]), (b8, [s401.v]), (b7, [s391.v]), (b6, [s327.v]), (b5, [s319.v]), (b4, [s309c.v]), (b3, [s309.v]), (b2, [s66c.v]), (b1, [s66.v])] (fun h53 hf18 hL53 => ?_)
   have H := H b9 h53 hb57 (Fr.new (Fr.no' (Fr.r (In []) _) hf17) hb57 hf18) hL53
   refine H.mono fun r35 h54 H => ?_
   obtain ⟨s413, rfl, hL54, H⟩ := H
   refine eop_alloc 28 zer28 rfl hL54 (fun b10 h55 hb58 hf19 hL55 => ?_)
   refine ul siz28 hL55 0 0 [s413.v] [(b10, [s413.v]), (b9, [s409.v]), (b8, [s401.v]), (b7, [s391.v]), (b6, [s327.v]), (b5, [s319.v]), (b4, [s309c.v]), (b3, [s309.v]), (b2, [s66c.v]), (b1, [s66.v])] (fun h56 hf20 hL56 => ?_)
   refine ra agg28 hL56 0 0 [s413.v] ?_
   have H := H b10 h56 hb58 (Fr.new (Fr.no' (Fr.r (In []) _) hf19) hb58 hf20) hL56
   refine H.mono fun r36 h57 H => ?_
   obtain ⟨s416, s416b, rfl, hL57, H⟩ := H
   refine pop_ext (v := (VS s416)) rfl ?_
   refine pop_ext (v := (VB s416b)) rfl ?_
   refine ra agg28 hL57 0 0 [s413.v] ?_
   refine H.mono fun r37 h58 H => ?_
   obtain ⟨s421, s421b, rfl, hL58, H⟩ := H
   refine pop_ext (v := (VS s421)) rfl ?_
   refine pop_ext (v := (VB s421b)) rfl ?_
   refine pop_bne boo4 _ _ s401b s409b ?_
   refine guardM_sf (fun hb59 => ?_) (fun hb59 => ?_)
   rotate_left
   ·have H := H.1 hb59
    refine gm hb59 ?_
    refine gm hb59 ?_
    refine gm hb59 ?_
    refine pop_pickt' hb59 ?_
    refine gn ?_
    refine gn ?_
    refine gn ?_
    refine pop_pickt _ _ ?_
    refine gn ?_
    refine gn ?_
    refine gn ?_
    refine pop_pickt _ _ ?_
    refine condM_t ?_
    exact H
   have H := H.2 hb59
   refine ra agg28 hL58 2 0 [s401.v] ?_
   refine gy hb59 ?_
   refine ra agg28 hL58 1 0 [s409.v] ?_
   refine gy hb59 ?_
   refine H.mono fun r38 h59 H => ?_
   obtain ⟨s430, rfl, hL59, H⟩ := H
   refine gy hb59 ?_
   refine pop_not s430 ?_
   refine pop_pickf' hb59 ?_
   refine guardM_sf (fun hb60 => ?_) (fun hb60 => ?_)
   rotate_left
   ·have H := H.1 hb60
    refine gm hb60 ?_
    refine gm hb60 ?_
    refine pop_pickt' hb60 ?_
    refine gn ?_
    refine gn ?_
    refine gn ?_
    refine pop_pickt _ _ ?_
    refine condM_t ?_
    exact H
   have H := H.2 hb60
   refine gy hb60 ?_
   refine gy hb60 ?_
   refine pop_bne boo4 _ _ s416b s421b ?_
   refine pop_pickf' hb60 ?_
   refine guardM_sf (fun hb61 => ?_) (fun hb61 => ?_)
   rotate_left
   ·have H := H.1 hb61
    refine gm hb61 ?_
    refine gm hb61 ?_
    refine pop_pickt' hb61 ?_
    refine condM_t ?_
    exact H
   have H := H.2 hb61
   refine gy hb61 ?_
   refine gy hb61 ?_
   refine pop_sne _ _ s416 s421 ?_
   refine pop_pickf' hb61 ?_
   refine condM_b (fun hb62 => ?_) (fun hb62 => ?_)
   ·exact H.1 hb62
   have H := H.2 hb62
   refine condM_b (fun hb63 => ?_) (fun hb63 => ?_)
   rotate_left
   ·exact H.2 hb63
   have H := H.1 hb63
   refine ra agg26 hL59 3 0 [s391.v] ?_
   refine ra agg28 hL59 2 0 [s401.v] ?_
   refine H.mono fun r39 h60 H => ?_
   obtain ⟨s448, s448b, rfl, hL60, H⟩ := H
   refine pop_ext (v := (VB s448)) rfl ?_
   refine pop_ext (v := (VB s448b)) rfl ?_
   refine guardM_st (fun hb64 => ?_) (fun hb64 => ?_)
   ·have H := H.1 hb64
    refine pop_pickt' hb64 ?_
    exact H
   have H := H.2 hb64
   refine pop_pickf' hb64 ?_
   exact H
  have H := H.2 hb12
  refine gy hb11 ?_
  refine pop_pickf' hb12 ?_
  refine gy hb11 ?_
  refine pop_bne boo4 _ _ s74b false ?_
  refine pop_pickf' hb11 ?_
  refine guardM_sf (fun hb157 => ?_) (fun hb157 => ?_)
  rotate_left
  ·have H := H.1 hb157
   refine gm hb157 ?_
   refine gm hb157 ?_
   refine gn ?_
   refine gn ?_
   refine gn ?_
   refine gm hb157 ?_
   refine gm hb157 ?_
   refine pop_pickt' hb157 ?_
   refine gn ?_
   refine gn ?_
   refine gn ?_
   refine gn ?_
   refine gn ?_
   refine pop_pickt _ _ ?_
   refine condM_t ?_
   exact H
  have H := H.2 hb157
  refine gy hb157 ?_
  refine gy hb157 ?_
  refine guardM_st (fun hb158 => ?_) (fun hb158 => ?_)
  rotate_left
  ·have H := H.2 hb158
   refine gm hb158 ?_
   refine gm hb158 ?_
   refine gy hb157 ?_
   refine pop_pickf' hb158 ?_
   refine gy hb157 ?_
   refine pop_bne boo4 _ _ s88b false ?_
   refine pop_pickf' hb157 ?_
   refine guardM_sf (fun hb250 => ?_) (fun hb250 => ?_)
   rotate_left
   ·have H := H.1 hb250
    refine gm hb250 ?_
    refine gn ?_
    refine gn ?_
    refine gm hb250 ?_
    refine pop_pickt' hb250 ?_
    refine condM_t ?_
    exact H
   have H := H.2 hb250
   refine gy hb250 ?_
   refine guardM_st (fun hb251 => ?_) (fun hb251 => ?_)
   rotate_left
   ·have H := H.2 hb251
    refine gm hb251 ?_
    refine gy hb250 ?_
    refine pop_pickf' hb251 ?_
    refine pop_pickf' hb250 ?_
    refine condM_f ?_
    obtain ⟨J48, H, HB52⟩ := H
    refine ⟨fun (vs : List Value) (h' : Heap) => vs = [] /\ J48  h' /\ Vars h' [(b2, [s66c.v]), (b1, [s66.v])], ?_, ?_⟩
    ·refine condM_f' hb158 ?_
     exact ⟨rfl, H, hL17⟩
    intro junk48  h297
    rintro ⟨hv, hJ48, hL297⟩
    have H := HB52  h297 hJ48 hL297
    refine H.mono fun r165 h298 H => ?_
    obtain ⟨t309_29, t309_30, t309_31, t309_32, rfl, hL298, H⟩ := H
    refine pop_ext (v := (Value.agg #[t309_29.v])) rfl ?_
    refine pop_ext (v := (VI t309_30)) rfl ?_
    refine pop_ext (v := (Value.agg #[t309_31.v])) rfl ?_
    refine pop_ext (v := (VI t309_32)) rfl ?_
    refine eop_alloc 26 zer26 rfl hL298 (fun b59 h299 hb277 hf117 hL299 => ?_)
    refine eop_alloc 28 zer28 rfl hL299 (fun b60 h300 hb278 hf118 hL300 => ?_)
    refine ul siz26 hL300 1 0 [t309_29.v] [(b60, [nilSl.v]), (b59, [t309_29.v]), (b2, [s66c.v]), (b1, [s66.v])] (fun h301 hf119 hL301 => ?_)
    refine ul siz28 hL301 0 0 [t309_31.v] [(b60, [t309_31.v]), (b59, [t309_29.v]), (b2, [s66c.v]), (b1, [s66.v])] (fun h302 hf120 hL302 => ?_)
    refine ra agg26 hL302 1 0 [t309_29.v] ?_
    refine ra agg28 hL302 0 0 [t309_31.v] ?_
    have H := H b59 b60 h302 hb277 (Nat.le_trans (Fr.size (Fr.no' (Fr.r (In []) _) hf117)) hb278) (Fr.new (Fr.new (Fr.no' (Fr.no' (Fr.r (In []) _) hf117) hf118) hb277 hf119) (Nat.le_trans (Fr.size (Fr.no' (Fr.r (In []) _) hf117)) hb278) hf120) hL302
    refine H.mono fun r166 h303 H => ?_
    obtain ⟨t319_15, t319_16, rfl, hL303, H⟩ := H
    refine pop_ext (v := (Value.agg #[t319_15.v])) rfl ?_
    refine pop_ext (v := (VB t319_16)) rfl ?_
    refine eop_alloc 28 zer28 rfl hL303 (fun b61 h304 hb279 hf121 hL304 => ?_)
    refine ul siz28 hL304 0 0 [t319_15.v] [(b61, [t319_15.v]), (b60, [t309_31.v]), (b59, [t309_29.v]), (b2, [s66c.v]), (b1, [s66.v])] (fun h305 hf122 hL305 => ?_)
    refine ra agg26 hL305 2 0 [t309_29.v] ?_
    refine ra agg28 hL305 1 0 [t309_31.v] ?_
    have H := H b61 h305 hb279 (Fr.new (Fr.no' (Fr.r (In []) _) hf121) hb279 hf122) hL305
    refine H.mono fun r167 h306 H => ?_
    obtain ⟨t327_15, t327_16, rfl, hL306, H⟩ := H
    refine pop_ext (v := (Value.agg #[t327_15.v])) rfl ?_
    refine pop_ext (v := (VB t327_16)) rfl ?_
    refine eop_alloc 28 zer28 rfl hL306 (fun b62 h307 hb280 hf123 hL307 => ?_)
    refine ul siz28 hL307 0 0 [t327_15.v] [(b62, [t327_15.v]), (b61, [t319_15.v]), (b60, [t309_31.v]), (b59, [t309_29.v]), (b2, [s66c.v]), (b1, [s66.v])] (fun h308 hf124 hL308 => ?_)
    refine pop_bne boo4 _ _ t319_16 t327_16 ?_
    refine guardM_sf (fun hb281 => ?_) (fun hb281 => ?_)
    rotate_left
    ·have H := H.1 hb281
     refine gm hb281 ?_
     refine gm hb281 ?_
     refine gm hb281 ?_
     refine pop_pickt' hb281 ?_
     refine condM_t ?_
     have H := H b62 h308 hb280 (Fr.new (Fr.no' (Fr.r (In []) _) hf123) hb280 hf124) hL308
     exact H
    have H := H.2 hb281
    refine ra agg28 hL308 1 0 [t319_15.v] ?_
    refine gy hb281 ?_
    refine ra agg28 hL308 0 0 [t327_15.v] ?_
    refine gy hb281 ?_
    have H := H b62 h308 hb280 (Fr.new (Fr.no' (Fr.r (In []) _) hf123) hb280 hf124) hL308
    refine H.mono fun r168 h309 H => ?_
    obtain ⟨s336h, rfl, hL309, H⟩ := H
    refine gy hb281 ?_
    refine pop_not s336h ?_
    refine pop_pickf' hb281 ?_
    refine condM_b (fun hb282 => ?_) (fun hb282 => ?_)
    ·exact H.1 hb282
    have H := H.2 hb282
    obtain ⟨J49, H, HB51⟩ := H
    refine ⟨fun (vs : List Value) (h' : Heap) => vs = [] /\ J49  h' /\ Vars h' [(b62, [t327_15.v]), (b61, [t319_15.v]), (b60, [t309_31.v]), (b59, [t309_29.v]), (b2, [s66c.v]), (b1, [s66.v])], ?_, ?_⟩
    ·refine condM_b (fun hb283 => ?_) (fun hb283 => ?_)
     rotate_left
     ·have H := H.2 hb283
      exact ⟨rfl, H, hL309⟩
     have H := H.1 hb283
     refine ra agg26 hL309 3 0 [t309_29.v] ?_
     refine ra agg28 hL309 2 0 [t309_31.v] ?_
     refine H.mono fun r169 h310 H => ?_
     obtain ⟨t344_15, t344_16, rfl, hL310, H⟩ := H
     refine pop_ext (v := t344_15.v) rfl ?_
     refine pop_ext (v := (VB t344_16)) rfl ?_
     refine pop_len t344_15 _ _ sli24 ?_
     obtain ⟨J50, ⟨n56, h0_28⟩, HB50⟩ := H
     refine loop_intro (J := fun (n : Nat) (vs : List Value) (h' : Heap) => ∃ own41_8 : Sl, ∃ s349h : Int, vs = [own41_8.v, (VI s349h)] /\ J50 n own41_8 s349h h' /\ Vars h' [(b62, [t327_15.v]), (b61, [t319_15.v]), (b60, [t309_31.v]), (b59, [t309_29.v]), (b2, [s66c.v]), (b1, [s66.v])]) n56 ⟨nilSl, 0, rfl, h0_28, hL310⟩ ?_
     intro I28 mu28 hI28 junk49 tv55 tv56 h311 hi132
     obtain ⟨n53, ⟨own41_8, s349h, hv, hJ49, hL311⟩, hn27⟩ := hI28 _ _ hi132
     cases hv
     have H := HB50 n53 own41_8 s349h h311 hJ49 hL311
     refine pop_lss .i64 s349h (t344_15.n : Int) ?_
     refine condM_b (fun hb284 => ?_) (fun hb284 => ?_)
     ·have H := H.1 hb284
      obtain ⟨hi133, H⟩ := H
      refine pop_index sli24 siz33 .i64 t344_15 s349h hi133 ?_
      obtain ⟨s352h, hc113, H⟩ := H
      refine rop_one one33 s352h.v hc113 ?_
      refine H.mono fun r170 h312 H => ?_
      obtain ⟨s355h, rfl, hL312, H⟩ := H
      refine condM_b (fun hb285 => ?_) (fun hb285 => ?_)
      ·have H := H.1 hb285
       refine pop_add .i64 s349h 1 ?_
       obtain ⟨m_38, hm_38, H⟩ := H
       exact hn27 _ _ ⟨m_38, hm_38, s352h, (w64 (s349h + 1)), rfl, H, hL312⟩
      have H := H.2 hb285
      refine pop_add .i64 s349h 1 ?_
      obtain ⟨m_39, hm_39, H⟩ := H
      exact hn27 _ _ ⟨m_39, hm_39, own41_8, (w64 (s349h + 1)), rfl, H, hL312⟩
     have H := H.2 hb284
     refine pop_not t344_16 ?_
     refine guardM_sf (fun hb286 => ?_) (fun hb286 => ?_)
     rotate_left
     ·have H := H.1 hb286
      refine gm hb286 ?_
      refine gm hb286 ?_
      refine pop_pickt' hb286 ?_
      refine condM_t ?_
      exact H
     have H := H.2 hb286
     refine gy hb286 ?_
     refine pop_len own41_8 _ _ sli33 ?_
     refine gy hb286 ?_
     refine pop_ieq .i64 _ _ (own41_8.n : Int) 0 ?_
     refine pop_pickf' hb286 ?_
     refine condM_b (fun hb287 => ?_) (fun hb287 => ?_)
     ·exact H.1 hb287
     have H := H.2 hb287
     refine pop_field 0 fld26_0 b59 0 ?_
     refine rl one24 hL311 3 0 t309_29.v ?_
     refine pop_len t309_29 _ _ sli24 ?_
     obtain ⟨J51, ⟨n55, h0_27⟩, HB49⟩ := H
     refine loop_intro (J := fun (n : Nat) (vs : List Value) (h' : Heap) => ∃ s368h : Int, vs = [(VI s368h)] /\ J51 n s368h h' /\ Vars h' [(b62, [t327_15.v]), (b61, [t319_15.v]), (b60, [t309_31.v]), (b59, [t309_29.v]), (b2, [s66c.v]), (b1, [s66.v])]) n55 ⟨0, rfl, h0_27, hL311⟩ ?_
     intro I27 mu27 hI27 junk50 tv54 h313 hi134
     obtain ⟨n54, ⟨s368h, hv, hJ50, hL313⟩, hn28⟩ := hI27 _ _ hi134
     cases hv
     have H := HB49 n54 s368h h313 hJ50 hL313
     refine pop_lss .i64 s368h (t309_29.n : Int) ?_
     refine condM_b (fun hb288 => ?_) (fun hb288 => ?_)
     rotate_left
     ·have H := H.2 hb288
      exact ⟨rfl, H, hL313⟩
     have H := H.1 hb288
     obtain ⟨J52, H, HB48⟩ := H
     refine ⟨fun (vs : List Value) (h' : Heap) => ∃ y8 : Int, vs = [(VI y8)] /\ J52 y8 h' /\ Vars h' [(b62, [t327_15.v]), (b61, [t319_15.v]), (b60, [t309_31.v]), (b59, [t309_29.v]), (b2, [s66c.v]), (b1, [s66.v])], ?_, ?_⟩
     ·refine H.mono fun r171 h314 H => ?_
      obtain ⟨s373h, rfl, hL314, H⟩ := H
      refine condM_b (fun hb289 => ?_) (fun hb289 => ?_)
      ·have H := H.1 hb289
       exact ⟨1, rfl, H, hL314⟩
      have H := H.2 hb289
      exact ⟨0, rfl, H, hL314⟩
     intro junk51 tv53 h315
     rintro ⟨y8, hv, hJ51, hL315⟩
     cases hv
     have H := HB48 y8 h315 hJ51 hL315
     refine pop_field 0 fld28_0 b61 0 ?_
     refine rl one24 hL315 1 0 t319_15.v ?_
     obtain ⟨hi135, H⟩ := H
     refine pop_index sli24 siz33 .i64 t319_15 s368h hi135 ?_
     obtain ⟨s378h, hc116, H⟩ := H
     refine rop_one one33 s378h.v hc116 ?_
     refine pop_field 0 fld28_0 b60 0 ?_
     refine rl one24 hL315 2 0 t309_31.v ?_
     obtain ⟨hi136, H⟩ := H
     refine pop_index sli24 siz33 .i64 t309_31 s368h hi136 ?_
     obtain ⟨s383h, hc115, H⟩ := H
     refine rop_one one33 s383h.v hc115 ?_
     refine H.mono fun r172 H => ?_
     obtain ⟨s385h, rfl, H⟩ := H
     refine H.mono fun r173 h316 H => ?_
     obtain ⟨s386h, rfl, hL316, H⟩ := H
     refine ⟨?_, ?_⟩
     ·exact still_one one33 H.1
     obtain ⟨hc114, H⟩ := H
     refine ⟨?_, ?_⟩
     ·exact still_loc one24 hL316 2 rfl 0 (v := t309_31.v) rfl
     refine ⟨?_, ?_⟩
     ·exact still_loc one24 hL316 1 rfl 0 (v := t319_15.v) rfl
     refine pop_not s386h ?_
     refine condM_b (fun hb290 => ?_) (fun hb290 => ?_)
     ·exact H.1 hb290
     have H := H.2 hb290
     refine pop_add .i64 s368h 1 ?_
     obtain ⟨m_40, hm_40, H⟩ := H
     exact hn28 _ _ ⟨m_40, hm_40, (w64 (s368h + 1)), rfl, H, hL316⟩
    intro junk52  h317
    rintro ⟨hv, hJ52, hL317⟩
    have H := HB51  h317 hJ52 hL317
    refine H.mono fun r174 h318 H => ?_
    obtain ⟨t391_29, t391_30, t391_31, t391_32, rfl, hL318, H⟩ := H
    refine pop_ext (v := (Value.agg #[t391_29.v])) rfl ?_
    refine pop_ext (v := (VI t391_30)) rfl ?_
    refine pop_ext (v := t391_31.v) rfl ?_
    refine pop_ext (v := (VI t391_32)) rfl ?_
    refine eop_alloc 26 zer26 rfl hL318 (fun b63 h319 hb291 hf125 hL319 => ?_)
    refine ul siz26 hL319 0 0 [t391_29.v] [(b63, [t391_29.v]), (b62, [t327_15.v]), (b61, [t319_15.v]), (b60, [t309_31.v]), (b59, [t309_29.v]), (b2, [s66c.v]), (b1, [s66.v])] (fun h320 hf126 hL320 => ?_)
    refine ra agg26 hL320 0 0 [t391_29.v] ?_
    have H := H b63 h320 hb291 (Fr.new (Fr.no' (Fr.r (In []) _) hf125) hb291 hf126) hL320
    refine H.mono fun r175 h321 H => ?_
    obtain ⟨t401_15, t401_16, rfl, hL321, H⟩ := H
    refine pop_ext (v := (Value.agg #[t401_15.v])) rfl ?_
    refine pop_ext (v := (VB t401_16)) rfl ?_
    refine eop_alloc 28 zer28 rfl hL321 (fun b64 h322 hb292 hf127 hL322 => ?_)
    refine ul siz28 hL322 0 0 [t401_15.v] [(b64, [t401_15.v]), (b63, [t391_29.v]), (b62, [t327_15.v]), (b61, [t319_15.v]), (b60, [t309_31.v]), (b59, [t309_29.v]), (b2, [s66c.v]), (b1, [s66.v])] (fun h323 hf128 hL323 => ?_)
    refine ra agg26 hL323 1 0 [t391_29.v] ?_
    have H := H b64 h323 hb292 (Fr.new (Fr.no' (Fr.r (In []) _) hf127) hb292 hf128) hL323
    refine H.mono fun r176 h324 H => ?_
    obtain ⟨t409_15, t409_16, rfl, hL324, H⟩ := H
    refine pop_ext (v := (Value.agg #[t409_15.v])) rfl ?_
    refine pop_ext (v := (VB t409_16)) rfl ?_
    refine eop_alloc 28 zer28 rfl hL324 (fun b65 h325 hb293 hf129 hL325 => ?_)
    refine ul siz28 hL325 0 0 [t409_15.v] [(b65, [t409_15.v]), (b64, [t401_15.v]), (b63, [t391_29.v]), (b62, [t327_15.v]), (b61, [t319_15.v]), (b60, [t309_31.v]), (b59, [t309_29.v]), (b2, [s66c.v]), (b1, [s66.v])] (fun h326 hf130 hL326 => ?_)
    have H := H b65 h326 hb293 (Fr.new (Fr.no' (Fr.r (In []) _) hf129) hb293 hf130) hL326
    refine H.mono fun r177 h327 H => ?_
    obtain ⟨s413h, rfl, hL327, H⟩ := H
    refine eop_alloc 28 zer28 rfl hL327 (fun b66 h328 hb294 hf131 hL328 => ?_)
    refine ul siz28 hL328 0 0 [s413h.v] [(b66, [s413h.v]), (b65, [t409_15.v]), (b64, [t401_15.v]), (b63, [t391_29.v]), (b62, [t327_15.v]), (b61, [t319_15.v]), (b60, [t309_31.v]), (b59, [t309_29.v]), (b2, [s66c.v]), (b1, [s66.v])] (fun h329 hf132 hL329 => ?_)
    refine ra agg28 hL329 0 0 [s413h.v] ?_
    have H := H b66 h329 hb294 (Fr.new (Fr.no' (Fr.r (In []) _) hf131) hb294 hf132) hL329
    refine H.mono fun r178 h330 H => ?_
    obtain ⟨t416_15, t416_16, rfl, hL330, H⟩ := H
    refine pop_ext (v := (VS t416_15)) rfl ?_
    refine pop_ext (v := (VB t416_16)) rfl ?_
    refine ra agg28 hL330 0 0 [s413h.v] ?_
    refine H.mono fun r179 h331 H => ?_
    obtain ⟨t421_15, t421_16, rfl, hL331, H⟩ := H
    refine pop_ext (v := (VS t421_15)) rfl ?_
    refine pop_ext (v := (VB t421_16)) rfl ?_
    refine pop_bne boo4 _ _ t401_16 t409_16 ?_
    refine guardM_sf (fun hb295 => ?_) (fun hb295 => ?_)
    rotate_left
    ·have H := H.1 hb295
     refine gm hb295 ?_
     refine gm hb295 ?_
     refine gm hb295 ?_
     refine pop_pickt' hb295 ?_
     refine gn ?_
     refine gn ?_
     refine gn ?_
     refine pop_pickt _ _ ?_
     refine gn ?_
     refine gn ?_
     refine gn ?_
     refine pop_pickt _ _ ?_
     refine condM_t ?_
     exact H
    have H := H.2 hb295
    refine ra agg28 hL331 2 0 [t401_15.v] ?_
    refine gy hb295 ?_
    refine ra agg28 hL331 1 0 [t409_15.v] ?_
    refine gy hb295 ?_
    refine H.mono fun r180 h332 H => ?_
    obtain ⟨s430h, rfl, hL332, H⟩ := H
    refine gy hb295 ?_
    refine pop_not s430h ?_
    refine pop_pickf' hb295 ?_
    refine guardM_sf (fun hb296 => ?_) (fun hb296 => ?_)
    rotate_left
    ·have H := H.1 hb296
     refine gm hb296 ?_
     refine gm hb296 ?_
     refine pop_pickt' hb296 ?_
     refine gn ?_
     refine gn ?_
     refine gn ?_
     refine pop_pickt _ _ ?_
     refine condM_t ?_
     exact H
    have H := H.2 hb296
    refine gy hb296 ?_
    refine gy hb296 ?_
    refine pop_bne boo4 _ _ t416_16 t421_16 ?_
    refine pop_pickf' hb296 ?_
    refine guardM_sf (fun hb297 => ?_) (fun hb297 => ?_)
    rotate_left
    ·have H := H.1 hb297
     refine gm hb297 ?_
     refine gm hb297 ?_
     refine pop_pickt' hb297 ?_
     refine condM_t ?_
     exact H
    have H := H.2 hb297
    refine gy hb297 ?_
    refine gy hb297 ?_
    refine pop_sne _ _ t416_15 t421_15 ?_
    refine pop_pickf' hb297 ?_
    refine condM_b (fun hb298 => ?_) (fun hb298 => ?_)
    ·exact H.1 hb298
    have H := H.2 hb298
    refine condM_b (fun hb299 => ?_) (fun hb299 => ?_)
    rotate_left
    ·exact H.2 hb299
    have H := H.1 hb299
    refine ra agg26 hL332 3 0 [t391_29.v] ?_
    refine ra agg28 hL332 2 0 [t401_15.v] ?_
    refine H.mono fun r181 h333 H => ?_
    obtain ⟨t448_15, t448_16, rfl, hL333, H⟩ := H
    refine pop_ext (v := (VB t448_15)) rfl ?_
    refine pop_ext (v := (VB t448_16)) rfl ?_
    refine guardM_st (fun hb300 => ?_) (fun hb300 => ?_)
    ·have H := H.1 hb300
     refine pop_pickt' hb300 ?_
     exact H
    have H := H.2 hb300
    refine pop_pickf' hb300 ?_
    exact H
   have H := H.1 hb251
   refine gy hb251 ?_
   refine pop_not s74b ?_
   refine gy hb250 ?_
   refine pop_pickt' hb251 ?_
   refine pop_pickf' hb250 ?_
   refine condM_b (fun hb252 => ?_) (fun hb252 => ?_)
   ·exact H.1 hb252
   have H := H.2 hb252
   obtain ⟨J43, H, HB47⟩ := H
   refine ⟨fun (vs : List Value) (h' : Heap) => vs = [] /\ J43  h' /\ Vars h' [(b2, [s66c.v]), (b1, [s66.v])], ?_, ?_⟩
   ·refine condM_f' hb158 ?_
    exact ⟨rfl, H, hL17⟩
   intro junk43  h260
   rintro ⟨hv, hJ43, hL260⟩
   have H := HB47  h260 hJ43 hL260
   refine H.mono fun r148 h261 H => ?_
   obtain ⟨t309_25, t309_26, t309_27, t309_28, rfl, hL261, H⟩ := H
   refine pop_ext (v := (Value.agg #[t309_25.v])) rfl ?_
   refine pop_ext (v := (VI t309_26)) rfl ?_
   refine pop_ext (v := (Value.agg #[t309_27.v])) rfl ?_
   refine pop_ext (v := (VI t309_28)) rfl ?_
   refine eop_alloc 26 zer26 rfl hL261 (fun b51 h262 hb253 hf101 hL262 => ?_)
   refine eop_alloc 28 zer28 rfl hL262 (fun b52 h263 hb254 hf102 hL263 => ?_)
   refine ul siz26 hL263 1 0 [t309_25.v] [(b52, [nilSl.v]), (b51, [t309_25.v]), (b2, [s66c.v]), (b1, [s66.v])] (fun h264 hf103 hL264 => ?_)
   refine ul siz28 hL264 0 0 [t309_27.v] [(b52, [t309_27.v]), (b51, [t309_25.v]), (b2, [s66c.v]), (b1, [s66.v])] (fun h265 hf104 hL265 => ?_)
   refine ra agg26 hL265 1 0 [t309_25.v] ?_
   refine ra agg28 hL265 0 0 [t309_27.v] ?_
   have H := H b51 b52 h265 hb253 (Nat.le_trans (Fr.size (Fr.no' (Fr.r (In []) _) hf101)) hb254) (Fr.new (Fr.new (Fr.no' (Fr.no' (Fr.r (In []) _) hf101) hf102) hb253 hf103) (Nat.le_trans (Fr.size (Fr.no' (Fr.r (In []) _) hf101)) hb254) hf104) hL265
   refine H.mono fun r149 h266 H => ?_
   obtain ⟨t319_13, t319_14, rfl, hL266, H⟩ := H
   refine pop_ext (v := (Value.agg #[t319_13.v])) rfl ?_
   refine pop_ext (v := (VB t319_14)) rfl ?_
   refine eop_alloc 28 zer28 rfl hL266 (fun b53 h267 hb255 hf105 hL267 => ?_)
   refine ul siz28 hL267 0 0 [t319_13.v] [(b53, [t319_13.v]), (b52, [t309_27.v]), (b51, [t309_25.v]), (b2, [s66c.v]), (b1, [s66.v])] (fun h268 hf106 hL268 => ?_)
   refine ra agg26 hL268 2 0 [t309_25.v] ?_
   refine ra agg28 hL268 1 0 [t309_27.v] ?_
   have H := H b53 h268 hb255 (Fr.new (Fr.no' (Fr.r (In []) _) hf105) hb255 hf106) hL268
   refine H.mono fun r150 h269 H => ?_
   obtain ⟨t327_13, t327_14, rfl, hL269, H⟩ := H
   refine pop_ext (v := (Value.agg #[t327_13.v])) rfl ?_
   refine pop_ext (v := (VB t327_14)) rfl ?_
   refine eop_alloc 28 zer28 rfl hL269 (fun b54 h270 hb256 hf107 hL270 => ?_)
   refine ul siz28 hL270 0 0 [t327_13.v] [(b54, [t327_13.v]), (b53, [t319_13.v]), (b52, [t309_27.v]), (b51, [t309_25.v]), (b2, [s66c.v]), (b1, [s66.v])] (fun h271 hf108 hL271 => ?_)
   refine pop_bne boo4 _ _ t319_14 t327_14 ?_
   refine guardM_sf (fun hb257 => ?_) (fun hb257 => ?_)
   rotate_left
   ·have H := H.1 hb257
    refine gm hb257 ?_
    refine gm hb257 ?_
    refine gm hb257 ?_
    refine pop_pickt' hb257 ?_
    refine condM_t ?_
    have H := H b54 h271 hb256 (Fr.new (Fr.no' (Fr.r (In []) _) hf107) hb256 hf108) hL271
    exact H
   have H := H.2 hb257
   refine ra agg28 hL271 1 0 [t319_13.v] ?_
   refine gy hb257 ?_
   refine ra agg28 hL271 0 0 [t327_13.v] ?_
   refine gy hb257 ?_
   have H := H b54 h271 hb256 (Fr.new (Fr.no' (Fr.r (In []) _) hf107) hb256 hf108) hL271
   refine H.mono fun r151 h272 H => ?_
   obtain ⟨s336g, rfl, hL272, H⟩ := H
   refine gy hb257 ?_
   refine pop_not s336g ?_
   refine pop_pickf' hb257 ?_
   refine condM_b (fun hb258 => ?_) (fun hb258 => ?_)
   ·exact H.1 hb258
   have H := H.2 hb258
   obtain ⟨J44, H, HB46⟩ := H
   refine ⟨fun (vs : List Value) (h' : Heap) => vs = [] /\ J44  h' /\ Vars h' [(b54, [t327_13.v]), (b53, [t319_13.v]), (b52, [t309_27.v]), (b51, [t309_25.v]), (b2, [s66c.v]), (b1, [s66.v])], ?_, ?_⟩
   ·refine condM_b (fun hb259 => ?_) (fun hb259 => ?_)
    rotate_left
    ·have H := H.2 hb259
     exact ⟨rfl, H, hL272⟩
    have H := H.1 hb259
    refine ra agg26 hL272 3 0 [t309_25.v] ?_
    refine ra agg28 hL272 2 0 [t309_27.v] ?_
    refine H.mono fun r152 h273 H => ?_
    obtain ⟨t344_13, t344_14, rfl, hL273, H⟩ := H
    refine pop_ext (v := t344_13.v) rfl ?_
    refine pop_ext (v := (VB t344_14)) rfl ?_
    refine pop_len t344_13 _ _ sli24 ?_
    obtain ⟨J45, ⟨n52, h0_26⟩, HB45⟩ := H
    refine loop_intro (J := fun (n : Nat) (vs : List Value) (h' : Heap) => ∃ own41_7 : Sl, ∃ s349g : Int, vs = [own41_7.v, (VI s349g)] /\ J45 n own41_7 s349g h' /\ Vars h' [(b54, [t327_13.v]), (b53, [t319_13.v]), (b52, [t309_27.v]), (b51, [t309_25.v]), (b2, [s66c.v]), (b1, [s66.v])]) n52 ⟨nilSl, 0, rfl, h0_26, hL273⟩ ?_
    intro I26 mu26 hI26 junk44 tv51 tv52 h274 hi127
    obtain ⟨n49, ⟨own41_7, s349g, hv, hJ44, hL274⟩, hn25⟩ := hI26 _ _ hi127
    cases hv
    have H := HB45 n49 own41_7 s349g h274 hJ44 hL274
    refine pop_lss .i64 s349g (t344_13.n : Int) ?_
    refine condM_b (fun hb260 => ?_) (fun hb260 => ?_)
    ·have H := H.1 hb260
     obtain ⟨hi128, H⟩ := H
     refine pop_index sli24 siz33 .i64 t344_13 s349g hi128 ?_
     obtain ⟨s352g, hc109, H⟩ := H
     refine rop_one one33 s352g.v hc109 ?_
     refine H.mono fun r153 h275 H => ?_
     obtain ⟨s355g, rfl, hL275, H⟩ := H
     refine condM_b (fun hb261 => ?_) (fun hb261 => ?_)
     ·have H := H.1 hb261
      refine pop_add .i64 s349g 1 ?_
      obtain ⟨m_35, hm_35, H⟩ := H
      exact hn25 _ _ ⟨m_35, hm_35, s352g, (w64 (s349g + 1)), rfl, H, hL275⟩
     have H := H.2 hb261
     refine pop_add .i64 s349g 1 ?_
     obtain ⟨m_36, hm_36, H⟩ := H
     exact hn25 _ _ ⟨m_36, hm_36, own41_7, (w64 (s349g + 1)), rfl, H, hL275⟩
    have H := H.2 hb260
    refine pop_not t344_14 ?_
    refine guardM_sf (fun hb262 => ?_) (fun hb262 => ?_)
    rotate_left
    ·have H := H.1 hb262
     refine gm hb262 ?_
     refine gm hb262 ?_
     refine pop_pickt' hb262 ?_
     refine condM_t ?_
     exact H
    have H := H.2 hb262
    refine gy hb262 ?_
    refine pop_len own41_7 _ _ sli33 ?_
    refine gy hb262 ?_
    refine pop_ieq .i64 _ _ (own41_7.n : Int) 0 ?_
    refine pop_pickf' hb262 ?_
    refine condM_b (fun hb263 => ?_) (fun hb263 => ?_)
    ·exact H.1 hb263
    have H := H.2 hb263
    refine pop_field 0 fld26_0 b51 0 ?_
    refine rl one24 hL274 3 0 t309_25.v ?_
    refine pop_len t309_25 _ _ sli24 ?_
    obtain ⟨J46, ⟨n51, h0_25⟩, HB44⟩ := H
    refine loop_intro (J := fun (n : Nat) (vs : List Value) (h' : Heap) => ∃ s368g : Int, vs = [(VI s368g)] /\ J46 n s368g h' /\ Vars h' [(b54, [t327_13.v]), (b53, [t319_13.v]), (b52, [t309_27.v]), (b51, [t309_25.v]), (b2, [s66c.v]), (b1, [s66.v])]) n51 ⟨0, rfl, h0_25, hL274⟩ ?_
    intro I25 mu25 hI25 junk45 tv50 h276 hi129
    obtain ⟨n50, ⟨s368g, hv, hJ45, hL276⟩, hn26⟩ := hI25 _ _ hi129
    cases hv
    have H := HB44 n50 s368g h276 hJ45 hL276
    refine pop_lss .i64 s368g (t309_25.n : Int) ?_
    refine condM_b (fun hb264 => ?_) (fun hb264 => ?_)
    rotate_left
    ·have H := H.2 hb264
     exact ⟨rfl, H, hL276⟩
    have H := H.1 hb264
    obtain ⟨J47, H, HB43⟩ := H
    refine ⟨fun (vs : List Value) (h' : Heap) => ∃ y7 : Int, vs = [(VI y7)] /\ J47 y7 h' /\ Vars h' [(b54, [t327_13.v]), (b53, [t319_13.v]), (b52, [t309_27.v]), (b51, [t309_25.v]), (b2, [s66c.v]), (b1, [s66.v])], ?_, ?_⟩
    ·refine H.mono fun r154 h277 H => ?_
     obtain ⟨s373g, rfl, hL277, H⟩ := H
     refine condM_b (fun hb265 => ?_) (fun hb265 => ?_)
     ·have H := H.1 hb265
      exact ⟨1, rfl, H, hL277⟩
     have H := H.2 hb265
     exact ⟨0, rfl, H, hL277⟩
    intro junk46 tv49 h278
    rintro ⟨y7, hv, hJ46, hL278⟩
    cases hv
    have H := HB43 y7 h278 hJ46 hL278
    refine pop_field 0 fld28_0 b53 0 ?_
    refine rl one24 hL278 1 0 t319_13.v ?_
    obtain ⟨hi130, H⟩ := H
    refine pop_index sli24 siz33 .i64 t319_13 s368g hi130 ?_
    obtain ⟨s378g, hc112, H⟩ := H
    refine rop_one one33 s378g.v hc112 ?_
    refine pop_field 0 fld28_0 b52 0 ?_
    refine rl one24 hL278 2 0 t309_27.v ?_
    obtain ⟨hi131, H⟩ := H
    refine pop_index sli24 siz33 .i64 t309_27 s368g hi131 ?_
    obtain ⟨s383g, hc111, H⟩ := H
    refine rop_one one33 s383g.v hc111 ?_
    refine H.mono fun r155 H => ?_
    obtain ⟨s385g, rfl, H⟩ := H
    refine H.mono fun r156 h279 H => ?_
    obtain ⟨s386g, rfl, hL279, H⟩ := H
    refine ⟨?_, ?_⟩
    ·exact still_one one33 H.1
    obtain ⟨hc110, H⟩ := H
    refine ⟨?_, ?_⟩
    ·exact still_loc one24 hL279 2 rfl 0 (v := t309_27.v) rfl
    refine ⟨?_, ?_⟩
    ·exact still_loc one24 hL279 1 rfl 0 (v := t319_13.v) rfl
    refine pop_not s386g ?_
    refine condM_b (fun hb266 => ?_) (fun hb266 => ?_)
    ·exact H.1 hb266
    have H := H.2 hb266
    refine pop_add .i64 s368g 1 ?_
    obtain ⟨m_37, hm_37, H⟩ := H
    exact hn26 _ _ ⟨m_37, hm_37, (w64 (s368g + 1)), rfl, H, hL279⟩
   intro junk47  h280
   rintro ⟨hv, hJ47, hL280⟩
   have H := HB46  h280 hJ47 hL280
   refine H.mono fun r157 h281 H => ?_
   obtain ⟨t391_25, t391_26, t391_27, t391_28, rfl, hL281, H⟩ := H
   refine pop_ext (v := (Value.agg #[t391_25.v])) rfl ?_
   refine pop_ext (v := (VI t391_26)) rfl ?_
   refine pop_ext (v := t391_27.v) rfl ?_
   refine pop_ext (v := (VI t391_28)) rfl ?_
   refine eop_alloc 26 zer26 rfl hL281 (fun b55 h282 hb267 hf109 hL282 => ?_)
   refine ul siz26 hL282 0 0 [t391_25.v] [(b55, [t391_25.v]), (b54, [t327_13.v]), (b53, [t319_13.v]), (b52, [t309_27.v]), (b51, [t309_25.v]), (b2, [s66c.v]), (b1, [s66.v])] (fun h283 hf110 hL283 => ?_)
   refine ra agg26 hL283 0 0 [t391_25.v] ?_
   have H := H b55 h283 hb267 (Fr.new (Fr.no' (Fr.r (In []) _) hf109) hb267 hf110) hL283
   refine H.mono fun r158 h284 H => ?_
   obtain ⟨t401_13, t401_14, rfl, hL284, H⟩ := H
   refine pop_ext (v := (Value.agg #[t401_13.v])) rfl ?_
   refine pop_ext (v := (VB t401_14)) rfl ?_
   refine eop_alloc 28 zer28 rfl hL284 (fun b56 h285 hb268 hf111 hL285 => ?_)
   refine ul siz28 hL285 0 0 [t401_13.v] [(b56, [t401_13.v]), (b55, [t391_25.v]), (b54, [t327_13.v]), (b53, [t319_13.v]), (b52, [t309_27.v]), (b51, [t309_25.v]), (b2, [s66c.v]), (b1, [s66.v])] (fun h286 hf112 hL286 => ?_)
   refine ra agg26 hL286 1 0 [t391_25.v] ?_
   have H := H b56 h286 hb268 (Fr.new (Fr.no' (Fr.r (In []) _) hf111) hb268 hf112) hL286
   refine H.mono fun r159 h287 H => ?_
   obtain ⟨t409_13, t409_14, rfl, hL287, H⟩ := H
   refine pop_ext (v := (Value.agg #[t409_13.v])) rfl ?_
   refine pop_ext (v := (VB t409_14)) rfl ?_
   refine eop_alloc 28 zer28 rfl hL287 (fun b57 h288 hb269 hf113 hL288 => ?_)
   refine ul siz28 hL288 0 0 [t409_13.v] [(b57, [t409_13.v]), (b56, [t401_13.v]), (b55, [t391_25.v]), (b54, [t327_13.v]), (b53, [t319_13.v]), (b52, [t309_27.v]), (b51, [t309_25.v]), (b2, [s66c.v]), (b1, [s66.v])] (fun h289 hf114 hL289 => ?_)
   have H := H b57 h289 hb269 (Fr.new (Fr.no' (Fr.r (In []) _) hf113) hb269 hf114) hL289
   refine H.mono fun r160 h290 H => ?_
   obtain ⟨s413g, rfl, hL290, H⟩ := H
   refine eop_alloc 28 zer28 rfl hL290 (fun b58 h291 hb270 hf115 hL291 => ?_)
   refine ul siz28 hL291 0 0 [s413g.v] [(b58, [s413g.v]), (b57, [t409_13.v]), (b56, [t401_13.v]), (b55, [t391_25.v]), (b54, [t327_13.v]), (b53, [t319_13.v]), (b52, [t309_27.v]), (b51, [t309_25.v]), (b2, [s66c.v]), (b1, [s66.v])] (fun h292 hf116 hL292 => ?_)
   refine ra agg28 hL292 0 0 [s413g.v] ?_
   have H := H b58 h292 hb270 (Fr.new (Fr.no' (Fr.r (In []) _) hf115) hb270 hf116) hL292
   refine H.mono fun r161 h293 H => ?_
   obtain ⟨t416_13, t416_14, rfl, hL293, H⟩ := H
   refine pop_ext (v := (VS t416_13)) rfl ?_
   refine pop_ext (v := (VB t416_14)) rfl ?_
   refine ra agg28 hL293 0 0 [s413g.v] ?_
   refine H.mono fun r162 h294 H => ?_
   obtain ⟨t421_13, t421_14, rfl, hL294, H⟩ := H
   refine pop_ext (v := (VS t421_13)) rfl ?_
   refine pop_ext (v := (VB t421_14)) rfl ?_
   refine pop_bne boo4 _ _ t401_14 t409_14 ?_
   refine guardM_sf (fun hb271 => ?_) (fun hb271 => ?_)
   rotate_left
   ·have H := H.1 hb271
    refine gm hb271 ?_
    refine gm hb271 ?_
    refine gm hb271 ?_
    refine pop_pickt' hb271 ?_
    refine gn ?_
    refine gn ?_
    refine gn ?_
    refine pop_pickt _ _ ?_
    refine gn ?_
    refine gn ?_
    refine gn ?_
    refine pop_pickt _ _ ?_
    refine condM_t ?_
    exact H
   have H := H.2 hb271
   refine ra agg28 hL294 2 0 [t401_13.v] ?_
   refine gy hb271 ?_
   refine ra agg28 hL294 1 0 [t409_13.v] ?_
   refine gy hb271 ?_
   refine H.mono fun r163 h295 H => ?_
   obtain ⟨s430g, rfl, hL295, H⟩ := H
   refine gy hb271 ?_
   refine pop_not s430g ?_
   refine pop_pickf' hb271 ?_
   refine guardM_sf (fun hb272 => ?_) (fun hb272 => ?_)
   rotate_left
   ·have H := H.1 hb272
    refine gm hb272 ?_
    refine gm hb272 ?_
    refine pop_pickt' hb272 ?_
    refine gn ?_
    refine gn ?_
    refine gn ?_
    refine pop_pickt _ _ ?_
    refine condM_t ?_
    exact H
   have H := H.2 hb272
   refine gy hb272 ?_
   refine gy hb272 ?_
   refine pop_bne boo4 _ _ t416_14 t421_14 ?_
   refine pop_pickf' hb272 ?_
   refine guardM_sf (fun hb273 => ?_) (fun hb273 => ?_)
   rotate_left
   ·have H := H.1 hb273
    refine gm hb273 ?_
    refine gm hb273 ?_
    refine pop_pickt' hb273 ?_
    refine condM_t ?_
    exact H
   have H := H.2 hb273
   refine gy hb273 ?_
   refine gy hb273 ?_
   refine pop_sne _ _ t416_13 t421_13 ?_
   refine pop_pickf' hb273 ?_
   refine condM_b (fun hb274 => ?_) (fun hb274 => ?_)
   ·exact H.1 hb274
   have H := H.2 hb274
   refine condM_b (fun hb275 => ?_) (fun hb275 => ?_)
   rotate_left
   ·exact H.2 hb275
   have H := H.1 hb275
   refine ra agg26 hL295 3 0 [t391_25.v] ?_
   refine ra agg28 hL295 2 0 [t401_13.v] ?_
   refine H.mono fun r164 h296 H => ?_
   obtain ⟨t448_13, t448_14, rfl, hL296, H⟩ := H
   refine pop_ext (v := (VB t448_13)) rfl ?_
   refine pop_ext (v := (VB t448_14)) rfl ?_
   refine guardM_st (fun hb276 => ?_) (fun hb276 => ?_)
   ·have H := H.1 hb276
    refine pop_pickt' hb276 ?_
    exact H
   have H := H.2 hb276
   refine pop_pickf' hb276 ?_
   exact H
  have H := H.1 hb158
  refine gy hb158 ?_
  refine pop_len s74 _ _ sli24 ?_
  refine gy hb158 ?_
  refine pop_gtr .i64 (s74.n : Int) 0 ?_
  refine gy hb157 ?_
  refine pop_pickt' hb158 ?_
  refine gy hb157 ?_
  refine pop_bne boo4 _ _ s88b (decide (0 < (s74.n : Int))) ?_
  refine pop_pickf' hb157 ?_
  refine guardM_sf (fun hb159 => ?_) (fun hb159 => ?_)
  rotate_left
  ·have H := H.1 hb159
   refine gm hb159 ?_
   refine gn ?_
   refine gn ?_
   refine gm hb159 ?_
   refine pop_pickt' hb159 ?_
   refine condM_t ?_
   exact H
  have H := H.2 hb159
  refine gy hb159 ?_
  refine guardM_st (fun hb160 => ?_) (fun hb160 => ?_)
  rotate_left
  ·have H := H.2 hb160
   refine gm hb160 ?_
   refine gy hb159 ?_
   refine pop_pickf' hb160 ?_
   refine pop_pickf' hb159 ?_
   refine condM_f ?_
   obtain ⟨J35, H, HB42⟩ := H
   refine ⟨fun (vs : List Value) (h' : Heap) => vs = [] /\ J35  h' /\ Vars h' [(b2, [s66c.v]), (b1, [s66.v])], ?_, ?_⟩
   ·refine condM_t' hb158 ?_
    refine pop_len s74 _ _ sli24 ?_
    obtain ⟨J36, ⟨n44, h0_22⟩, HB37⟩ := H
    refine loop_intro (J := fun (n : Nat) (vs : List Value) (h' : Heap) => ∃ seen24_10 : Int, ∃ s195d : Int, vs = [(VI seen24_10), (VI s195d)] /\ J36 n seen24_10 s195d h' /\ Vars h' [(b2, [s66c.v]), (b1, [s66.v])]) n44 ⟨0, 0, rfl, h0_22, hL17⟩ ?_
    intro I22 mu22 hI22 junk35 tv43 tv44 h219 hi98
    obtain ⟨n39, ⟨seen24_10, s195d, hv, hJ35, hL219⟩, hn20⟩ := hI22 _ _ hi98
    cases hv
    have H := HB37 n39 seen24_10 s195d h219 hJ35 hL219
    refine pop_lss .i64 s195d (s74.n : Int) ?_
    refine condM_b (fun hb209 => ?_) (fun hb209 => ?_)
    rotate_left
    ·have H := H.2 hb209
     refine guardM_st (fun hb224 => ?_) (fun hb224 => ?_)
     rotate_left
     ·have H := H.2 hb224
      refine gm hb224 ?_
      refine gm hb224 ?_
      refine gm hb224 ?_
      refine gm hb224 ?_
      refine gm hb224 ?_
      refine pop_pickf' hb224 ?_
      refine condM_f ?_
      refine gm hb160 ?_
      refine gm hb160 ?_
      refine gm hb160 ?_
      refine pop_pickf' hb160 ?_
      refine condM_f ?_
      exact ⟨rfl, H, hL219⟩
     have H := H.1 hb224
     refine gy hb224 ?_
     refine gy hb224 ?_
     obtain ⟨hi121, H⟩ := H
     refine pop_index sli24 siz33 .i64 s74 0 hi121 ?_
     refine gy hb224 ?_
     obtain ⟨s284d, hc104, H⟩ := H
     refine rop_one one33 s284d.v hc104 ?_
     refine gy hb224 ?_
     refine H.mono fun r130 h222 H => ?_
     obtain ⟨s285d, rfl, hL222, H⟩ := H
     refine gy hb224 ?_
     refine pop_not s285d ?_
     refine pop_pickt' hb224 ?_
     refine condM_b (fun hb225 => ?_) (fun hb225 => ?_)
     ·exact H.1 hb225
     have H := H.2 hb225
     refine gm hb160 ?_
     refine gm hb160 ?_
     refine gm hb160 ?_
     refine pop_pickf' hb160 ?_
     refine condM_f ?_
     exact ⟨rfl, H, hL222⟩
    have H := H.1 hb209
    obtain ⟨hi99, H⟩ := H
    refine pop_index sli24 siz33 .i64 s74 s195d hi99 ?_
    obtain ⟨s199d, hc103, H⟩ := H
    refine rop_one one33 s199d.v hc103 ?_
    refine pop_gtr .i64 s195d 0 ?_
    refine guardM_st (fun hb210 => ?_) (fun hb210 => ?_)
    rotate_left
    ·have H := H.2 hb210
     refine gm hb210 ?_
     refine gm hb210 ?_
     refine gm hb210 ?_
     refine gm hb210 ?_
     refine gm hb210 ?_
     refine gm hb210 ?_
     refine gm hb210 ?_
     refine gm hb210 ?_
     refine gm hb210 ?_
     refine gm hb210 ?_
     refine pop_pickf' hb210 ?_
     refine condM_f ?_
     refine pop_len s199d _ _ sli33 ?_
     obtain ⟨J38, ⟨n43, h0_21⟩, HB36⟩ := H
     refine loop_intro (J := fun (n : Nat) (vs : List Value) (h' : Heap) => ∃ seen24_12 : Int, ∃ s217h : Int, vs = [(VI seen24_12), (VI s217h)] /\ J38 n seen24_12 s217h h' /\ Vars h' [(b2, [s66c.v]), (b1, [s66.v])]) n43 ⟨seen24_10, 0, rfl, h0_21, hL219⟩ ?_
     intro I21 mu21 hI21 junk37 tv41 tv42 h221 hi112
     obtain ⟨n42, ⟨seen24_12, s217h, hv, hJ37, hL221⟩, hn22⟩ := hI21 _ _ hi112
     cases hv
     have H := HB36 n42 seen24_12 s217h h221 hJ37 hL221
     refine pop_lss .i64 s217h (s199d.n : Int) ?_
     refine condM_b (fun hb218 => ?_) (fun hb218 => ?_)
     rotate_left
     ·have H := H.2 hb218
      refine pop_add .i64 s195d 1 ?_
      obtain ⟨m_31, hm_31, H⟩ := H
      exact hn20 _ _ ⟨m_31, hm_31, seen24_12, (w64 (s195d + 1)), rfl, H, hL221⟩
     have H := H.1 hb218
     obtain ⟨hi113, H⟩ := H
     refine pop_index sli33 siz3 .i64 s199d s217h hi113 ?_
     obtain ⟨s221h, hc102, H⟩ := H
     refine rop_one one3 (VI s221h) hc102 ?_
     obtain ⟨hi114, H⟩ := H
     refine pop_index sli33 siz3 .i64 s199d 0 hi114 ?_
     obtain ⟨s225h, hc101, H⟩ := H
     refine rop_one one3 (VI s225h) hc101 ?_
     refine pop_lss .i64 s221h s225h ?_
     refine guardM_sf (fun hb219 => ?_) (fun hb219 => ?_)
     rotate_left
     ·have H := H.1 hb219
      refine gm hb219 ?_
      refine gm hb219 ?_
      refine pop_pickt' hb219 ?_
      refine gn ?_
      refine gn ?_
      refine gn ?_
      refine gn ?_
      refine gn ?_
      refine pop_pickt _ _ ?_
      refine gn ?_
      refine gn ?_
      refine gn ?_
      refine gn ?_
      refine gn ?_
      refine gn ?_
      refine gn ?_
      refine pop_pickt _ _ ?_
      refine gn ?_
      refine gn ?_
      refine gn ?_
      refine gn ?_
      refine gn ?_
      refine gn ?_
      refine gn ?_
      refine gn ?_
      refine gn ?_
      refine gn ?_
      refine gn ?_
      refine gn ?_
      refine gn ?_
      refine gn ?_
      refine gn ?_
      refine gn ?_
      refine gn ?_
      refine gn ?_
      refine gn ?_
      refine gn ?_
      refine gn ?_
      refine gn ?_
      refine gn ?_
      refine pop_pickt _ _ ?_
      refine condM_t ?_
      exact H
     have H := H.2 hb219
     refine gy hb219 ?_
     refine gy hb219 ?_
     refine pop_ieq .i64 _ _ s221h s66b ?_
     refine pop_pickf' hb219 ?_
     refine guardM_sf (fun hb220 => ?_) (fun hb220 => ?_)
     rotate_left
     ·have H := H.1 hb220
      refine gm hb220 ?_
      refine gm hb220 ?_
      refine gm hb220 ?_
      refine gm hb220 ?_
      refine pop_pickt' hb220 ?_
      refine gn ?_
      refine gn ?_
      refine gn ?_
      refine gn ?_
      refine gn ?_
      refine gn ?_
      refine gn ?_
      refine pop_pickt _ _ ?_
      refine gn ?_
      refine gn ?_
      refine gn ?_
      refine gn ?_
      refine gn ?_
      refine gn ?_
      refine gn ?_
      refine gn ?_
      refine gn ?_
      refine gn ?_
      refine gn ?_
      refine gn ?_
      refine gn ?_
      refine gn ?_
      refine gn ?_
      refine gn ?_
      refine gn ?_
      refine gn ?_
      refine gn ?_
      refine gn ?_
      refine gn ?_
      refine gn ?_
      refine gn ?_
      refine pop_pickt _ _ ?_
      refine condM_t ?_
      exact H
     have H := H.2 hb220
     refine gy hb220 ?_
     refine gy hb220 ?_
     refine H.mono fun r127 H => ?_
     obtain ⟨s235h, rfl, H⟩ := H
     refine gy hb220 ?_
     refine pop_rem .i64 s235h 2 (by decide) ?_
     refine gy hb220 ?_
     refine pop_ieq .i64 _ _ (Int.tmod s235h 2) 1 ?_
     refine pop_pickf' hb220 ?_
     refine guardM_sf (fun hb221 => ?_) (fun hb221 => ?_)
     rotate_left
     ·have H := H.1 hb221
      refine gm hb221 ?_
      refine gm hb221 ?_
      refine gm hb221 ?_
      refine gm hb221 ?_
      refine gm hb221 ?_
      refine gm hb221 ?_
      refine pop_pickt' hb221 ?_
      refine gn ?_
      refine gn ?_
      refine gn ?_
      refine gn ?_
      refine gn ?_
      refine gn ?_
      refine gn ?_
      refine gn ?_
      refine gn ?_
      refine gn ?_
      refine gn ?_
      refine gn ?_
      refine gn ?_
      refine gn ?_
      refine gn ?_
      refine gn ?_
      refine gn ?_
      refine gn ?_
      refine gn ?_
      refine gn ?_
      refine gn ?_
      refine gn ?_
      refine gn ?_
      refine pop_pickt _ _ ?_
      refine condM_t ?_
      exact H
     have H := H.2 hb221
     refine pop_field 0 fld28_0 b2 0 ?_
     refine gy hb221 ?_
     refine rl one24 hL221 0 0 s66c.v ?_
     refine gy hb221 ?_
     refine gy hb221 ?_
     obtain ⟨hi115, H⟩ := H
     refine pop_index sli24 siz33 .i64 s66c s221h hi115 ?_
     refine gy hb221 ?_
     obtain ⟨s244h, hc100, H⟩ := H
     refine rop_one one33 s244h.v hc100 ?_
     refine gy hb221 ?_
     refine pop_len s244h _ _ sli33 ?_
     refine gy hb221 ?_
     refine pop_ieq .i64 _ _ (s244h.n : Int) 0 ?_
     refine pop_pickf' hb221 ?_
     refine guardM_sf (fun hb222 => ?_) (fun hb222 => ?_)
     rotate_left
     ·have H := H.1 hb222
      refine gm hb222 ?_
      refine gm hb222 ?_
      refine gm hb222 ?_
      refine gm hb222 ?_
      refine gm hb222 ?_
      refine gm hb222 ?_
      refine gm hb222 ?_
      refine gm hb222 ?_
      refine gm hb222 ?_
      refine gm hb222 ?_
      refine gm hb222 ?_
      refine gm hb222 ?_
      refine gm hb222 ?_
      refine gm hb222 ?_
      refine gm hb222 ?_
      refine gm hb222 ?_
      refine gm hb222 ?_
      refine gm hb222 ?_
      refine gm hb222 ?_
      refine gm hb222 ?_
      refine gm hb222 ?_
      refine gm hb222 ?_
      refine pop_pickt' hb222 ?_
      refine condM_t ?_
      exact H
     have H := H.2 hb222
     refine pop_field 0 fld26_0 b1 0 ?_
     refine gy hb222 ?_
     refine rl one24 hL221 1 0 s66.v ?_
     refine gy hb222 ?_
     refine gy hb222 ?_
     obtain ⟨hi116, H⟩ := H
     refine pop_index sli24 siz33 .i64 s66 s221h hi116 ?_
     refine gy hb222 ?_
     obtain ⟨s253h, hc99, H⟩ := H
     refine rop_one one33 s253h.v hc99 ?_
     refine gy hb222 ?_
     refine pop_field 0 fld28_0 b2 0 ?_
     refine gy hb222 ?_
     refine rl one24 hL221 0 0 s66c.v ?_
     refine gy hb222 ?_
     refine gy hb222 ?_
     obtain ⟨hi117, H⟩ := H
     refine pop_index sli24 siz33 .i64 s66c s221h hi117 ?_
     refine gy hb222 ?_
     obtain ⟨s258h, hc98, H⟩ := H
     refine rop_one one33 s258h.v hc98 ?_
     refine gy hb222 ?_
     obtain ⟨hi118, H⟩ := H
     refine pop_index sli33 siz3 .i64 s258h 0 hi118 ?_
     refine gy hb222 ?_
     obtain ⟨s260h, hc97, H⟩ := H
     refine rop_one one3 (VI s260h) hc97 ?_
     refine gy hb222 ?_
     obtain ⟨hi119, H⟩ := H
     refine pop_index sli33 siz3 .i64 s253h s260h hi119 ?_
     refine gy hb222 ?_
     obtain ⟨s262h, hc96, H⟩ := H
     refine rop_one one3 (VI s262h) hc96 ?_
     refine gy hb222 ?_
     refine gy hb222 ?_
     refine gy hb222 ?_
     refine pop_add .i64 s217h 1 ?_
     refine gy hb222 ?_
     refine gy hb222 ?_
     refine pop_len s199d _ _ sli33 ?_
     refine gy hb222 ?_
     obtain ⟨hz_8, H⟩ := H
     refine pop_rem .i64 (w64 (s217h + 1)) (s199d.n : Int) hz_8 ?_
     refine gy hb222 ?_
     obtain ⟨hi120, H⟩ := H
     refine pop_index sli33 siz3 .i64 s199d (Int.tmod (w64 (s217h + 1)) (s199d.n : Int)) hi120 ?_
     refine gy hb222 ?_
     obtain ⟨s270h, hc95, H⟩ := H
     refine rop_one one3 (VI s270h) hc95 ?_
     refine gy hb222 ?_
     refine pop_ine .i64 _ _ s262h s270h ?_
     refine pop_pickf' hb222 ?_
     refine condM_b (fun hb223 => ?_) (fun hb223 => ?_)
     ·exact H.1 hb223
     have H := H.2 hb223
     refine H.mono fun r128 H => ?_
     obtain ⟨s275h, rfl, H⟩ := H
     refine H.mono fun r129 H => ?_
     obtain ⟨s276h, rfl, H⟩ := H
     refine pop_add .i64 s217h 1 ?_
     obtain ⟨m_30, hm_30, H⟩ := H
     exact hn22 _ _ ⟨m_30, hm_30, s276h, (w64 (s217h + 1)), rfl, H, hL221⟩
    have H := H.1 hb210
    refine gy hb210 ?_
    refine gy hb210 ?_
    refine pop_sub .i64 s195d 1 ?_
    refine gy hb210 ?_
    obtain ⟨hi100, H⟩ := H
    refine pop_index sli24 siz33 .i64 s74 (w64 (s195d - 1)) hi100 ?_
    refine gy hb210 ?_
    obtain ⟨s207d, hc94, H⟩ := H
    refine rop_one one33 s207d.v hc94 ?_
    refine gy hb210 ?_
    obtain ⟨hi101, H⟩ := H
    refine pop_index sli33 siz3 .i64 s207d 0 hi101 ?_
    refine gy hb210 ?_
    obtain ⟨s209d, hc93, H⟩ := H
    refine rop_one one3 (VI s209d) hc93 ?_
    refine gy hb210 ?_
    refine gy hb210 ?_
    obtain ⟨hi102, H⟩ := H
    refine pop_index sli33 siz3 .i64 s199d 0 hi102 ?_
    refine gy hb210 ?_
    obtain ⟨s212d, hc92, H⟩ := H
    refine rop_one one3 (VI s212d) hc92 ?_
    refine gy hb210 ?_
    refine pop_geq .i64 s209d s212d ?_
    refine pop_pickt' hb210 ?_
    refine condM_b (fun hb211 => ?_) (fun hb211 => ?_)
    ·exact H.1 hb211
    have H := H.2 hb211
    refine pop_len s199d _ _ sli33 ?_
    obtain ⟨J37, ⟨n41, h0_20⟩, HB35⟩ := H
    refine loop_intro (J := fun (n : Nat) (vs : List Value) (h' : Heap) => ∃ seen24_11 : Int, ∃ s217g : Int, vs = [(VI seen24_11), (VI s217g)] /\ J37 n seen24_11 s217g h' /\ Vars h' [(b2, [s66c.v]), (b1, [s66.v])]) n41 ⟨seen24_10, 0, rfl, h0_20, hL219⟩ ?_
    intro I20 mu20 hI20 junk36 tv39 tv40 h220 hi103
    obtain ⟨n40, ⟨seen24_11, s217g, hv, hJ36, hL220⟩, hn21⟩ := hI20 _ _ hi103
    cases hv
    have H := HB35 n40 seen24_11 s217g h220 hJ36 hL220
    refine pop_lss .i64 s217g (s199d.n : Int) ?_
    refine condM_b (fun hb212 => ?_) (fun hb212 => ?_)
    rotate_left
    ·have H := H.2 hb212
     refine pop_add .i64 s195d 1 ?_
     obtain ⟨m_29, hm_29, H⟩ := H
     exact hn20 _ _ ⟨m_29, hm_29, seen24_11, (w64 (s195d + 1)), rfl, H, hL220⟩
    have H := H.1 hb212
    obtain ⟨hi104, H⟩ := H
    refine pop_index sli33 siz3 .i64 s199d s217g hi104 ?_
    obtain ⟨s221g, hc91, H⟩ := H
    refine rop_one one3 (VI s221g) hc91 ?_
    obtain ⟨hi105, H⟩ := H
    refine pop_index sli33 siz3 .i64 s199d 0 hi105 ?_
    obtain ⟨s225g, hc90, H⟩ := H
    refine rop_one one3 (VI s225g) hc90 ?_
    refine pop_lss .i64 s221g s225g ?_
    refine guardM_sf (fun hb213 => ?_) (fun hb213 => ?_)
    rotate_left
    ·have H := H.1 hb213
     refine gm hb213 ?_
     refine gm hb213 ?_
     refine pop_pickt' hb213 ?_
     refine gn ?_
     refine gn ?_
     refine gn ?_
     refine gn ?_
     refine gn ?_
     refine pop_pickt _ _ ?_
     refine gn ?_
     refine gn ?_
     refine gn ?_
     refine gn ?_
     refine gn ?_
     refine gn ?_
     refine gn ?_
     refine pop_pickt _ _ ?_
     refine gn ?_
     refine gn ?_
     refine gn ?_
     refine gn ?_
     refine gn ?_
     refine gn ?_
     refine gn ?_
     refine gn ?_
     refine gn ?_
     refine gn ?_
     refine gn ?_
     refine gn ?_
     refine gn ?_
     refine gn ?_
     refine gn ?_
     refine gn ?_
     refine gn ?_
     refine gn ?_
     refine gn ?_
     refine gn ?_
     refine gn ?_
     refine gn ?_
     refine gn ?_
     refine pop_pickt _ _ ?_
     refine condM_t ?_
     exact H
    have H := H.2 hb213
    refine gy hb213 ?_
    refine gy hb213 ?_
    refine pop_ieq .i64 _ _ s221g s66b ?_
    refine pop_pickf' hb213 ?_
    refine guardM_sf (fun hb214 => ?_) (fun hb214 => ?_)
    rotate_left
    ·have H := H.1 hb214
     refine gm hb214 ?_
     refine gm hb214 ?_
     refine gm hb214 ?_
     refine gm hb214 ?_
     refine pop_pickt' hb214 ?_
     refine gn ?_
     refine gn ?_
     refine gn ?_
     refine gn ?_
     refine gn ?_
     refine gn ?_
     refine gn ?_
     refine pop_pickt _ _ ?_
     refine gn ?_
     refine gn ?_
     refine gn ?_
     refine gn ?_
     refine gn ?_
     refine gn ?_
     refine gn ?_
     refine gn ?_
     refine gn ?_
     refine gn ?_
     refine gn ?_
     refine gn ?_
     refine gn ?_
     refine gn ?_
     refine gn ?_
     refine gn ?_
     refine gn ?_
     refine gn ?_
     refine gn ?_
     refine gn ?_
     refine gn ?_
     refine gn ?_
     refine gn ?_
     refine pop_pickt _ _ ?_
     refine condM_t ?_
     exact H
    have H := H.2 hb214
    refine gy hb214 ?_
    refine gy hb214 ?_
    refine H.mono fun r124 H => ?_
    obtain ⟨s235g, rfl, H⟩ := H
    refine gy hb214 ?_
    refine pop_rem .i64 s235g 2 (by decide) ?_
    refine gy hb214 ?_
    refine pop_ieq .i64 _ _ (Int.tmod s235g 2) 1 ?_
    refine pop_pickf' hb214 ?_
    refine guardM_sf (fun hb215 => ?_) (fun hb215 => ?_)
    rotate_left
    ·have H := H.1 hb215
     refine gm hb215 ?_
     refine gm hb215 ?_
     refine gm hb215 ?_
     refine gm hb215 ?_
     refine gm hb215 ?_
     refine gm hb215 ?_
     refine pop_pickt' hb215 ?_
     refine gn ?_
     refine gn ?_
     refine gn ?_
     refine gn ?_
     refine gn ?_
     refine gn ?_
     refine gn ?_
     refine gn ?_
     refine gn ?_
     refine gn ?_
     refine gn ?_
     refine gn ?_
     refine gn ?_
     refine gn ?_
     refine gn ?_
     refine gn ?_
     refine gn ?_
     refine gn ?_
     refine gn ?_
     refine gn ?_
     refine gn ?_
     refine gn ?_
     refine gn ?_
     refine pop_pickt _ _ ?_
     refine condM_t ?_
     exact H
    have H := H.2 hb215
    refine pop_field 0 fld28_0 b2 0 ?_
    refine gy hb215 ?_
    refine rl one24 hL220 0 0 s66c.v ?_
    refine gy hb215 ?_
    refine gy hb215 ?_
    obtain ⟨hi106, H⟩ := H
    refine pop_index sli24 siz33 .i64 s66c s221g hi106 ?_
    refine gy hb215 ?_
    obtain ⟨s244g, hc89, H⟩ := H
    refine rop_one one33 s244g.v hc89 ?_
    refine gy hb215 ?_
    refine pop_len s244g _ _ sli33 ?_
    refine gy hb215 ?_
    refine pop_ieq .i64 _ _ (s244g.n : Int) 0 ?_
    refine pop_pickf' hb215 ?_
    refine guardM_sf (fun hb216 => ?_) (fun hb216 => ?_)
    rotate_left
    ·have H := H.1 hb216
     refine gm hb216 ?_
     refine gm hb216 ?_
     refine gm hb216 ?_
     refine gm hb216 ?_
     refine gm hb216 ?_
     refine gm hb216 ?_
     refine gm hb216 ?_
     refine gm hb216 ?_
     refine gm hb216 ?_
     refine gm hb216 ?_
     refine gm hb216 ?_
     refine gm hb216 ?_
     refine gm hb216 ?_
     refine gm hb216 ?_
     refine gm hb216 ?_
     refine gm hb216 ?_
     refine gm hb216 ?_
     refine gm hb216 ?_
     refine gm hb216 ?_
     refine gm hb216 ?_
     refine gm hb216 ?_
     refine gm hb216 ?_
     refine pop_pickt' hb216 ?_
     refine condM_t ?_
     exact H
    have H := H.2 hb216
    refine pop_field 0 fld26_0 b1 0 ?_
    refine gy hb216 ?_
    refine rl one24 hL220 1 0 s66.v ?_
    refine gy hb216 ?_
    refine gy hb216 ?_
    obtain ⟨hi107, H⟩ := H
    refine pop_index sli24 siz33 .i64 s66 s221g hi107 ?_
    refine gy hb216 ?_
    obtain ⟨s253g, hc88, H⟩ := H
    refine rop_one one33 s253g.v hc88 ?_
    refine gy hb216 ?_
    refine pop_field 0 fld28_0 b2 0 ?_
    refine gy hb216 ?_
    refine rl one24 hL220 0 0 s66c.v ?_
    refine gy hb216 ?_
    refine gy hb216 ?_
    obtain ⟨hi108, H⟩ := H
    refine pop_index sli24 siz33 .i64 s66c s221g hi108 ?_
    refine gy hb216 ?_
    obtain ⟨s258g, hc87, H⟩ := H
    refine rop_one one33 s258g.v hc87 ?_
    refine gy hb216 ?_
    obtain ⟨hi109, H⟩ := H
    refine pop_index sli33 siz3 .i64 s258g 0 hi109 ?_
    refine gy hb216 ?_
    obtain ⟨s260g, hc86, H⟩ := H
    refine rop_one one3 (VI s260g) hc86 ?_
    refine gy hb216 ?_
    obtain ⟨hi110, H⟩ := H
    refine pop_index sli33 siz3 .i64 s253g s260g hi110 ?_
    refine gy hb216 ?_
    obtain ⟨s262g, hc85, H⟩ := H
    refine rop_one one3 (VI s262g) hc85 ?_
    refine gy hb216 ?_
    refine gy hb216 ?_
    refine gy hb216 ?_
    refine pop_add .i64 s217g 1 ?_
    refine gy hb216 ?_
    refine gy hb216 ?_
    refine pop_len s199d _ _ sli33 ?_
    refine gy hb216 ?_
    obtain ⟨hz_7, H⟩ := H
    refine pop_rem .i64 (w64 (s217g + 1)) (s199d.n : Int) hz_7 ?_
    refine gy hb216 ?_
    obtain ⟨hi111, H⟩ := H
    refine pop_index sli33 siz3 .i64 s199d (Int.tmod (w64 (s217g + 1)) (s199d.n : Int)) hi111 ?_
    refine gy hb216 ?_
    obtain ⟨s270g, hc84, H⟩ := H
    refine rop_one one3 (VI s270g) hc84 ?_
    refine gy hb216 ?_
    refine pop_ine .i64 _ _ s262g s270g ?_
    refine pop_pickf' hb216 ?_
    refine condM_b (fun hb217 => ?_) (fun hb217 => ?_)
    ·exact H.1 hb217
    have H := H.2 hb217
    refine H.mono fun r125 H => ?_
    obtain ⟨s275g, rfl, H⟩ := H
    refine H.mono fun r126 H => ?_
    obtain ⟨s276g, rfl, H⟩ := H
    refine pop_add .i64 s217g 1 ?_
    obtain ⟨m_28, hm_28, H⟩ := H
    exact hn21 _ _ ⟨m_28, hm_28, s276g, (w64 (s217g + 1)), rfl, H, hL220⟩
   intro junk38  h223
   rintro ⟨hv, hJ38, hL223⟩
   have H := HB42  h223 hJ38 hL223
   refine H.mono fun r131 h224 H => ?_
   obtain ⟨t309_21, t309_22, t309_23, t309_24, rfl, hL224, H⟩ := H
   refine pop_ext (v := (Value.agg #[t309_21.v])) rfl ?_
   refine pop_ext (v := (VI t309_22)) rfl ?_
   refine pop_ext (v := (Value.agg #[t309_23.v])) rfl ?_
   refine pop_ext (v := (VI t309_24)) rfl ?_
   refine eop_alloc 26 zer26 rfl hL224 (fun b43 h225 hb226 hf85 hL225 => ?_)
   refine eop_alloc 28 zer28 rfl hL225 (fun b44 h226 hb227 hf86 hL226 => ?_)
   refine ul siz26 hL226 1 0 [t309_21.v] [(b44, [nilSl.v]), (b43, [t309_21.v]), (b2, [s66c.v]), (b1, [s66.v])] (fun h227 hf87 hL227 => ?_)
   refine ul siz28 hL227 0 0 [t309_23.v] [(b44, [t309_23.v]), (b43, [t309_21.v]), (b2, [s66c.v]), (b1, [s66.v])] (fun h228 hf88 hL228 => ?_)
   refine ra agg26 hL228 1 0 [t309_21.v] ?_
   refine ra agg28 hL228 0 0 [t309_23.v] ?_
   have H := H b43 b44 h228 hb226 (Nat.le_trans (Fr.size (Fr.no' (Fr.r (In []) _) hf85)) hb227) (Fr.new (Fr.new (Fr.no' (Fr.no' (Fr.r (In []) _) hf85) hf86) hb226 hf87) (Nat.le_trans (Fr.size (Fr.no' (Fr.r (In []) _) hf85)) hb227) hf88) hL228
   refine H.mono fun r132 h229 H => ?_
   obtain ⟨t319_11, t319_12, rfl, hL229, H⟩ := H
   refine pop_ext (v := (Value.agg #[t319_11.v])) rfl ?_
   refine pop_ext (v := (VB t319_12)) rfl ?_
   refine eop_alloc 28 zer28 rfl hL229 (fun b45 h230 hb228 hf89 hL230 => ?_)
   refine ul siz28 hL230 0 0 [t319_11.v] [(b45, [t319_11.v]), (b44, [t309_23.v]), (b43, [t309_21.v]), (b2, [s66c.v]), (b1, [s66.v])] (fun h231 hf90 hL231 => ?_)
   refine ra agg26 hL231 2 0 [t309_21.v] ?_
   refine ra agg28 hL231 1 0 [t309_23.v] ?_
   have H := H b45 h231 hb228 (Fr.new (Fr.no' (Fr.r (In []) _) hf89) hb228 hf90) hL231
   refine H.mono fun r133 h232 H => ?_
   obtain ⟨t327_11, t327_12, rfl, hL232, H⟩ := H
   refine pop_ext (v := (Value.agg #[t327_11.v])) rfl ?_
   refine pop_ext (v := (VB t327_12)) rfl ?_
   refine eop_alloc 28 zer28 rfl hL232 (fun b46 h233 hb229 hf91 hL233 => ?_)
   refine ul siz28 hL233 0 0 [t327_11.v] [(b46, [t327_11.v]), (b45, [t319_11.v]), (b44, [t309_23.v]), (b43, [t309_21.v]), (b2, [s66c.v]), (b1, [s66.v])] (fun h234 hf92 hL234 => ?_)
   refine pop_bne boo4 _ _ t319_12 t327_12 ?_
   refine guardM_sf (fun hb230 => ?_) (fun hb230 => ?_)
   rotate_left
   ·have H := H.1 hb230
    refine gm hb230 ?_
    refine gm hb230 ?_
    refine gm hb230 ?_
    refine pop_pickt' hb230 ?_
    refine condM_t ?_
    have H := H b46 h234 hb229 (Fr.new (Fr.no' (Fr.r (In []) _) hf91) hb229 hf92) hL234
    exact H
   have H := H.2 hb230
   refine ra agg28 hL234 1 0 [t319_11.v] ?_
   refine gy hb230 ?_
   refine ra agg28 hL234 0 0 [t327_11.v] ?_
   refine gy hb230 ?_
   have H := H b46 h234 hb229 (Fr.new (Fr.no' (Fr.r (In []) _) hf91) hb229 hf92) hL234
   refine H.mono fun r134 h235 H => ?_
   obtain ⟨s336f, rfl, hL235, H⟩ := H
   refine gy hb230 ?_
   refine pop_not s336f ?_
   refine pop_pickf' hb230 ?_
   refine condM_b (fun hb231 => ?_) (fun hb231 => ?_)
   ·exact H.1 hb231
   have H := H.2 hb231
   obtain ⟨J39, H, HB41⟩ := H
   refine ⟨fun (vs : List Value) (h' : Heap) => vs = [] /\ J39  h' /\ Vars h' [(b46, [t327_11.v]), (b45, [t319_11.v]), (b44, [t309_23.v]), (b43, [t309_21.v]), (b2, [s66c.v]), (b1, [s66.v])], ?_, ?_⟩
   ·refine condM_b (fun hb232 => ?_) (fun hb232 => ?_)
    rotate_left
    ·have H := H.2 hb232
     exact ⟨rfl, H, hL235⟩
    have H := H.1 hb232
    refine ra agg26 hL235 3 0 [t309_21.v] ?_
    refine ra agg28 hL235 2 0 [t309_23.v] ?_
    refine H.mono fun r135 h236 H => ?_
    obtain ⟨t344_11, t344_12, rfl, hL236, H⟩ := H
    refine pop_ext (v := t344_11.v) rfl ?_
    refine pop_ext (v := (VB t344_12)) rfl ?_
    refine pop_len t344_11 _ _ sli24 ?_
    obtain ⟨J40, ⟨n48, h0_24⟩, HB40⟩ := H
    refine loop_intro (J := fun (n : Nat) (vs : List Value) (h' : Heap) => ∃ own41_6 : Sl, ∃ s349f : Int, vs = [own41_6.v, (VI s349f)] /\ J40 n own41_6 s349f h' /\ Vars h' [(b46, [t327_11.v]), (b45, [t319_11.v]), (b44, [t309_23.v]), (b43, [t309_21.v]), (b2, [s66c.v]), (b1, [s66.v])]) n48 ⟨nilSl, 0, rfl, h0_24, hL236⟩ ?_
    intro I24 mu24 hI24 junk39 tv47 tv48 h237 hi122
    obtain ⟨n45, ⟨own41_6, s349f, hv, hJ39, hL237⟩, hn23⟩ := hI24 _ _ hi122
    cases hv
    have H := HB40 n45 own41_6 s349f h237 hJ39 hL237
    refine pop_lss .i64 s349f (t344_11.n : Int) ?_
    refine condM_b (fun hb233 => ?_) (fun hb233 => ?_)
    ·have H := H.1 hb233
     obtain ⟨hi123, H⟩ := H
     refine pop_index sli24 siz33 .i64 t344_11 s349f hi123 ?_
     obtain ⟨s352f, hc105, H⟩ := H
     refine rop_one one33 s352f.v hc105 ?_
     refine H.mono fun r136 h238 H => ?_
     obtain ⟨s355f, rfl, hL238, H⟩ := H
     refine condM_b (fun hb234 => ?_) (fun hb234 => ?_)
     ·have H := H.1 hb234
      refine pop_add .i64 s349f 1 ?_
      obtain ⟨m_32, hm_32, H⟩ := H
      exact hn23 _ _ ⟨m_32, hm_32, s352f, (w64 (s349f + 1)), rfl, H, hL238⟩
     have H := H.2 hb234
     refine pop_add .i64 s349f 1 ?_
     obtain ⟨m_33, hm_33, H⟩ := H
     exact hn23 _ _ ⟨m_33, hm_33, own41_6, (w64 (s349f + 1)), rfl, H, hL238⟩
    have H := H.2 hb233
    refine pop_not t344_12 ?_
    refine guardM_sf (fun hb235 => ?_) (fun hb235 => ?_)
    rotate_left
    ·have H := H.1 hb235
     refine gm hb235 ?_
     refine gm hb235 ?_
     refine pop_pickt' hb235 ?_
     refine condM_t ?_
     exact H
    have H := H.2 hb235
    refine gy hb235 ?_
    refine pop_len own41_6 _ _ sli33 ?_
    refine gy hb235 ?_
    refine pop_ieq .i64 _ _ (own41_6.n : Int) 0 ?_
    refine pop_pickf' hb235 ?_
    refine condM_b (fun hb236 => ?_) (fun hb236 => ?_)
    ·exact H.1 hb236
    have H := H.2 hb236
    refine pop_field 0 fld26_0 b43 0 ?_
    refine rl one24 hL237 3 0 t309_21.v ?_
    refine pop_len t309_21 _ _ sli24 ?_
    obtain ⟨J41, ⟨n47, h0_23⟩, HB39⟩ := H
    refine loop_intro (J := fun (n : Nat) (vs : List Value) (h' : Heap) => ∃ s368f : Int, vs = [(VI s368f)] /\ J41 n s368f h' /\ Vars h' [(b46, [t327_11.v]), (b45, [t319_11.v]), (b44, [t309_23.v]), (b43, [t309_21.v]), (b2, [s66c.v]), (b1, [s66.v])]) n47 ⟨0, rfl, h0_23, hL237⟩ ?_
    intro I23 mu23 hI23 junk40 tv46 h239 hi124
    obtain ⟨n46, ⟨s368f, hv, hJ40, hL239⟩, hn24⟩ := hI23 _ _ hi124
    cases hv
    have H := HB39 n46 s368f h239 hJ40 hL239
    refine pop_lss .i64 s368f (t309_21.n : Int) ?_
    refine condM_b (fun hb237 => ?_) (fun hb237 => ?_)
    rotate_left
    ·have H := H.2 hb237
     exact ⟨rfl, H, hL239⟩
    have H := H.1 hb237
    obtain ⟨J42, H, HB38⟩ := H
    refine ⟨fun (vs : List Value) (h' : Heap) => ∃ y6 : Int, vs = [(VI y6)] /\ J42 y6 h' /\ Vars h' [(b46, [t327_11.v]), (b45, [t319_11.v]), (b44, [t309_23.v]), (b43, [t309_21.v]), (b2, [s66c.v]), (b1, [s66.v])], ?_, ?_⟩
    ·refine H.mono fun r137 h240 H => ?_
     obtain ⟨s373f, rfl, hL240, H⟩ := H
     refine condM_b (fun hb238 => ?_) (fun hb238 => ?_)
     ·have H := H.1 hb238
      exact ⟨1, rfl, H, hL240⟩
     have H := H.2 hb238
     exact ⟨0, rfl, H, hL240⟩
    intro junk41 tv45 h241
    rintro ⟨y6, hv, hJ41, hL241⟩
    cases hv
    have H := HB38 y6 h241 hJ41 hL241
    refine pop_field 0 fld28_0 b45 0 ?_
    refine rl one24 hL241 1 0 t319_11.v ?_
    obtain ⟨hi125, H⟩ := H
    refine pop_index sli24 siz33 .i64 t319_11 s368f hi125 ?_
    obtain ⟨s378f, hc108, H⟩ := H
    refine rop_one one33 s378f.v hc108 ?_
    refine pop_field 0 fld28_0 b44 0 ?_
    refine rl one24 hL241 2 0 t309_23.v ?_
    obtain ⟨hi126, H⟩ := H
    refine pop_index sli24 siz33 .i64 t309_23 s368f hi126 ?_
    obtain ⟨s383f, hc107, H⟩ := H
    refine rop_one one33 s383f.v hc107 ?_
    refine H.mono fun r138 H => ?_
    obtain ⟨s385f, rfl, H⟩ := H
    refine H.mono fun r139 h242 H => ?_
    obtain ⟨s386f, rfl, hL242, H⟩ := H
    refine ⟨?_, ?_⟩
    ·exact still_one one33 H.1
    obtain ⟨hc106, H⟩ := H
    refine ⟨?_, ?_⟩
    ·exact still_loc one24 hL242 2 rfl 0 (v := t309_23.v) rfl
    refine ⟨?_, ?_⟩
    ·exact still_loc one24 hL242 1 rfl 0 (v := t319_11.v) rfl
    refine pop_not s386f ?_
    refine condM_b (fun hb239 => ?_) (fun hb239 => ?_)
    ·exact H.1 hb239
    have H := H.2 hb239
    refine pop_add .i64 s368f 1 ?_
    obtain ⟨m_34, hm_34, H⟩ := H
    exact hn24 _ _ ⟨m_34, hm_34, (w64 (s368f + 1)), rfl, H, hL242⟩
   intro junk42  h243
   rintro ⟨hv, hJ42, hL243⟩
   have H := HB41  h243 hJ42 hL243
   refine H.mono fun r140 h244 H => ?_
   obtain ⟨t391_21, t391_22, t391_23, t391_24, rfl, hL244, H⟩ := H
   refine pop_ext (v := (Value.agg #[t391_21.v])) rfl ?_
   refine pop_ext (v := (VI t391_22)) rfl ?_
   refine pop_ext (v := t391_23.v) rfl ?_
   refine pop_ext (v := (VI t391_24)) rfl ?_
   refine eop_alloc 26 zer26 rfl hL244 (fun b47 h245 hb240 hf93 hL245 => ?_)
   refine ul siz26 hL245 0 0 [t391_21.v] [(b47, [t391_21.v]), (b46, [t327_11.v]), (b45, [t319_11.v]), (b44, [t309_23.v]), (b43, [t309_21.v]), (b2, [s66c.v]), (b1, [s66.v])] (fun h246 hf94 hL246 => ?_)
   refine ra agg26 hL246 0 0 [t391_21.v] ?_
   have H := H b47 h246 hb240 (Fr.new (Fr.no' (Fr.r (In []) _) hf93) hb240 hf94) hL246
   refine H.mono fun r141 h247 H => ?_
   obtain ⟨t401_11, t401_12, rfl, hL247, H⟩ := H
   refine pop_ext (v := (Value.agg #[t401_11.v])) rfl ?_
   refine pop_ext (v := (VB t401_12)) rfl ?_
   refine eop_alloc 28 zer28 rfl hL247 (fun b48 h248 hb241 hf95 hL248 => ?_)
   refine ul siz28 hL248 0 0 [t401_11.v] [(b48, [t401_11.v]), (b47, [t391_21.v]), (b46, [t327_11.v]), (b45, [t319_11.v]), (b44, [t309_23.v]), (b43, [t309_21.v]), (b2, [s66c.v]), (b1, [s66.v])] (fun h249 hf96 hL249 => ?_)
   refine ra agg26 hL249 1 0 [t391_21.v] ?_
   have H := H b48 h249 hb241 (Fr.new (Fr.no' (Fr.r (In []) _) hf95) hb241 hf96) hL249
   refine H.mono fun r142 h250 H => ?_
   obtain ⟨t409_11, t409_12, rfl, hL250, H⟩ := H
   refine pop_ext (v := (Value.agg #[t409_11.v])) rfl ?_
   refine pop_ext (v := (VB t409_12)) rfl ?_
   refine eop_alloc 28 zer28 rfl hL250 (fun b49 h251 hb242 hf97 hL251 => ?_)
   refine ul siz28 hL251 0 0 [t409_11.v] [(b49, [t409_11.v]), (b48, [t401_11.v]), (b47, [t391_21.v]), (b46, [t327_11.v]), (b45, [t319_11.v]), (b44, [t309_23.v]), (b43, [t309_21.v]), (b2, [s66c.v]), (b1, [s66.v])] (fun h252 hf98 hL252 => ?_)
   have H := H b49 h252 hb242 (Fr.new (Fr.no' (Fr.r (In []) _) hf97) hb242 hf98) hL252
   refine H.mono fun r143 h253 H => ?_
   obtain ⟨s413f, rfl, hL253, H⟩ := H
   refine eop_alloc 28 zer28 rfl hL253 (fun b50 h254 hb243 hf99 hL254 => ?_)
   refine ul siz28 hL254 0 0 [s413f.v] [(b50, [s413f.v]), (b49, [t409_11.v]), (b48, [t401_11.v]), (b47, [t391_21.v]), (b46, [t327_11.v]), (b45, [t319_11.v]), (b44, [t309_23.v]), (b43, [t309_21.v]), (b2, [s66c.v]), (b1, [s66.v])] (fun h255 hf100 hL255 => ?_)
   refine ra agg28 hL255 0 0 [s413f.v] ?_
   have H := H b50 h255 hb243 (Fr.new (Fr.no' (Fr.r (In []) _) hf99) hb243 hf100) hL255
   refine H.mono fun r144 h256 H => ?_
   obtain ⟨t416_11, t416_12, rfl, hL256, H⟩ := H
   refine pop_ext (v := (VS t416_11)) rfl ?_
   refine pop_ext (v := (VB t416_12)) rfl ?_
   refine ra agg28 hL256 0 0 [s413f.v] ?_
   refine H.mono fun r145 h257 H => ?_
   obtain ⟨t421_11, t421_12, rfl, hL257, H⟩ := H
   refine pop_ext (v := (VS t421_11)) rfl ?_
   refine pop_ext (v := (VB t421_12)) rfl ?_
   refine pop_bne boo4 _ _ t401_12 t409_12 ?_
   refine guardM_sf (fun hb244 => ?_) (fun hb244 => ?_)
   rotate_left
   ·have H := H.1 hb244
    refine gm hb244 ?_
    refine gm hb244 ?_
    refine gm hb244 ?_
    refine pop_pickt' hb244 ?_
    refine gn ?_
    refine gn ?_
    refine gn ?_
    refine pop_pickt _ _ ?_
    refine gn ?_
    refine gn ?_
    refine gn ?_
    refine pop_pickt _ _ ?_
    refine condM_t ?_
    exact H
   have H := H.2 hb244
   refine ra agg28 hL257 2 0 [t401_11.v] ?_
   refine gy hb244 ?_
   refine ra agg28 hL257 1 0 [t409_11.v] ?_
   refine gy hb244 ?_
   refine H.mono fun r146 h258 H => ?_
   obtain ⟨s430f, rfl, hL258, H⟩ := H
   refine gy hb244 ?_
   refine pop_not s430f ?_
   refine pop_pickf' hb244 ?_
   refine guardM_sf (fun hb245 => ?_) (fun hb245 => ?_)
   rotate_left
   ·have H := H.1 hb245
    refine gm hb245 ?_
    refine gm hb245 ?_
    refine pop_pickt' hb245 ?_
    refine gn ?_
    refine gn ?_
    refine gn ?_
    refine pop_pickt _ _ ?_
    refine condM_t ?_
    exact H
   have H := H.2 hb245
   refine gy hb245 ?_
   refine gy hb245 ?_
   refine pop_bne boo4 _ _ t416_12 t421_12 ?_
   refine pop_pickf' hb245 ?_
   refine guardM_sf (fun hb246 => ?_) (fun hb246 => ?_)
   rotate_left
   ·have H := H.1 hb246
    refine gm hb246 ?_
    refine gm hb246 ?_
    refine pop_pickt' hb246 ?_
    refine condM_t ?_
    exact H
   have H := H.2 hb246
   refine gy hb246 ?_
   refine gy hb246 ?_
   refine pop_sne _ _ t416_11 t421_11 ?_
   refine pop_pickf' hb246 ?_
   refine condM_b (fun hb247 => ?_) (fun hb247 => ?_)
   ·exact H.1 hb247
   have H := H.2 hb247
   refine condM_b (fun hb248 => ?_) (fun hb248 => ?_)
   rotate_left
   ·exact H.2 hb248
   have H := H.1 hb248
   refine ra agg26 hL258 3 0 [t391_21.v] ?_
   refine ra agg28 hL258 2 0 [t401_11.v] ?_
   refine H.mono fun r147 h259 H => ?_
   obtain ⟨t448_11, t448_12, rfl, hL259, H⟩ := H
   refine pop_ext (v := (VB t448_11)) rfl ?_
   refine pop_ext (v := (VB t448_12)) rfl ?_
   refine guardM_st (fun hb249 => ?_) (fun hb249 => ?_)
   ·have H := H.1 hb249
    refine pop_pickt' hb249 ?_
    exact H
   have H := H.2 hb249
   refine pop_pickf' hb249 ?_
   exact H
  have H := H.1 hb160
  refine gy hb160 ?_
  refine pop_not s74b ?_
  refine gy hb159 ?_
  refine pop_pickt' hb160 ?_
  refine pop_pickf' hb159 ?_
  refine condM_b (fun hb161 => ?_) (fun hb161 => ?_)
  ·exact H.1 hb161
  have H := H.2 hb161
  obtain ⟨J27, H, HB34⟩ := H
  refine ⟨fun (vs : List Value) (h' : Heap) => vs = [] /\ J27  h' /\ Vars h' [(b2, [s66c.v]), (b1, [s66.v])], ?_, ?_⟩
  ·refine condM_t' hb158 ?_
   refine pop_len s74 _ _ sli24 ?_
   obtain ⟨J28, ⟨n34, h0_17⟩, HB29⟩ := H
   refine loop_intro (J := fun (n : Nat) (vs : List Value) (h' : Heap) => ∃ seen24_7 : Int, ∃ s195c : Int, vs = [(VI seen24_7), (VI s195c)] /\ J28 n seen24_7 s195c h' /\ Vars h' [(b2, [s66c.v]), (b1, [s66.v])]) n34 ⟨0, 0, rfl, h0_17, hL17⟩ ?_
   intro I17 mu17 hI17 junk27 tv33 tv34 h176 hi69
   obtain ⟨n29, ⟨seen24_7, s195c, hv, hJ27, hL176⟩, hn15⟩ := hI17 _ _ hi69
   cases hv
   have H := HB29 n29 seen24_7 s195c h176 hJ27 hL176
   refine pop_lss .i64 s195c (s74.n : Int) ?_
   refine condM_b (fun hb162 => ?_) (fun hb162 => ?_)
   rotate_left
   ·have H := H.2 hb162
    refine guardM_st (fun hb177 => ?_) (fun hb177 => ?_)
    rotate_left
    ·have H := H.2 hb177
     refine gm hb177 ?_
     refine gm hb177 ?_
     refine gm hb177 ?_
     refine gm hb177 ?_
     refine gm hb177 ?_
     refine pop_pickf' hb177 ?_
     refine condM_f ?_
     refine gy hb160 ?_
     refine gy hb160 ?_
     refine pop_len s74 _ _ sli24 ?_
     refine gy hb160 ?_
     refine pop_ieq .i64 _ _ (s74.n : Int) 0 ?_
     refine pop_pickt' hb160 ?_
     refine condM_b (fun hb182 => ?_) (fun hb182 => ?_)
     rotate_left
     ·have H := H.2 hb182
      exact ⟨rfl, H, hL176⟩
     have H := H.1 hb182
     refine ra agg26 hL176 1 0 [s66.v] ?_
     refine H.mono fun r106 h181 H => ?_
     obtain ⟨s298g, s298h, rfl, hL181, H⟩ := H
     refine pop_ext (v := (VB s298g)) rfl ?_
     refine pop_ext (v := (VB s298h)) rfl ?_
     refine pop_not s298h ?_
     refine guardM_sf (fun hb183 => ?_) (fun hb183 => ?_)
     rotate_left
     ·have H := H.1 hb183
      refine gm hb183 ?_
      refine pop_pickt' hb183 ?_
      refine condM_t ?_
      exact H
     have H := H.2 hb183
     refine gy hb183 ?_
     refine pop_not s298g ?_
     refine pop_pickf' hb183 ?_
     refine condM_b (fun hb184 => ?_) (fun hb184 => ?_)
     ·exact H.1 hb184
     have H := H.2 hb184
     exact ⟨rfl, H, hL181⟩
    have H := H.1 hb177
    refine gy hb177 ?_
    refine gy hb177 ?_
    obtain ⟨hi92, H⟩ := H
    refine pop_index sli24 siz33 .i64 s74 0 hi92 ?_
    refine gy hb177 ?_
    obtain ⟨s284c, hc79, H⟩ := H
    refine rop_one one33 s284c.v hc79 ?_
    refine gy hb177 ?_
    refine H.mono fun r104 h179 H => ?_
    obtain ⟨s285c, rfl, hL179, H⟩ := H
    refine gy hb177 ?_
    refine pop_not s285c ?_
    refine pop_pickt' hb177 ?_
    refine condM_b (fun hb178 => ?_) (fun hb178 => ?_)
    ·exact H.1 hb178
    have H := H.2 hb178
    refine gy hb160 ?_
    refine gy hb160 ?_
    refine pop_len s74 _ _ sli24 ?_
    refine gy hb160 ?_
    refine pop_ieq .i64 _ _ (s74.n : Int) 0 ?_
    refine pop_pickt' hb160 ?_
    refine condM_b (fun hb179 => ?_) (fun hb179 => ?_)
    rotate_left
    ·have H := H.2 hb179
     exact ⟨rfl, H, hL179⟩
    have H := H.1 hb179
    refine ra agg26 hL179 1 0 [s66.v] ?_
    refine H.mono fun r105 h180 H => ?_
    obtain ⟨s298e, s298f, rfl, hL180, H⟩ := H
    refine pop_ext (v := (VB s298e)) rfl ?_
    refine pop_ext (v := (VB s298f)) rfl ?_
    refine pop_not s298f ?_
    refine guardM_sf (fun hb180 => ?_) (fun hb180 => ?_)
    rotate_left
    ·have H := H.1 hb180
     refine gm hb180 ?_
     refine pop_pickt' hb180 ?_
     refine condM_t ?_
     exact H
    have H := H.2 hb180
    refine gy hb180 ?_
    refine pop_not s298e ?_
    refine pop_pickf' hb180 ?_
    refine condM_b (fun hb181 => ?_) (fun hb181 => ?_)
    ·exact H.1 hb181
    have H := H.2 hb181
    exact ⟨rfl, H, hL180⟩
   have H := H.1 hb162
   obtain ⟨hi70, H⟩ := H
   refine pop_index sli24 siz33 .i64 s74 s195c hi70 ?_
   obtain ⟨s199c, hc78, H⟩ := H
   refine rop_one one33 s199c.v hc78 ?_
   refine pop_gtr .i64 s195c 0 ?_
   refine guardM_st (fun hb163 => ?_) (fun hb163 => ?_)
   rotate_left
   ·have H := H.2 hb163
    refine gm hb163 ?_
    refine gm hb163 ?_
    refine gm hb163 ?_
    refine gm hb163 ?_
    refine gm hb163 ?_
    refine gm hb163 ?_
    refine gm hb163 ?_
    refine gm hb163 ?_
    refine gm hb163 ?_
    refine gm hb163 ?_
    refine pop_pickf' hb163 ?_
    refine condM_f ?_
    refine pop_len s199c _ _ sli33 ?_
    obtain ⟨J30, ⟨n33, h0_16⟩, HB28⟩ := H
    refine loop_intro (J := fun (n : Nat) (vs : List Value) (h' : Heap) => ∃ seen24_9 : Int, ∃ s217f : Int, vs = [(VI seen24_9), (VI s217f)] /\ J30 n seen24_9 s217f h' /\ Vars h' [(b2, [s66c.v]), (b1, [s66.v])]) n33 ⟨seen24_7, 0, rfl, h0_16, hL176⟩ ?_
    intro I16 mu16 hI16 junk29 tv31 tv32 h178 hi83
    obtain ⟨n32, ⟨seen24_9, s217f, hv, hJ29, hL178⟩, hn17⟩ := hI16 _ _ hi83
    cases hv
    have H := HB28 n32 seen24_9 s217f h178 hJ29 hL178
    refine pop_lss .i64 s217f (s199c.n : Int) ?_
    refine condM_b (fun hb171 => ?_) (fun hb171 => ?_)
    rotate_left
    ·have H := H.2 hb171
     refine pop_add .i64 s195c 1 ?_
     obtain ⟨m_24, hm_24, H⟩ := H
     exact hn15 _ _ ⟨m_24, hm_24, seen24_9, (w64 (s195c + 1)), rfl, H, hL178⟩
    have H := H.1 hb171
    obtain ⟨hi84, H⟩ := H
    refine pop_index sli33 siz3 .i64 s199c s217f hi84 ?_
    obtain ⟨s221f, hc77, H⟩ := H
    refine rop_one one3 (VI s221f) hc77 ?_
    obtain ⟨hi85, H⟩ := H
    refine pop_index sli33 siz3 .i64 s199c 0 hi85 ?_
    obtain ⟨s225f, hc76, H⟩ := H
    refine rop_one one3 (VI s225f) hc76 ?_
    refine pop_lss .i64 s221f s225f ?_
    refine guardM_sf (fun hb172 => ?_) (fun hb172 => ?_)
    rotate_left
    ·have H := H.1 hb172
     refine gm hb172 ?_
     refine gm hb172 ?_
     refine pop_pickt' hb172 ?_
     refine gn ?_
     refine gn ?_
     refine gn ?_
     refine gn ?_
     refine gn ?_
     refine pop_pickt _ _ ?_
     refine gn ?_
     refine gn ?_
     refine gn ?_
     refine gn ?_
     refine gn ?_
     refine gn ?_
     refine gn ?_
     refine pop_pickt _ _ ?_
     refine gn ?_
     refine gn ?_
     refine gn ?_
     refine gn ?_
     refine gn ?_
     refine gn ?_
     refine gn ?_
     refine gn ?_
     refine gn ?_
     refine gn ?_
     refine gn ?_
     refine gn ?_
     refine gn ?_
     refine gn ?_
     refine gn ?_
     refine gn ?_
     refine gn ?_
     refine gn ?_
     refine gn ?_
     refine gn ?_
     refine gn ?_
     refine gn ?_
     refine gn ?_
     refine pop_pickt _ _ ?_
     refine condM_t ?_
     exact H
    have H := H.2 hb172
    refine gy hb172 ?_
    refine gy hb172 ?_
    refine pop_ieq .i64 _ _ s221f s66b ?_
    refine pop_pickf' hb172 ?_
    refine guardM_sf (fun hb173 => ?_) (fun hb173 => ?_)
    rotate_left
    ·have H := H.1 hb173
     refine gm hb173 ?_
     refine gm hb173 ?_
     refine gm hb173 ?_
     refine gm hb173 ?_
     refine pop_pickt' hb173 ?_
     refine gn ?_
     refine gn ?_
     refine gn ?_
     refine gn ?_
     refine gn ?_
     refine gn ?_
     refine gn ?_
     refine pop_pickt _ _ ?_
     refine gn ?_
     refine gn ?_
     refine gn ?_
     refine gn ?_
     refine gn ?_
     refine gn ?_
     refine gn ?_
     refine gn ?_
     refine gn ?_
     refine gn ?_
     refine gn ?_
     refine gn ?_
     refine gn ?_
     refine gn ?_
     refine gn ?_
     refine gn ?_
     refine gn ?_
     refine gn ?_
     refine gn ?_
     refine gn ?_
     refine gn ?_
     refine gn ?_
     refine gn ?_
     refine pop_pickt _ _ ?_
     refine condM_t ?_
     exact H
    have H := H.2 hb173
    refine gy hb173 ?_
    refine gy hb173 ?_
    refine H.mono fun r101 H => ?_
    obtain ⟨s235f, rfl, H⟩ := H
    refine gy hb173 ?_
    refine pop_rem .i64 s235f 2 (by decide) ?_
    refine gy hb173 ?_
    refine pop_ieq .i64 _ _ (Int.tmod s235f 2) 1 ?_
    refine pop_pickf' hb173 ?_
    refine guardM_sf (fun hb174 => ?_) (fun hb174 => ?_)
    rotate_left
    ·have H := H.1 hb174
     refine gm hb174 ?_
     refine gm hb174 ?_
     refine gm hb174 ?_
     refine gm hb174 ?_
     refine gm hb174 ?_
     refine gm hb174 ?_
     refine pop_pickt' hb174 ?_
     refine gn ?_
     refine gn ?_
     refine gn ?_
     refine gn ?_
     refine gn ?_
     refine gn ?_
     refine gn ?_
     refine gn ?_
     refine gn ?_
     refine gn ?_
     refine gn ?_
     refine gn ?_
     refine gn ?_
     refine gn ?_
     refine gn ?_
     refine gn ?_
     refine gn ?_
     refine gn ?_
     refine gn ?_
     refine gn ?_
     refine gn ?_
     refine gn ?_
     refine gn ?_
     refine pop_pickt _ _ ?_
     refine condM_t ?_
     exact H
    have H := H.2 hb174
    refine pop_field 0 fld28_0 b2 0 ?_
    refine gy hb174 ?_
    refine rl one24 hL178 0 0 s66c.v ?_
    refine gy hb174 ?_
    refine gy hb174 ?_
    obtain ⟨hi86, H⟩ := H
    refine pop_index sli24 siz33 .i64 s66c s221f hi86 ?_
    refine gy hb174 ?_
    obtain ⟨s244f, hc75, H⟩ := H
    refine rop_one one33 s244f.v hc75 ?_
    refine gy hb174 ?_
    refine pop_len s244f _ _ sli33 ?_
    refine gy hb174 ?_
    refine pop_ieq .i64 _ _ (s244f.n : Int) 0 ?_
    refine pop_pickf' hb174 ?_
    refine guardM_sf (fun hb175 => ?_) (fun hb175 => ?_)
    rotate_left
    ·have H := H.1 hb175
     refine gm hb175 ?_
     refine gm hb175 ?_
     refine gm hb175 ?_
     refine gm hb175 ?_
     refine gm hb175 ?_
     refine gm hb175 ?_
     refine gm hb175 ?_
     refine gm hb175 ?_
     refine gm hb175 ?_
     refine gm hb175 ?_
     refine gm hb175 ?_
     refine gm hb175 ?_
     refine gm hb175 ?_
     refine gm hb175 ?_
     refine gm hb175 ?_
     refine gm hb175 ?_
     refine gm hb175 ?_
     refine gm hb175 ?_
     refine gm hb175 ?_
     refine gm hb175 ?_
     refine gm hb175 ?_
     refine gm hb175 ?_
     refine pop_pickt' hb175 ?_
     refine condM_t ?_
     exact H
    have H := H.2 hb175
    refine pop_field 0 fld26_0 b1 0 ?_
    refine gy hb175 ?_
    refine rl one24 hL178 1 0 s66.v ?_
    refine gy hb175 ?_
    refine gy hb175 ?_
    obtain ⟨hi87, H⟩ := H
    refine pop_index sli24 siz33 .i64 s66 s221f hi87 ?_
    refine gy hb175 ?_
    obtain ⟨s253f, hc74, H⟩ := H
    refine rop_one one33 s253f.v hc74 ?_
    refine gy hb175 ?_
    refine pop_field 0 fld28_0 b2 0 ?_
    refine gy hb175 ?_
    refine rl one24 hL178 0 0 s66c.v ?_
    refine gy hb175 ?_
    refine gy hb175 ?_
    obtain ⟨hi88, H⟩ := H
    refine pop_index sli24 siz33 .i64 s66c s221f hi88 ?_
    refine gy hb175 ?_
    obtain ⟨s258f, hc73, H⟩ := H
    refine rop_one one33 s258f.v hc73 ?_
    refine gy hb175 ?_
    obtain ⟨hi89, H⟩ := H
    refine pop_index sli33 siz3 .i64 s258f 0 hi89 ?_
    refine gy hb175 ?_
    obtain ⟨s260f, hc72, H⟩ := H
    refine rop_one one3 (VI s260f) hc72 ?_
    refine gy hb175 ?_
    obtain ⟨hi90, H⟩ := H
    refine pop_index sli33 siz3 .i64 s253f s260f hi90 ?_
    refine gy hb175 ?_
    obtain ⟨s262f, hc71, H⟩ := H
    refine rop_one one3 (VI s262f) hc71 ?_
    refine gy hb175 ?_
    refine gy hb175 ?_
    refine gy hb175 ?_
    refine pop_add .i64 s217f 1 ?_
    refine gy hb175 ?_
    refine gy hb175 ?_
    refine pop_len s199c _ _ sli33 ?_
    refine gy hb175 ?_
    obtain ⟨hz_6, H⟩ := H
    refine pop_rem .i64 (w64 (s217f + 1)) (s199c.n : Int) hz_6 ?_
    refine gy hb175 ?_
    obtain ⟨hi91, H⟩ := H
    refine pop_index sli33 siz3 .i64 s199c (Int.tmod (w64 (s217f + 1)) (s199c.n : Int)) hi91 ?_
    refine gy hb175 ?_
    obtain ⟨s270f, hc70, H⟩ := H
    refine rop_one one3 (VI s270f) hc70 ?_
    refine gy hb175 ?_
    refine pop_ine .i64 _ _ s262f s270f ?_
    refine pop_pickf' hb175 ?_
    refine condM_b (fun hb176 => ?_) (fun hb176 => ?_)
    ·exact H.1 hb176
    have H := H.2 hb176
    refine H.mono fun r102 H => ?_
    obtain ⟨s275f, rfl, H⟩ := H
    refine H.mono fun r103 H => ?_
    obtain ⟨s276f, rfl, H⟩ := H
    refine pop_add .i64 s217f 1 ?_
    obtain ⟨m_23, hm_23, H⟩ := H
    exact hn17 _ _ ⟨m_23, hm_23, s276f, (w64 (s217f + 1)), rfl, H, hL178⟩
   have H := H.1 hb163
   refine gy hb163 ?_
   refine gy hb163 ?_
   refine pop_sub .i64 s195c 1 ?_
   refine gy hb163 ?_
   obtain ⟨hi71, H⟩ := H
   refine pop_index sli24 siz33 .i64 s74 (w64 (s195c - 1)) hi71 ?_
   refine gy hb163 ?_
   obtain ⟨s207c, hc69, H⟩ := H
   refine rop_one one33 s207c.v hc69 ?_
   refine gy hb163 ?_
   obtain ⟨hi72, H⟩ := H
   refine pop_index sli33 siz3 .i64 s207c 0 hi72 ?_
   refine gy hb163 ?_
   obtain ⟨s209c, hc68, H⟩ := H
   refine rop_one one3 (VI s209c) hc68 ?_
   refine gy hb163 ?_
   refine gy hb163 ?_
   obtain ⟨hi73, H⟩ := H
   refine pop_index sli33 siz3 .i64 s199c 0 hi73 ?_
   refine gy hb163 ?_
   obtain ⟨s212c, hc67, H⟩ := H
   refine rop_one one3 (VI s212c) hc67 ?_
   refine gy hb163 ?_
   refine pop_geq .i64 s209c s212c ?_
   refine pop_pickt' hb163 ?_
   refine condM_b (fun hb164 => ?_) (fun hb164 => ?_)
   ·exact H.1 hb164
   have H := H.2 hb164
   refine pop_len s199c _ _ sli33 ?_
   obtain ⟨J29, ⟨n31, h0_15⟩, HB27⟩ := H
   refine loop_intro (J := fun (n : Nat) (vs : List Value) (h' : Heap) => ∃ seen24_8 : Int, ∃ s217e : Int, vs = [(VI seen24_8), (VI s217e)] /\ J29 n seen24_8 s217e h' /\ Vars h' [(b2, [s66c.v]), (b1, [s66.v])]) n31 ⟨seen24_7, 0, rfl, h0_15, hL176⟩ ?_
   intro I15 mu15 hI15 junk28 tv29 tv30 h177 hi74
   obtain ⟨n30, ⟨seen24_8, s217e, hv, hJ28, hL177⟩, hn16⟩ := hI15 _ _ hi74
   cases hv
   have H := HB27 n30 seen24_8 s217e h177 hJ28 hL177
   refine pop_lss .i64 s217e (s199c.n : Int) ?_
   refine condM_b (fun hb165 => ?_) (fun hb165 => ?_)
   rotate_left
   ·have H := H.2 hb165
    refine pop_add .i64 s195c 1 ?_
    obtain ⟨m_22, hm_22, H⟩ := H
    exact hn15 _ _ ⟨m_22, hm_22, seen24_8, (w64 (s195c + 1)), rfl, H, hL177⟩
   have H := H.1 hb165
   obtain ⟨hi75, H⟩ := H
   refine pop_index sli33 siz3 .i64 s199c s217e hi75 ?_
   obtain ⟨s221e, hc66, H⟩ := H
   refine rop_one one3 (VI s221e) hc66 ?_
   obtain ⟨hi76, H⟩ := H
   refine pop_index sli33 siz3 .i64 s199c 0 hi76 ?_
   obtain ⟨s225e, hc65, H⟩ := H
   refine rop_one one3 (VI s225e) hc65 ?_
   refine pop_lss .i64 s221e s225e ?_
   refine guardM_sf (fun hb166 => ?_) (fun hb166 => ?_)
   rotate_left
   ·have H := H.1 hb166
    refine gm hb166 ?_
    refine gm hb166 ?_
    refine pop_pickt' hb166 ?_
    refine gn ?_
    refine gn ?_
    refine gn ?_
    refine gn ?_
    refine gn ?_
    refine pop_pickt _ _ ?_
    refine gn ?_
    refine gn ?_
    refine gn ?_
    refine gn ?_
    refine gn ?_
    refine gn ?_
    refine gn ?_
    refine pop_pickt _ _ ?_
    refine gn ?_
    refine gn ?_
    refine gn ?_
    refine gn ?_
    refine gn ?_
    refine gn ?_
    refine gn ?_
    refine gn ?_
    refine gn ?_
    refine gn ?_
    refine gn ?_
    refine gn ?_
    refine gn ?_
    refine gn ?_
    refine gn ?_
    refine gn ?_
    refine gn ?_
    refine gn ?_
    refine gn ?_
    refine gn ?_
    refine gn ?_
    refine gn ?_
    refine gn ?_
    refine pop_pickt _ _ ?_
    refine condM_t ?_
    exact H
   have H := H.2 hb166
   refine gy hb166 ?_
   refine gy hb166 ?_
   refine pop_ieq .i64 _ _ s221e s66b ?_
   refine pop_pickf' hb166 ?_
   refine guardM_sf (fun hb167 => ?_) (fun hb167 => ?_)
   rotate_left
   ·have H := H.1 hb167
    refine gm hb167 ?_
    refine gm hb167 ?_
    refine gm hb167 ?_
    refine gm hb167 ?_
    refine pop_pickt' hb167 ?_
    refine gn ?_
    refine gn ?_
    refine gn ?_
    refine gn ?_
    refine gn ?_
    refine gn ?_
    refine gn ?_
    refine pop_pickt _ _ ?_
    refine gn ?_
    refine gn ?_
    refine gn ?_
    refine gn ?_
    refine gn ?_
    refine gn ?_
    refine gn ?_
    refine gn ?_
    refine gn ?_
    refine gn ?_
    refine gn ?_
    refine gn ?_
    refine gn ?_
    refine gn ?_
    refine gn ?_
    refine gn ?_
    refine gn ?_
    refine gn ?_
    refine gn ?_
    refine gn ?_
    refine gn ?_
    refine gn ?_
    refine gn ?_
    refine pop_pickt _ _ ?_
    refine condM_t ?_
    exact H
   have H := H.2 hb167
   refine gy hb167 ?_
   refine gy hb167 ?_
   refine H.mono fun r98 H => ?_
   obtain ⟨s235e, rfl, H⟩ := H
   refine gy hb167 ?_
   refine pop_rem .i64 s235e 2 (by decide) ?_
   refine gy hb167 ?_
   refine pop_ieq .i64 _ _ (Int.tmod s235e 2) 1 ?_
   refine pop_pickf' hb167 ?_
   refine guardM_sf (fun hb168 => ?_) (fun hb168 => ?_)
   rotate_left
   ·have H := H.1 hb168
    refine gm hb168 ?_
    refine gm hb168 ?_
    refine gm hb168 ?_
    refine gm hb168 ?_
    refine gm hb168 ?_
    refine gm hb168 ?_
    refine pop_pickt' hb168 ?_
    refine gn ?_
    refine gn ?_
    refine gn ?_
    refine gn ?_
    refine gn ?_
    refine gn ?_
    refine gn ?_
    refine gn ?_
    refine gn ?_
    refine gn ?_
    refine gn ?_
    refine gn ?_
    refine gn ?_
    refine gn ?_
    refine gn ?_
    refine gn ?_
    refine gn ?_
    refine gn ?_
    refine gn ?_
    refine gn ?_
    refine gn ?_
    refine gn ?_
    refine gn ?_
    refine pop_pickt _ _ ?_
    refine condM_t ?_
    exact H
   have H := H.2 hb168
   refine pop_field 0 fld28_0 b2 0 ?_
   refine gy hb168 ?_
   refine rl one24 hL177 0 0 s66c.v ?_
   refine gy hb168 ?_
   refine gy hb168 ?_
   obtain ⟨hi77, H⟩ := H
   refine pop_index sli24 siz33 .i64 s66c s221e hi77 ?_
   refine gy hb168 ?_
   obtain ⟨s244e, hc64, H⟩ := H
   refine rop_one one33 s244e.v hc64 ?_
   refine gy hb168 ?_
   refine pop_len s244e _ _ sli33 ?_
   refine gy hb168 ?_
   refine pop_ieq .i64 _ _ (s244e.n : Int) 0 ?_
   refine pop_pickf' hb168 ?_
   refine guardM_sf (fun hb169 => ?_) (fun hb169 => ?_)
   rotate_left
   ·have H := H.1 hb169
    refine gm hb169 ?_
    refine gm hb169 ?_
    refine gm hb169 ?_
    refine gm hb169 ?_
    refine gm hb169 ?_
    refine gm hb169 ?_
    refine gm hb169 ?_
    refine gm hb169 ?_
    refine gm hb169 ?_
    refine gm hb169 ?_
    refine gm hb169 ?_
    refine gm hb169 ?_
    refine gm hb169 ?_
    refine gm hb169 ?_
    refine gm hb169 ?_
    refine gm hb169 ?_
    refine gm hb169 ?_
    refine gm hb169 ?_
    refine gm hb169 ?_
    refine gm hb169 ?_
    refine gm hb169 ?_
    refine gm hb169 ?_
    refine pop_pickt' hb169 ?_
    refine condM_t ?_
    exact H
   have H := H.2 hb169
   refine pop_field 0 fld26_0 b1 0 ?_
   refine gy hb169 ?_
   refine rl one24 hL177 1 0 s66.v ?_
   refine gy hb169 ?_
   refine gy hb169 ?_
   obtain ⟨hi78, H⟩ := H
   refine pop_index sli24 siz33 .i64 s66 s221e hi78 ?_
   refine gy hb169 ?_
   obtain ⟨s253e, hc63, H⟩ := H
   refine rop_one one33 s253e.v hc63 ?_
   refine gy hb169 ?_
   refine pop_field 0 fld28_0 b2 0 ?_
   refine gy hb169 ?_
   refine rl one24 hL177 0 0 s66c.v ?_
   refine gy hb169 ?_
   refine gy hb169 ?_
   obtain ⟨hi79, H⟩ := H
   refine pop_index sli24 siz33 .i64 s66c s221e hi79 ?_
   refine gy hb169 ?_
   obtain ⟨s258e, hc62, H⟩ := H
   refine rop_one one33 s258e.v hc62 ?_
   refine gy hb169 ?_
   obtain ⟨hi80, H⟩ := H
   refine pop_index sli33 siz3 .i64 s258e 0 hi80 ?_
   refine gy hb169 ?_
   obtain ⟨s260e, hc61, H⟩ := H
   refine rop_one one3 (VI s260e) hc61 ?_
   refine gy hb169 ?_
   obtain ⟨hi81, H⟩ := H
   refine pop_index sli33 siz3 .i64 s253e s260e hi81 ?_
   refine gy hb169 ?_
   obtain ⟨s262e, hc60, H⟩ := H
   refine rop_one one3 (VI s262e) hc60 ?_
   refine gy hb169 ?_
   refine gy hb169 ?_
   refine gy hb169 ?_
   refine pop_add .i64 s217e 1 ?_
   refine gy hb169 ?_
   refine gy hb169 ?_
   refine pop_len s199c _ _ sli33 ?_
   refine gy hb169 ?_
   obtain ⟨hz_5, H⟩ := H
   refine pop_rem .i64 (w64 (s217e + 1)) (s199c.n : Int) hz_5 ?_
   refine gy hb169 ?_
   obtain ⟨hi82, H⟩ := H
   refine pop_index sli33 siz3 .i64 s199c (Int.tmod (w64 (s217e + 1)) (s199c.n : Int)) hi82 ?_
   refine gy hb169 ?_
   obtain ⟨s270e, hc59, H⟩ := H
   refine rop_one one3 (VI s270e) hc59 ?_
   refine gy hb169 ?_
   refine pop_ine .i64 _ _ s262e s270e ?_
   refine pop_pickf' hb169 ?_
   refine condM_b (fun hb170 => ?_) (fun hb170 => ?_)
   ·exact H.1 hb170
   have H := H.2 hb170
   refine H.mono fun r99 H => ?_
   obtain ⟨s275e, rfl, H⟩ := H
   refine H.mono fun r100 H => ?_
   obtain ⟨s276e, rfl, H⟩ := H
   refine pop_add .i64 s217e 1 ?_
   obtain ⟨m_21, hm_21, H⟩ := H
   exact hn16 _ _ ⟨m_21, hm_21, s276e, (w64 (s217e + 1)), rfl, H, hL177⟩
  intro junk30  h182
  rintro ⟨hv, hJ30, hL182⟩
  have H := HB34  h182 hJ30 hL182
  refine H.mono fun r107 h183 H => ?_
  obtain ⟨t309_17, t309_18, t309_19, t309_20, rfl, hL183, H⟩ := H
  refine pop_ext (v := (Value.agg #[t309_17.v])) rfl ?_
  refine pop_ext (v := (VI t309_18)) rfl ?_
  refine pop_ext (v := (Value.agg #[t309_19.v])) rfl ?_
  refine pop_ext (v := (VI t309_20)) rfl ?_
  refine eop_alloc 26 zer26 rfl hL183 (fun b35 h184 hb185 hf69 hL184 => ?_)
  refine eop_alloc 28 zer28 rfl hL184 (fun b36 h185 hb186 hf70 hL185 => ?_)
  refine ul siz26 hL185 1 0 [t309_17.v] [(b36, [nilSl.v]), (b35, [t309_17.v]), (b2, [s66c.v]), (b1, [s66.v])] (fun h186 hf71 hL186 => ?_)
  refine ul siz28 hL186 0 0 [t309_19.v] [(b36, [t309_19.v]), (b35, [t309_17.v]), (b2, [s66c.v]), (b1, [s66.v])] (fun h187 hf72 hL187 => ?_)
  refine ra agg26 hL187 1 0 [t309_17.v] ?_
  refine ra agg28 hL187 0 0 [t309_19.v] ?_
  have H := H b35 b36 h187 hb185 (Nat.le_trans (Fr.size (Fr.no' (Fr.r (In []) _) hf69)) hb186) (Fr.new (Fr.new (Fr.no' (Fr.no' (Fr.r (In []) _) hf69) hf70) hb185 hf71) (Nat.le_trans (Fr.size (Fr.no' (Fr.r (In []) _) hf69)) hb186) hf72) hL187
  refine H.mono fun r108 h188 H => ?_
  obtain ⟨s319i, t319_10, rfl, hL188, H⟩ := H
  refine pop_ext (v := (Value.agg #[s319i.v])) rfl ?_
  refine pop_ext (v := (VB t319_10)) rfl ?_
  refine eop_alloc 28 zer28 rfl hL188 (fun b37 h189 hb187 hf73 hL189 => ?_)
  refine ul siz28 hL189 0 0 [s319i.v] [(b37, [s319i.v]), (b36, [t309_19.v]), (b35, [t309_17.v]), (b2, [s66c.v]), (b1, [s66.v])] (fun h190 hf74 hL190 => ?_)
  refine ra agg26 hL190 2 0 [t309_17.v] ?_
  refine ra agg28 hL190 1 0 [t309_19.v] ?_
  have H := H b37 h190 hb187 (Fr.new (Fr.no' (Fr.r (In []) _) hf73) hb187 hf74) hL190
  refine H.mono fun r109 h191 H => ?_
  obtain ⟨s327i, t327_10, rfl, hL191, H⟩ := H
  refine pop_ext (v := (Value.agg #[s327i.v])) rfl ?_
  refine pop_ext (v := (VB t327_10)) rfl ?_
  refine eop_alloc 28 zer28 rfl hL191 (fun b38 h192 hb188 hf75 hL192 => ?_)
  refine ul siz28 hL192 0 0 [s327i.v] [(b38, [s327i.v]), (b37, [s319i.v]), (b36, [t309_19.v]), (b35, [t309_17.v]), (b2, [s66c.v]), (b1, [s66.v])] (fun h193 hf76 hL193 => ?_)
  refine pop_bne boo4 _ _ t319_10 t327_10 ?_
  refine guardM_sf (fun hb189 => ?_) (fun hb189 => ?_)
  rotate_left
  ·have H := H.1 hb189
   refine gm hb189 ?_
   refine gm hb189 ?_
   refine gm hb189 ?_
   refine pop_pickt' hb189 ?_
   refine condM_t ?_
   have H := H b38 h193 hb188 (Fr.new (Fr.no' (Fr.r (In []) _) hf75) hb188 hf76) hL193
   exact H
  have H := H.2 hb189
  refine ra agg28 hL193 1 0 [s319i.v] ?_
  refine gy hb189 ?_
  refine ra agg28 hL193 0 0 [s327i.v] ?_
  refine gy hb189 ?_
  have H := H b38 h193 hb188 (Fr.new (Fr.no' (Fr.r (In []) _) hf75) hb188 hf76) hL193
  refine H.mono fun r110 h194 H => ?_
  obtain ⟨s336e, rfl, hL194, H⟩ := H
  refine gy hb189 ?_
  refine pop_not s336e ?_
  refine pop_pickf' hb189 ?_
  refine condM_b (fun hb190 => ?_) (fun hb190 => ?_)
  ·exact H.1 hb190
  have H := H.2 hb190
  obtain ⟨J31, H, HB33⟩ := H
  refine ⟨fun (vs : List Value) (h' : Heap) => vs = [] /\ J31  h' /\ Vars h' [(b38, [s327i.v]), (b37, [s319i.v]), (b36, [t309_19.v]), (b35, [t309_17.v]), (b2, [s66c.v]), (b1, [s66.v])], ?_, ?_⟩
  ·refine condM_b (fun hb191 => ?_) (fun hb191 => ?_)
   rotate_left
   ·have H := H.2 hb191
    exact ⟨rfl, H, hL194⟩
   have H := H.1 hb191
   refine ra agg26 hL194 3 0 [t309_17.v] ?_
   refine ra agg28 hL194 2 0 [t309_19.v] ?_
   refine H.mono fun r111 h195 H => ?_
   obtain ⟨s344i, t344_10, rfl, hL195, H⟩ := H
   refine pop_ext (v := s344i.v) rfl ?_
   refine pop_ext (v := (VB t344_10)) rfl ?_
   refine pop_len s344i _ _ sli24 ?_
   obtain ⟨J32, ⟨n38, h0_19⟩, HB32⟩ := H
   refine loop_intro (J := fun (n : Nat) (vs : List Value) (h' : Heap) => ∃ own41_5 : Sl, ∃ s349e : Int, vs = [own41_5.v, (VI s349e)] /\ J32 n own41_5 s349e h' /\ Vars h' [(b38, [s327i.v]), (b37, [s319i.v]), (b36, [t309_19.v]), (b35, [t309_17.v]), (b2, [s66c.v]), (b1, [s66.v])]) n38 ⟨nilSl, 0, rfl, h0_19, hL195⟩ ?_
   intro I19 mu19 hI19 junk31 tv37 tv38 h196 hi93
   obtain ⟨n35, ⟨own41_5, s349e, hv, hJ31, hL196⟩, hn18⟩ := hI19 _ _ hi93
   cases hv
   have H := HB32 n35 own41_5 s349e h196 hJ31 hL196
   refine pop_lss .i64 s349e (s344i.n : Int) ?_
   refine condM_b (fun hb192 => ?_) (fun hb192 => ?_)
   ·have H := H.1 hb192
    obtain ⟨hi94, H⟩ := H
    refine pop_index sli24 siz33 .i64 s344i s349e hi94 ?_
    obtain ⟨s352e, hc80, H⟩ := H
    refine rop_one one33 s352e.v hc80 ?_
    refine H.mono fun r112 h197 H => ?_
    obtain ⟨s355e, rfl, hL197, H⟩ := H
    refine condM_b (fun hb193 => ?_) (fun hb193 => ?_)
    ·have H := H.1 hb193
     refine pop_add .i64 s349e 1 ?_
     obtain ⟨m_25, hm_25, H⟩ := H
     exact hn18 _ _ ⟨m_25, hm_25, s352e, (w64 (s349e + 1)), rfl, H, hL197⟩
    have H := H.2 hb193
    refine pop_add .i64 s349e 1 ?_
    obtain ⟨m_26, hm_26, H⟩ := H
    exact hn18 _ _ ⟨m_26, hm_26, own41_5, (w64 (s349e + 1)), rfl, H, hL197⟩
   have H := H.2 hb192
   refine pop_not t344_10 ?_
   refine guardM_sf (fun hb194 => ?_) (fun hb194 => ?_)
   rotate_left
   ·have H := H.1 hb194
    refine gm hb194 ?_
    refine gm hb194 ?_
    refine pop_pickt' hb194 ?_
    refine condM_t ?_
    exact H
   have H := H.2 hb194
   refine gy hb194 ?_
   refine pop_len own41_5 _ _ sli33 ?_
   refine gy hb194 ?_
   refine pop_ieq .i64 _ _ (own41_5.n : Int) 0 ?_
   refine pop_pickf' hb194 ?_
   refine condM_b (fun hb195 => ?_) (fun hb195 => ?_)
   ·exact H.1 hb195
   have H := H.2 hb195
   refine pop_field 0 fld26_0 b35 0 ?_
   refine rl one24 hL196 3 0 t309_17.v ?_
   refine pop_len t309_17 _ _ sli24 ?_
   obtain ⟨J33, ⟨n37, h0_18⟩, HB31⟩ := H
   refine loop_intro (J := fun (n : Nat) (vs : List Value) (h' : Heap) => ∃ s368e : Int, vs = [(VI s368e)] /\ J33 n s368e h' /\ Vars h' [(b38, [s327i.v]), (b37, [s319i.v]), (b36, [t309_19.v]), (b35, [t309_17.v]), (b2, [s66c.v]), (b1, [s66.v])]) n37 ⟨0, rfl, h0_18, hL196⟩ ?_
   intro I18 mu18 hI18 junk32 tv36 h198 hi95
   obtain ⟨n36, ⟨s368e, hv, hJ32, hL198⟩, hn19⟩ := hI18 _ _ hi95
   cases hv
   have H := HB31 n36 s368e h198 hJ32 hL198
   refine pop_lss .i64 s368e (t309_17.n : Int) ?_
   refine condM_b (fun hb196 => ?_) (fun hb196 => ?_)
   rotate_left
   ·have H := H.2 hb196
    exact ⟨rfl, H, hL198⟩
   have H := H.1 hb196
   obtain ⟨J34, H, HB30⟩ := H
   refine ⟨fun (vs : List Value) (h' : Heap) => ∃ y5 : Int, vs = [(VI y5)] /\ J34 y5 h' /\ Vars h' [(b38, [s327i.v]), (b37, [s319i.v]), (b36, [t309_19.v]), (b35, [t309_17.v]), (b2, [s66c.v]), (b1, [s66.v])], ?_, ?_⟩
   ·refine H.mono fun r113 h199 H => ?_
    obtain ⟨s373e, rfl, hL199, H⟩ := H
    refine condM_b (fun hb197 => ?_) (fun hb197 => ?_)
    ·have H := H.1 hb197
     exact ⟨1, rfl, H, hL199⟩
    have H := H.2 hb197
    exact ⟨0, rfl, H, hL199⟩
   intro junk33 tv35 h200
   rintro ⟨y5, hv, hJ33, hL200⟩
   cases hv
   have H := HB30 y5 h200 hJ33 hL200
   refine pop_field 0 fld28_0 b37 0 ?_
   refine rl one24 hL200 1 0 s319i.v ?_
   obtain ⟨hi96, H⟩ := H
   refine pop_index sli24 siz33 .i64 s319i s368e hi96 ?_
   obtain ⟨s378e, hc83, H⟩ := H
   refine rop_one one33 s378e.v hc83 ?_
   refine pop_field 0 fld28_0 b36 0 ?_
   refine rl one24 hL200 2 0 t309_19.v ?_
   obtain ⟨hi97, H⟩ := H
   refine pop_index sli24 siz33 .i64 t309_19 s368e hi97 ?_
   obtain ⟨s383e, hc82, H⟩ := H
   refine rop_one one33 s383e.v hc82 ?_
   refine H.mono fun r114 H => ?_
   obtain ⟨s385e, rfl, H⟩ := H
   refine H.mono fun r115 h201 H => ?_
   obtain ⟨s386e, rfl, hL201, H⟩ := H
   refine ⟨?_, ?_⟩
   ·exact still_one one33 H.1
   obtain ⟨hc81, H⟩ := H
   refine ⟨?_, ?_⟩
   ·exact still_loc one24 hL201 2 rfl 0 (v := t309_19.v) rfl
   refine ⟨?_, ?_⟩
   ·exact still_loc one24 hL201 1 rfl 0 (v := s319i.v) rfl
   refine pop_not s386e ?_
   refine condM_b (fun hb198 => ?_) (fun hb198 => ?_)
   ·exact H.1 hb198
   have H := H.2 hb198
   refine pop_add .i64 s368e 1 ?_
   obtain ⟨m_27, hm_27, H⟩ := H
   exact hn19 _ _ ⟨m_27, hm_27, (w64 (s368e + 1)), rfl, H, hL201⟩
  intro junk34  h202
  rintro ⟨hv, hJ34, hL202⟩
  have H := HB33  h202 hJ34 hL202
  refine H.mono fun r116 h203 H => ?_
  obtain ⟨t391_17, t391_18, t391_19, t391_20, rfl, hL203, H⟩ := H
  refine pop_ext (v := (Value.agg #[t391_17.v])) rfl ?_
  refine pop_ext (v := (VI t391_18)) rfl ?_
  refine pop_ext (v := t391_19.v) rfl ?_
  refine pop_ext (v := (VI t391_20)) rfl ?_
  refine eop_alloc 26 zer26 rfl hL203 (fun b39 h204 hb199 hf77 hL204 => ?_)
  refine ul siz26 hL204 0 0 [t391_17.v] [(b39, [t391_17.v]), (b38, [s327i.v]), (b37, [s319i.v]), (b36, [t309_19.v]), (b35, [t309_17.v]), (b2, [s66c.v]), (b1, [s66.v])] (fun h205 hf78 hL205 => ?_)
  refine ra agg26 hL205 0 0 [t391_17.v] ?_
  have H := H b39 h205 hb199 (Fr.new (Fr.no' (Fr.r (In []) _) hf77) hb199 hf78) hL205
  refine H.mono fun r117 h206 H => ?_
  obtain ⟨s401i, t401_10, rfl, hL206, H⟩ := H
  refine pop_ext (v := (Value.agg #[s401i.v])) rfl ?_
  refine pop_ext (v := (VB t401_10)) rfl ?_
  refine eop_alloc 28 zer28 rfl hL206 (fun b40 h207 hb200 hf79 hL207 => ?_)
  refine ul siz28 hL207 0 0 [s401i.v] [(b40, [s401i.v]), (b39, [t391_17.v]), (b38, [s327i.v]), (b37, [s319i.v]), (b36, [t309_19.v]), (b35, [t309_17.v]), (b2, [s66c.v]), (b1, [s66.v])] (fun h208 hf80 hL208 => ?_)
  refine ra agg26 hL208 1 0 [t391_17.v] ?_
  have H := H b40 h208 hb200 (Fr.new (Fr.no' (Fr.r (In []) _) hf79) hb200 hf80) hL208
  refine H.mono fun r118 h209 H => ?_
  obtain ⟨s409i, t409_10, rfl, hL209, H⟩ := H
  refine pop_ext (v := (Value.agg #[s409i.v])) rfl ?_
  refine pop_ext (v := (VB t409_10)) rfl ?_
  refine eop_alloc 28 zer28 rfl hL209 (fun b41 h210 hb201 hf81 hL210 => ?_)
  refine ul siz28 hL210 0 0 [s409i.v] [(b41, [s409i.v]), (b40, [s401i.v]), (b39, [t391_17.v]), (b38, [s327i.v]), (b37, [s319i.v]), (b36, [t309_19.v]), (b35, [t309_17.v]), (b2, [s66c.v]), (b1, [s66.v])] (fun h211 hf82 hL211 => ?_)
  have H := H b41 h211 hb201 (Fr.new (Fr.no' (Fr.r (In []) _) hf81) hb201 hf82) hL211
  refine H.mono fun r119 h212 H => ?_
  obtain ⟨s413e, rfl, hL212, H⟩ := H
  refine eop_alloc 28 zer28 rfl hL212 (fun b42 h213 hb202 hf83 hL213 => ?_)
  refine ul siz28 hL213 0 0 [s413e.v] [(b42, [s413e.v]), (b41, [s409i.v]), (b40, [s401i.v]), (b39, [t391_17.v]), (b38, [s327i.v]), (b37, [s319i.v]), (b36, [t309_19.v]), (b35, [t309_17.v]), (b2, [s66c.v]), (b1, [s66.v])] (fun h214 hf84 hL214 => ?_)
  refine ra agg28 hL214 0 0 [s413e.v] ?_
  have H := H b42 h214 hb202 (Fr.new (Fr.no' (Fr.r (In []) _) hf83) hb202 hf84) hL214
  refine H.mono fun r120 h215 H => ?_
  obtain ⟨s416i, t416_10, rfl, hL215, H⟩ := H
  refine pop_ext (v := (VS s416i)) rfl ?_
  refine pop_ext (v := (VB t416_10)) rfl ?_
  refine ra agg28 hL215 0 0 [s413e.v] ?_
  refine H.mono fun r121 h216 H => ?_
  obtain ⟨s421i, t421_10, rfl, hL216, H⟩ := H
  refine pop_ext (v := (VS s421i)) rfl ?_
  refine pop_ext (v := (VB t421_10)) rfl ?_
  refine pop_bne boo4 _ _ t401_10 t409_10 ?_
  refine guardM_sf (fun hb203 => ?_) (fun hb203 => ?_)
  rotate_left
  ·have H := H.1 hb203
   refine gm hb203 ?_
   refine gm hb203 ?_
   refine gm hb203 ?_
   refine pop_pickt' hb203 ?_
   refine gn ?_
   refine gn ?_
   refine gn ?_
   refine pop_pickt _ _ ?_
   refine gn ?_
   refine gn ?_
   refine gn ?_
   refine pop_pickt _ _ ?_
   refine condM_t ?_
   exact H
  have H := H.2 hb203
  refine ra agg28 hL216 2 0 [s401i.v] ?_
  refine gy hb203 ?_
  refine ra agg28 hL216 1 0 [s409i.v] ?_
  refine gy hb203 ?_
  refine H.mono fun r122 h217 H => ?_
  obtain ⟨s430e, rfl, hL217, H⟩ := H
  refine gy hb203 ?_
  refine pop_not s430e ?_
  refine pop_pickf' hb203 ?_
  refine guardM_sf (fun hb204 => ?_) (fun hb204 => ?_)
  rotate_left
  ·have H := H.1 hb204
   refine gm hb204 ?_
   refine gm hb204 ?_
   refine pop_pickt' hb204 ?_
   refine gn ?_
   refine gn ?_
   refine gn ?_
   refine pop_pickt _ _ ?_
   refine condM_t ?_
   exact H
  have H := H.2 hb204
  refine gy hb204 ?_
  refine gy hb204 ?_
  refine pop_bne boo4 _ _ t416_10 t421_10 ?_
  refine pop_pickf' hb204 ?_
  refine guardM_sf (fun hb205 => ?_) (fun hb205 => ?_)
  rotate_left
  ·have H := H.1 hb205
   refine gm hb205 ?_
   refine gm hb205 ?_
   refine pop_pickt' hb205 ?_
   refine condM_t ?_
   exact H
  have H := H.2 hb205
  refine gy hb205 ?_
  refine gy hb205 ?_
  refine pop_sne _ _ s416i s421i ?_
  refine pop_pickf' hb205 ?_
  refine condM_b (fun hb206 => ?_) (fun hb206 => ?_)
  ·exact H.1 hb206
  have H := H.2 hb206
  refine condM_b (fun hb207 => ?_) (fun hb207 => ?_)
  rotate_left
  ·exact H.2 hb207
  have H := H.1 hb207
  refine ra agg26 hL217 3 0 [t391_17.v] ?_
  refine ra agg28 hL217 2 0 [s401i.v] ?_
  refine H.mono fun r123 h218 H => ?_
  obtain ⟨s448i, t448_10, rfl, hL218, H⟩ := H
  refine pop_ext (v := (VB s448i)) rfl ?_
  refine pop_ext (v := (VB t448_10)) rfl ?_
  refine guardM_st (fun hb208 => ?_) (fun hb208 => ?_)
  ·have H := H.1 hb208
   refine pop_pickt' hb208 ?_
   exact H
  have H := H.2 hb208
  refine pop_pickf' hb208 ?_
  exact H
end Go.Proofs.YtkjkfjkapbpgiaaGreatDoor
