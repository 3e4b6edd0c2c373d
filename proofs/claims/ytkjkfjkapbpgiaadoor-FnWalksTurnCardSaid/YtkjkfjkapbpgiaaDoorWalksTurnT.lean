import Derived.Test.YtkjkfjkapbpgiaaDoorProg
import Derived.Test.YtkjkfjkapbpgiaaDoorM1
set_option linter.unusedVariables false
namespace Go.Proofs.YtkjkfjkapbpgiaaDoor
open Go Go.Mx
theorem mixed : Tryd.prog.follows .mixedOrders = true := by kernel_rfl
def t5 (P : Program) (code0_1 : Value) (more1_1 : Value) (h : Heap) (K : Value → Heap → Prop) : Prop :=
  callM P 20 #[code0_1, more1_1] h fun t62_1 h_1 =>
  condM t62_1
  (K (Value.bool true) h_1)
  (callM P 21 #[code0_1] h_1 fun t65_1 h_2 =>
  pop P (Instr.extract t65_1 0) fun t66_1 =>
  pop P (Instr.extract t65_1 1) fun t67_1 =>
  pop P (Instr.extract t65_1 2) fun t68_1 =>
  eop P (Instr.alloc 41 true (.tuple #[])) h_2 fun g5_1 h_3 =>
  eop P (Instr.alloc 43 true (.tuple #[])) h_3 fun w6_1 h_4 =>
  uop P (Instr.storeAt 41 g5_1 t66_1) h_4 fun u_1 h_5 =>
  uop P (Instr.storeAt 43 w6_1 t67_1) h_5 fun u_2 h_6 =>
  rop P (Instr.loadAt 41 g5_1) h_6 fun t70_1 =>
  rop P (Instr.loadAt 43 w6_1) h_6 fun t71_1 =>
  callM P 22 #[t70_1, t71_1, t68_1] h_6 fun t73_1 h_7 =>
  pop P (Instr.extract t73_1 0) fun t74_1 =>
  pop P (Instr.extract t73_1 1) fun t75_1 =>
  rop P (Instr.loadAt 41 g5_1) h_7 fun t77_1 =>
  rop P (Instr.loadAt 43 w6_1) h_7 fun t78_1 =>
  callM P 23 #[t77_1, t78_1, t68_1] h_7 fun t80_1 h_8 =>
  pop P (Instr.extract t80_1 0) fun t81_1 =>
  pop P (Instr.extract t80_1 1) fun t82_1 =>
  rop P (Instr.loadAt 41 g5_1) h_8 fun t84_1 =>
  rop P (Instr.loadAt 43 w6_1) h_8 fun t85_1 =>
  callM P 24 #[t84_1, t85_1, t68_1] h_8 fun t87_1 h_9 =>
  pop P (Instr.extract t87_1 0) fun t88_1 =>
  pop P (Instr.extract t87_1 1) fun t89_1 =>
  rop P (Instr.loadAt 41 g5_1) h_9 fun t91_1 =>
  rop P (Instr.loadAt 43 w6_1) h_9 fun t92_1 =>
  callM P 25 #[t91_1, t92_1, t68_1] h_9 fun t94_1 h_10 =>
  pop P (Instr.extract t94_1 0) fun t95_1 =>
  pop P (Instr.extract t94_1 1) fun t96_1 =>
  rop P (Instr.loadAt 41 g5_1) h_10 fun t98_1 =>
  rop P (Instr.loadAt 43 w6_1) h_10 fun t99_1 =>
  callM P 26 #[t98_1, t99_1, t68_1] h_10 fun t101_1 h_11 =>
  pop P (Instr.extract t101_1 0) fun t102_1 =>
  pop P (Instr.extract t101_1 1) fun t103_1 =>
  eop P (Instr.alloc 43 true (.tuple #[])) h_11 fun end16_1 h_12 =>
  uop P (Instr.storeAt 43 end16_1 t102_1) h_12 fun u_3 h_13 =>
  rop P (Instr.loadAt 41 g5_1) h_13 fun t105_1 =>
  rop P (Instr.loadAt 43 w6_1) h_13 fun t106_1 =>
  callM P 27 #[t105_1, t106_1, t68_1] h_13 fun t108_1 h_14 =>
  pop P (Instr.extract t108_1 0) fun t109_1 =>
  pop P (Instr.extract t108_1 1) fun t110_1 =>
  eop P (Instr.alloc 43 true (.tuple #[])) h_14 fun model18_1 h_15 =>
  uop P (Instr.storeAt 43 model18_1 t109_1) h_15 fun u_4 h_16 =>
  rop P (Instr.loadAt 41 g5_1) h_16 fun t112_1 =>
  rop P (Instr.loadAt 43 w6_1) h_16 fun t113_1 =>
  callM P 28 #[t112_1, t113_1, t68_1] h_16 fun t115_1 h_17 =>
  pop P (Instr.extract t115_1 0) fun t116_1 =>
  pop P (Instr.extract t115_1 1) fun t117_1 =>
  rop P (Instr.loadAt 41 g5_1) h_17 fun t119_1 =>
  rop P (Instr.loadAt 43 w6_1) h_17 fun t120_1 =>
  callM P 29 #[t119_1, t120_1, t68_1] h_17 fun t122_1 h_18 =>
  pop P (Instr.extract t122_1 0) fun t123_1 =>
  pop P (Instr.extract t122_1 1) fun t124_1 =>
  pop P (binE .neq 4 (.tmp 125) (.tmp 126) t75_1 t82_1) fun t127_1 =>
  guardM (asG t127_1 false) false (fun k_1 => k_1 t74_1 h_18) h_18 fun t129_1 h_19 =>
  guardM (asG t127_1 false) false (fun k_2 => k_2 t81_1 h_19) h_19 fun t130_1 h_20 =>
  guardM (asG t127_1 false) false (fun k_3 => callM P 30 #[t129_1, t130_1] h_20 fun t131_1 h_21 =>
  k_3 t131_1 h_21) h_20 fun t131_2 h_22 =>
  guardM (asG t127_1 false) false (fun k_4 => pop P (Op.unary .not t131_2) fun t132_1 =>
  k_4 t132_1 h_22) h_22 fun t132_2 h_23 =>
  pop P (pickS t127_1 (Value.bool true) t132_2) fun t133_1 =>
  guardM (asG t133_1 false) false (fun k_5 => k_5 t89_1 h_23) h_23 fun t135_1 h_24 =>
  guardM (asG t133_1 false) false (fun k_6 => k_6 t96_1 h_24) h_24 fun t136_1 h_25 =>
  guardM (asG t133_1 false) false (fun k_7 => pop P (binE .neq 4 (.tmp 135) (.tmp 136) t135_1 t136_1) fun t137_1 =>
  k_7 t137_1 h_25) h_25 fun t137_2 h_26 =>
  pop P (pickS t133_1 (Value.bool true) t137_2) fun t138_1 =>
  guardM (asG t138_1 false) false (fun k_8 => k_8 t88_1 h_26) h_26 fun t140_1 h_27 =>
  guardM (asG t138_1 false) false (fun k_9 => k_9 t95_1 h_27) h_27 fun t141_1 h_28 =>
  guardM (asG t138_1 false) false (fun k_10 => callM P 31 #[t140_1, t141_1] h_28 fun t142_1 h_29 =>
  k_10 t142_1 h_29) h_28 fun t142_2 h_30 =>
  guardM (asG t138_1 false) false (fun k_11 => pop P (Op.unary .not t142_2) fun t143_1 =>
  k_11 t143_1 h_30) h_30 fun t143_2 h_31 =>
  pop P (pickS t138_1 (Value.bool true) t143_2) fun t144_1 =>
  guardM (asG t144_1 false) false (fun k_12 => k_12 t103_1 h_31) h_31 fun t146_1 h_32 =>
  guardM (asG t144_1 false) false (fun k_13 => k_13 t110_1 h_32) h_32 fun t147_1 h_33 =>
  guardM (asG t144_1 false) false (fun k_14 => pop P (binE .neq 4 (.tmp 146) (.tmp 147) t146_1 t147_1) fun t148_1 =>
  k_14 t148_1 h_33) h_33 fun t148_2 h_34 =>
  pop P (pickS t144_1 (Value.bool true) t148_2) fun t149_1 =>
  guardM (asG t149_1 false) false (fun k_15 => rop P (Instr.loadAt 43 end16_1) h_34 fun t151_1 =>
  k_15 t151_1 h_34) h_34 fun t151_2 h_35 =>
  guardM (asG t149_1 false) false (fun k_16 => rop P (Instr.loadAt 43 model18_1) h_35 fun t152_1 =>
  k_16 t152_1 h_35) h_35 fun t152_2 h_36 =>
  guardM (asG t149_1 false) false (fun k_17 => callM P 32 #[t151_2, t152_2] h_36 fun t153_1 h_37 =>
  k_17 t153_1 h_37) h_36 fun t153_2 h_38 =>
  guardM (asG t149_1 false) false (fun k_18 => pop P (Op.unary .not t153_2) fun t154_1 =>
  k_18 t154_1 h_38) h_38 fun t154_2 h_39 =>
  pop P (pickS t149_1 (Value.bool true) t154_2) fun t155_1 =>
  guardM (asG t155_1 false) false (fun k_19 => k_19 t117_1 h_39) h_39 fun t157_1 h_40 =>
  guardM (asG t155_1 false) false (fun k_20 => k_20 t124_1 h_40) h_40 fun t158_1 h_41 =>
  guardM (asG t155_1 false) false (fun k_21 => pop P (binE .neq 4 (.tmp 157) (.tmp 158) t157_1 t158_1) fun t159_1 =>
  k_21 t159_1 h_41) h_41 fun t159_2 h_42 =>
  pop P (pickS t155_1 (Value.bool true) t159_2) fun t160_1 =>
  guardM (asG t160_1 false) false (fun k_22 => k_22 t116_1 h_42) h_42 fun t162_1 h_43 =>
  guardM (asG t160_1 false) false (fun k_23 => k_23 t123_1 h_43) h_43 fun t163_1 h_44 =>
  guardM (asG t160_1 false) false (fun k_24 => callM P 31 #[t162_1, t163_1] h_44 fun t164_1 h_45 =>
  k_24 t164_1 h_45) h_44 fun t164_2 h_46 =>
  guardM (asG t160_1 false) false (fun k_25 => pop P (Op.unary .not t164_2) fun t165_1 =>
  k_25 t165_1 h_46) h_46 fun t165_2 h_47 =>
  pop P (pickS t160_1 (Value.bool true) t165_2) fun t166_1 =>
  guardM (asG t166_1 false) false (fun k_26 => k_26 t89_1 h_47) h_47 fun t168_1 h_48 =>
  guardM (asG t166_1 false) false (fun k_27 => k_27 t75_1 h_48) h_48 fun t169_1 h_49 =>
  guardM (asG t166_1 false) false (fun k_28 => pop P (binE .neq 4 (.tmp 168) (.tmp 169) t168_1 t169_1) fun t170_1 =>
  k_28 t170_1 h_49) h_49 fun t170_2 h_50 =>
  pop P (pickS t166_1 (Value.bool true) t170_2) fun t171_1 =>
  guardM (asG t171_1 false) false (fun k_29 => k_29 t103_1 h_50) h_50 fun t173_1 h_51 =>
  guardM (asG t171_1 false) false (fun k_30 => k_30 t75_1 h_51) h_51 fun t174_1 h_52 =>
  guardM (asG t171_1 false) false (fun k_31 => pop P (binE .neq 4 (.tmp 173) (.tmp 174) t173_1 t174_1) fun t175_1 =>
  k_31 t175_1 h_52) h_52 fun t175_2 h_53 =>
  pop P (pickS t171_1 (Value.bool true) t175_2) fun t176_1 =>
  guardM (asG t176_1 false) false (fun k_32 => k_32 t117_1 h_53) h_53 fun t178_1 h_54 =>
  guardM (asG t176_1 false) false (fun k_33 => k_33 t178_1 h_54) h_54 fun t179_1 h_55 =>
  guardM (asG t179_1 true) true (fun k_34 => k_34 t75_1 h_55) h_55 fun t180_1 h_56 =>
  guardM (asG t179_1 true) true (fun k_35 => pop P (Op.unary .not t180_1) fun t181_1 =>
  k_35 t181_1 h_56) h_56 fun t181_2 h_57 =>
  guardM (asG t176_1 false) false (fun k_36 => pop P (pickS t179_1 t181_2 (Value.bool false)) fun t182_1 =>
  k_36 t182_1 h_57) h_57 fun t182_2 h_58 =>
  pop P (pickS t176_1 (Value.bool true) t182_2) fun t183_1 =>
  condM t183_1
  (K (Value.bool false) h_58)
  (∃ J_1 : List Value → Heap → Prop, (condM t75_1
  (pop P (Instr.fieldAt 41 g5_1 0) fun t185_1 =>
  rop P (Instr.loadAt 22 t185_1) h_58 fun t186_1 =>
  pop P (lenS 22 3 t186_1) fun t187_1 =>
  eop P (Instr.makeSlice 34 t187_1 t187_1) h_58 fun t188_1 h_59 =>
  pop P (lenS 22 3 t74_1) fun t190_1 =>
  ∃ (I_1 : List Value → Heap → Prop) (μ_1 : List Value → Heap → Nat), I_1 [(Value.int IntKind.i64 0), (Value.int IntKind.i64 0)] h_59 ∧
  ∀ (junk_1 : Nat → Value) (total24_1 : Value) (t191_1 : Value) (h_60 : Heap), I_1 [total24_1, t191_1] h_60 →
  pop P (binA .lss 3 t191_1 t190_1) fun t192_1 =>
  condM t192_1
  (pop P (Instr.indexAt 22 t74_1 t191_1) fun t194_1 =>
  rop P (Instr.loadAt 34 t194_1) h_60 fun t195_1 =>
  pop P (lenS 34 3 t195_1) fun t198_1 =>
  ∃ (I_2 : List Value → Heap → Prop) (μ_2 : List Value → Heap → Nat), I_2 [total24_1, t68_1, (Value.int IntKind.i64 0), (Value.int IntKind.i64 0)] h_60 ∧
  ∀ (junk_2 : Nat → Value) (total24_2 : Value) (least28_1 : Value) (most29_1 : Value) (t199_1 : Value) (h_61 : Heap), I_2 [total24_2, least28_1, most29_1, t199_1] h_61 →
  pop P (binA .lss 3 t199_1 t198_1) fun t200_1 =>
  condM t200_1
  (pop P (Instr.indexAt 34 t195_1 t199_1) fun t202_1 =>
  rop P (Instr.loadAt 3 t202_1) h_61 fun t203_1 =>
  ∃ J_2 : List Value → Heap → Prop, (pop P (binA .lss 3 t203_1 least28_1) fun t206_1 =>
  condM t206_1
  (J_2 [t203_1] h_61)
  (J_2 [least28_1] h_61)) ∧
  ∀ (junk_3 : Nat → Value) (least28_2 : Value) (h_62 : Heap), J_2 [least28_2] h_62 →
  ∃ J_3 : List Value → Heap → Prop, (pop P (binA .gtr 3 t203_1 most29_1) fun t210_1 =>
  condM t210_1
  (J_3 [t203_1] h_62)
  (J_3 [most29_1] h_62)) ∧
  ∀ (junk_4 : Nat → Value) (most29_2 : Value) (h_63 : Heap), J_3 [most29_2] h_63 →
  pop P (binA .add 3 total24_2 t203_1) fun t214_1 =>
  pop P (Instr.fieldAt 41 g5_1 0) fun t216_1 =>
  rop P (Instr.loadAt 22 t216_1) h_63 fun t217_1 =>
  pop P (Instr.indexAt 22 t217_1 t191_1) fun t219_1 =>
  rop P (Instr.loadAt 34 t219_1) h_63 fun t220_1 =>
  pop P (Instr.indexAt 34 t220_1 t199_1) fun t222_1 =>
  rop P (Instr.loadAt 3 t222_1) h_63 fun t223_1 =>
  pop P (Instr.indexAt 34 t188_1 t223_1) fun t224_1 =>
  rop P (Instr.loadAt 3 t224_1) h_63 fun t225_1 =>
  pop P (binA .add 3 t225_1 t203_1) fun t227_1 =>
  pop P (Instr.indexAt 34 t188_1 t223_1) fun t228_1 =>
  uop P (Instr.storeAt 3 t228_1 t227_1) h_63 fun u_5 h_64 =>
  pop P (binA .add 3 t199_1 (Value.int IntKind.i64 1)) fun t229_1 =>
  I_2 [t214_1, least28_2, most29_2, t229_1] h_64 ∧ μ_2 [t214_1, least28_2, most29_2, t229_1] h_64 < μ_2 [total24_2, least28_1, most29_1, t199_1] h_61)
  (pop P (lenS 34 3 t195_1) fun t231_1 =>
  pop P (binA .gtr 3 t231_1 (Value.int IntKind.i64 0)) fun t232_1 =>
  guardM (asG t232_1 true) true (fun k_37 => k_37 most29_1 h_61) h_61 fun t234_1 h_65 =>
  guardM (asG t232_1 true) true (fun k_38 => k_38 least28_1 h_65) h_65 fun t235_1 h_66 =>
  guardM (asG t232_1 true) true (fun k_39 => pop P (binA .sub 3 t234_1 t235_1) fun t236_1 =>
  k_39 t236_1 h_66) h_66 fun t236_2 h_67 =>
  guardM (asG t232_1 true) true (fun k_40 => pop P (binA .gtr 3 t236_2 (Value.int IntKind.i64 1)) fun t237_1 =>
  k_40 t237_1 h_67) h_67 fun t237_2 h_68 =>
  pop P (pickS t232_1 t237_2 (Value.bool false)) fun t238_1 =>
  condM t238_1
  (K (Value.bool false) h_68)
  (pop P (lenS 34 3 t195_1) fun t240_1 =>
  pop P (binA .gtr 3 t240_1 (Value.int IntKind.i64 0)) fun t241_1 =>
  guardM (asG t241_1 true) true (fun k_41 => pop P (Instr.fieldAt 43 w6_1 0) fun t243_1 =>
  k_41 t243_1 h_68) h_68 fun t243_2 h_69 =>
  guardM (asG t241_1 true) true (fun k_42 => rop P (Instr.loadAt 34 t243_2) h_69 fun t244_1 =>
  k_42 t244_1 h_69) h_69 fun t244_2 h_70 =>
  guardM (asG t241_1 true) true (fun k_43 => k_43 t191_1 h_70) h_70 fun t245_1 h_71 =>
  guardM (asG t241_1 true) true (fun k_44 => pop P (Instr.indexAt 34 t244_2 t245_1) fun t246_1 =>
  k_44 t246_1 h_71) h_71 fun t246_2 h_72 =>
  guardM (asG t241_1 true) true (fun k_45 => rop P (Instr.loadAt 3 t246_2) h_72 fun t247_1 =>
  k_45 t247_1 h_72) h_72 fun t247_2 h_73 =>
  guardM (asG t241_1 true) true (fun k_46 => k_46 t195_1 h_73) h_73 fun t248_1 h_74 =>
  guardM (asG t241_1 true) true (fun k_47 => k_47 t195_1 h_74) h_74 fun t251_1 h_75 =>
  guardM (asG t241_1 true) true (fun k_48 => pop P (lenS 34 3 t251_1) fun t252_1 =>
  k_48 t252_1 h_75) h_75 fun t252_2 h_76 =>
  guardM (asG t241_1 true) true (fun k_49 => pop P (Instr.fieldAt 43 end16_1 0) fun t254_1 =>
  k_49 t254_1 h_76) h_76 fun t254_2 h_77 =>
  guardM (asG t241_1 true) true (fun k_50 => rop P (Instr.loadAt 34 t254_2) h_77 fun t255_1 =>
  k_50 t255_1 h_77) h_77 fun t255_2 h_78 =>
  guardM (asG t241_1 true) true (fun k_51 => k_51 t191_1 h_78) h_78 fun t256_1 h_79 =>
  guardM (asG t241_1 true) true (fun k_52 => pop P (Instr.indexAt 34 t255_2 t256_1) fun t257_1 =>
  k_52 t257_1 h_79) h_79 fun t257_2 h_80 =>
  guardM (asG t241_1 true) true (fun k_53 => rop P (Instr.loadAt 3 t257_2) h_80 fun t258_1 =>
  k_53 t258_1 h_80) h_80 fun t258_2 h_81 =>
  guardM (asG t241_1 true) true (fun k_54 => callM P 33 #[t248_1] h_81 fun t249_1 h_82 =>
  k_54 t249_1 h_82) h_81 fun t249_2 h_83 =>
  (∃ b_4 : Bool, asG t241_1 true = .bool b_4 ∧ (b_4 = true → ∀ w : World, w.heap = h_83 → (Instr.loadAt 3 t257_2).run P w = .ok t258_2 w) ∧ (b_4 ≠ true → t258_2 = undef)) ∧
  (∃ b_3 : Bool, asG t241_1 true = .bool b_3 ∧ (b_3 = true → ∀ w : World, w.heap = h_83 → (Instr.loadAt 34 t254_2).run P w = .ok t255_2 w) ∧ (b_3 ≠ true → t255_2 = undef)) ∧
  (∃ b_2 : Bool, asG t241_1 true = .bool b_2 ∧ (b_2 = true → ∀ w : World, w.heap = h_83 → (Instr.loadAt 3 t246_2).run P w = .ok t247_2 w) ∧ (b_2 ≠ true → t247_2 = undef)) ∧
  (∃ b_1 : Bool, asG t241_1 true = .bool b_1 ∧ (b_1 = true → ∀ w : World, w.heap = h_83 → (Instr.loadAt 34 t243_2).run P w = .ok t244_2 w) ∧ (b_1 ≠ true → t244_2 = undef)) ∧
  guardM (asG t241_1 true) true (fun k_55 => pop P (binA .add 3 t247_2 t249_2) fun t250_1 =>
  k_55 t250_1 h_83) h_83 fun t250_2 h_84 =>
  guardM (asG t241_1 true) true (fun k_56 => pop P (binA .rem 3 t250_2 t252_2) fun t253_1 =>
  k_56 t253_1 h_84) h_84 fun t253_2 h_85 =>
  guardM (asG t241_1 true) true (fun k_57 => pop P (binE .neq 3 (.tmp 253) (.tmp 258) t253_2 t258_2) fun t259_1 =>
  k_57 t259_1 h_85) h_85 fun t259_2 h_86 =>
  pop P (pickS t241_1 t259_2 (Value.bool false)) fun t260_1 =>
  condM t260_1
  (K (Value.bool false) h_86)
  (pop P (binA .add 3 t191_1 (Value.int IntKind.i64 1)) fun t261_1 =>
  I_1 [total24_2, t261_1] h_86 ∧ μ_1 [total24_2, t261_1] h_86 < μ_1 [total24_1, t191_1] h_60))))
  (pop P (binE .neq 3 (.tmp 262) (.tmp 263) total24_1 t68_1) fun t264_1 =>
  guardM (asG t264_1 false) false (fun k_58 => k_58 t88_1 h_60) h_60 fun t266_1 h_87 =>
  guardM (asG t264_1 false) false (fun k_59 => callM P 33 #[t266_1] h_87 fun t267_1 h_88 =>
  k_59 t267_1 h_88) h_87 fun t267_2 h_89 =>
  guardM (asG t264_1 false) false (fun k_60 => k_60 t68_1 h_89) h_89 fun t268_1 h_90 =>
  guardM (asG t264_1 false) false (fun k_61 => pop P (binE .neq 3 (.tmp 267) (.tmp 268) t267_2 t268_1) fun t269_1 =>
  k_61 t269_1 h_90) h_90 fun t269_2 h_91 =>
  pop P (pickS t264_1 (Value.bool true) t269_2) fun t270_1 =>
  guardM (asG t270_1 false) false (fun k_62 => k_62 t188_1 h_91) h_91 fun t272_1 h_92 =>
  guardM (asG t270_1 false) false (fun k_63 => k_63 t88_1 h_92) h_92 fun t273_1 h_93 =>
  guardM (asG t270_1 false) false (fun k_64 => callM P 31 #[t272_1, t273_1] h_93 fun t274_1 h_94 =>
  k_64 t274_1 h_94) h_93 fun t274_2 h_95 =>
  guardM (asG t270_1 false) false (fun k_65 => pop P (Op.unary .not t274_2) fun t275_1 =>
  k_65 t275_1 h_95) h_95 fun t275_2 h_96 =>
  pop P (pickS t270_1 (Value.bool true) t275_2) fun t276_1 =>
  guardM (asG t276_1 false) false (fun k_66 => rop P (Instr.loadAt 41 g5_1) h_96 fun t278_1 =>
  k_66 t278_1 h_96) h_96 fun t278_2 h_97 =>
  guardM (asG t276_1 false) false (fun k_67 => rop P (Instr.loadAt 43 end16_1) h_97 fun t279_1 =>
  k_67 t279_1 h_97) h_97 fun t279_2 h_98 =>
  guardM (asG t276_1 false) false (fun k_68 => callM P 34 #[t278_2, t279_2] h_98 fun t280_1 h_99 =>
  k_68 t280_1 h_99) h_98 fun t280_2 h_100 =>
  guardM (asG t276_1 false) false (fun k_69 => pop P (Op.unary .not t280_2) fun t281_1 =>
  k_69 t281_1 h_100) h_100 fun t281_2 h_101 =>
  pop P (pickS t276_1 (Value.bool true) t281_2) fun t282_1 =>
  condM t282_1
  (K (Value.bool false) h_101)
  (J_1 [] h_101)))
  (J_1 [] h_58)) ∧
  ∀ (junk_5 : Nat → Value) (h_102 : Heap), J_1 [] h_102 →
  ∃ J_4 : List Value → Heap → Prop, (condM t117_1
  (rop P (Instr.loadAt 43 w6_1) h_102 fun t284_1 =>
  eop P (Instr.alloc 43 true (.tuple #[])) h_102 fun now32_1 h_103 =>
  uop P (Instr.storeAt 43 now32_1 t284_1) h_103 fun u_6 h_104 =>
  pop P (lenS 34 3 t116_1) fun t286_1 =>
  ∃ (I_3 : List Value → Heap → Prop) (μ_3 : List Value → Heap → Nat), I_3 [(Value.int IntKind.i64 0)] h_104 ∧
  ∀ (junk_6 : Nat → Value) (t287_1 : Value) (h_105 : Heap), I_3 [t287_1] h_105 →
  pop P (binA .lss 3 t287_1 t286_1) fun t288_1 =>
  condM t288_1
  (pop P (Instr.indexAt 34 t116_1 t287_1) fun t290_1 =>
  rop P (Instr.loadAt 3 t290_1) h_105 fun t291_1 =>
  pop P (Instr.fieldAt 43 now32_1 1) fun t292_1 =>
  rop P (Instr.loadAt 3 t292_1) h_105 fun t293_1 =>
  pop P (binE .neq 3 (.tmp 293) (.tmp 294) t293_1 t291_1) fun t295_1 =>
  condM t295_1
  (K (Value.bool false) h_105)
  (pop P (binA .add 3 t287_1 (Value.int IntKind.i64 1)) fun t297_1 =>
  pop P (lenS 34 3 t116_1) fun t299_1 =>
  pop P (binA .lss 3 t297_1 t299_1) fun t300_1 =>
  condM t300_1
  (rop P (Instr.loadAt 41 g5_1) h_105 fun t302_1 =>
  rop P (Instr.loadAt 43 now32_1) h_105 fun t303_1 =>
  callM P 35 #[t302_1, t303_1] h_105 fun t304_1 h_106 =>
  pop P (Instr.extract t304_1 0) fun t305_1 =>
  pop P (Instr.extract t304_1 1) fun t306_1 =>
  eop P (Instr.alloc 43 true (.tuple #[])) h_106 fun next35_1 h_107 =>
  uop P (Instr.storeAt 43 next35_1 t305_1) h_107 fun u_7 h_108 =>
  pop P (Op.unary .not t306_1) fun t308_1 =>
  condM t308_1
  (K (Value.bool false) h_108)
  (rop P (Instr.loadAt 43 next35_1) h_108 fun t309_1 =>
  uop P (Instr.storeAt 43 now32_1 t309_1) h_108 fun u_8 h_109 =>
  pop P (binA .add 3 t287_1 (Value.int IntKind.i64 1)) fun t310_1 =>
  I_3 [t310_1] h_109 ∧ μ_3 [t310_1] h_109 < μ_3 [t287_1] h_105))
  (pop P (binA .add 3 t287_1 (Value.int IntKind.i64 1)) fun t310_2 =>
  I_3 [t310_2] h_105 ∧ μ_3 [t310_2] h_105 < μ_3 [t287_1] h_105)))
  (pop P (lenS 34 3 t116_1) fun t312_1 =>
  pop P (binA .add 3 t68_1 (Value.int IntKind.i64 1)) fun t314_1 =>
  pop P (binE .neq 3 (.tmp 312) (.tmp 314) t312_1 t314_1) fun t315_1 =>
  guardM (asG t315_1 false) false (fun k_70 => rop P (Instr.loadAt 43 now32_1) h_105 fun t317_1 =>
  k_70 t317_1 h_105) h_105 fun t317_2 h_110 =>
  guardM (asG t315_1 false) false (fun k_71 => rop P (Instr.loadAt 43 end16_1) h_110 fun t318_1 =>
  k_71 t318_1 h_110) h_110 fun t318_2 h_111 =>
  guardM (asG t315_1 false) false (fun k_72 => callM P 32 #[t317_2, t318_2] h_111 fun t319_1 h_112 =>
  k_72 t319_1 h_112) h_111 fun t319_2 h_113 =>
  guardM (asG t315_1 false) false (fun k_73 => pop P (Op.unary .not t319_2) fun t320_1 =>
  k_73 t320_1 h_113) h_113 fun t320_2 h_114 =>
  pop P (pickS t315_1 (Value.bool true) t320_2) fun t321_1 =>
  condM t321_1
  (K (Value.bool false) h_114)
  (J_4 [] h_114)))
  (J_4 [] h_102)) ∧
  ∀ (junk_7 : Nat → Value) (h_115 : Heap), J_4 [] h_115 →
  callM P 36 #[more1_1] h_115 fun t324_1 h_116 =>
  pop P (Instr.extract t324_1 0) fun t325_1 =>
  pop P (Instr.extract t324_1 1) fun t326_1 =>
  eop P (Instr.alloc 41 true (.tuple #[])) h_116 fun h37_1 h_117 =>
  eop P (Instr.alloc 43 true (.tuple #[])) h_117 fun v38_1 h_118 =>
  uop P (Instr.storeAt 41 h37_1 t325_1) h_118 fun u_9 h_119 =>
  uop P (Instr.storeAt 43 v38_1 t326_1) h_119 fun u_10 h_120 =>
  rop P (Instr.loadAt 41 h37_1) h_120 fun t328_1 =>
  rop P (Instr.loadAt 43 v38_1) h_120 fun t329_1 =>
  callM P 35 #[t328_1, t329_1] h_120 fun t330_1 h_121 =>
  pop P (Instr.extract t330_1 0) fun t331_1 =>
  pop P (Instr.extract t330_1 1) fun t332_1 =>
  eop P (Instr.alloc 43 true (.tuple #[])) h_121 fun step39_1 h_122 =>
  uop P (Instr.storeAt 43 step39_1 t331_1) h_122 fun u_11 h_123 =>
  rop P (Instr.loadAt 41 h37_1) h_123 fun t334_1 =>
  rop P (Instr.loadAt 43 v38_1) h_123 fun t335_1 =>
  callM P 37 #[t334_1, t335_1] h_123 fun t336_1 h_124 =>
  pop P (Instr.extract t336_1 0) fun t337_1 =>
  pop P (Instr.extract t336_1 1) fun t338_1 =>
  eop P (Instr.alloc 43 true (.tuple #[])) h_124 fun value41_1 h_125 =>
  uop P (Instr.storeAt 43 value41_1 t337_1) h_125 fun u_12 h_126 =>
  rop P (Instr.loadAt 41 h37_1) h_126 fun t340_1 =>
  rop P (Instr.loadAt 43 v38_1) h_126 fun t341_1 =>
  callM P 38 #[t340_1, t341_1] h_126 fun t342_1 h_127 =>
  pop P (Instr.extract t342_1 0) fun t343_1 =>
  pop P (Instr.extract t342_1 1) fun t344_1 =>
  rop P (Instr.loadAt 41 h37_1) h_127 fun t346_1 =>
  rop P (Instr.loadAt 43 v38_1) h_127 fun t347_1 =>
  callM P 39 #[t346_1, t347_1] h_127 fun t348_1 h_128 =>
  pop P (Instr.extract t348_1 0) fun t349_1 =>
  pop P (Instr.extract t348_1 1) fun t350_1 =>
  rop P (Instr.loadAt 43 v38_1) h_128 fun t352_1 =>
  callM P 40 #[t352_1] h_128 fun t353_1 h_129 =>
  pop P (Instr.extract t353_1 0) fun t354_1 =>
  pop P (Instr.extract t353_1 1) fun t355_1 =>
  rop P (Instr.loadAt 43 v38_1) h_129 fun t357_1 =>
  callM P 41 #[t357_1] h_129 fun t358_1 h_130 =>
  pop P (Instr.extract t358_1 0) fun t359_1 =>
  pop P (Instr.extract t358_1 1) fun t360_1 =>
  pop P (binE .neq 4 (.tmp 361) (.tmp 362) t332_1 t338_1) fun t363_1 =>
  guardM (asG t363_1 false) false (fun k_74 => rop P (Instr.loadAt 43 step39_1) h_130 fun t365_1 =>
  k_74 t365_1 h_130) h_130 fun t365_2 h_131 =>
  guardM (asG t363_1 false) false (fun k_75 => rop P (Instr.loadAt 43 value41_1) h_131 fun t366_1 =>
  k_75 t366_1 h_131) h_131 fun t366_2 h_132 =>
  guardM (asG t363_1 false) false (fun k_76 => callM P 32 #[t365_2, t366_2] h_132 fun t367_1 h_133 =>
  k_76 t367_1 h_133) h_132 fun t367_2 h_134 =>
  guardM (asG t363_1 false) false (fun k_77 => pop P (Op.unary .not t367_2) fun t368_1 =>
  k_77 t368_1 h_134) h_134 fun t368_2 h_135 =>
  pop P (pickS t363_1 (Value.bool true) t368_2) fun t369_1 =>
  guardM (asG t369_1 false) false (fun k_78 => k_78 t344_1 h_135) h_135 fun t371_1 h_136 =>
  guardM (asG t369_1 false) false (fun k_79 => k_79 t350_1 h_136) h_136 fun t372_1 h_137 =>
  guardM (asG t369_1 false) false (fun k_80 => pop P (binE .neq 4 (.tmp 371) (.tmp 372) t371_1 t372_1) fun t373_1 =>
  k_80 t373_1 h_137) h_137 fun t373_2 h_138 =>
  pop P (pickS t369_1 (Value.bool true) t373_2) fun t374_1 =>
  guardM (asG t374_1 false) false (fun k_81 => k_81 t343_1 h_138) h_138 fun t376_1 h_139 =>
  guardM (asG t374_1 false) false (fun k_82 => k_82 t349_1 h_139) h_139 fun t377_1 h_140 =>
  guardM (asG t374_1 false) false (fun k_83 => callM P 42 #[t376_1, t377_1] h_140 fun t378_1 h_141 =>
  k_83 t378_1 h_141) h_140 fun t378_2 h_142 =>
  guardM (asG t374_1 false) false (fun k_84 => pop P (Op.unary .not t378_2) fun t379_1 =>
  k_84 t379_1 h_142) h_142 fun t379_2 h_143 =>
  pop P (pickS t374_1 (Value.bool true) t379_2) fun t380_1 =>
  guardM (asG t380_1 false) false (fun k_85 => k_85 t355_1 h_143) h_143 fun t382_1 h_144 =>
  guardM (asG t380_1 false) false (fun k_86 => k_86 t360_1 h_144) h_144 fun t383_1 h_145 =>
  guardM (asG t380_1 false) false (fun k_87 => pop P (binE .neq 4 (.tmp 382) (.tmp 383) t382_1 t383_1) fun t384_1 =>
  k_87 t384_1 h_145) h_145 fun t384_2 h_146 =>
  pop P (pickS t380_1 (Value.bool true) t384_2) fun t385_1 =>
  guardM (asG t385_1 false) false (fun k_88 => k_88 t354_1 h_146) h_146 fun t387_1 h_147 =>
  guardM (asG t385_1 false) false (fun k_89 => k_89 t359_1 h_147) h_147 fun t388_1 h_148 =>
  guardM (asG t385_1 false) false (fun k_90 => pop P (binE .neq 9 (.tmp 387) (.tmp 388) t387_1 t388_1) fun t389_1 =>
  k_90 t389_1 h_148) h_148 fun t389_2 h_149 =>
  pop P (pickS t385_1 (Value.bool true) t389_2) fun t390_1 =>
  guardM (asG t390_1 false) false (fun k_91 => rop P (Instr.loadAt 41 h37_1) h_149 fun t392_1 =>
  k_91 t392_1 h_149) h_149 fun t392_2 h_150 =>
  guardM (asG t390_1 false) false (fun k_92 => rop P (Instr.loadAt 43 v38_1) h_150 fun t393_1 =>
  k_92 t393_1 h_150) h_150 fun t393_2 h_151 =>
  guardM (asG t390_1 false) false (fun k_93 => rop P (Instr.loadAt 41 h37_1) h_151 fun t395_1 =>
  k_93 t395_1 h_151) h_151 fun t395_2 h_152 =>
  guardM (asG t390_1 false) false (fun k_94 => rop P (Instr.loadAt 43 v38_1) h_152 fun t396_1 =>
  k_94 t396_1 h_152) h_152 fun t396_2 h_153 =>
  guardM (asG t390_1 false) false (fun k_95 => callM P 34 #[t392_2, t393_2] h_153 fun t394_1 h_154 =>
  k_95 t394_1 h_154) h_153 fun t394_2 h_155 =>
  (∃ b_6 : Bool, asG t390_1 false = .bool b_6 ∧ (b_6 = false → ∀ w : World, w.heap = h_155 → (Instr.loadAt 43 v38_1).run P w = .ok t396_2 w) ∧ (b_6 ≠ false → t396_2 = undef)) ∧
  (∃ b_5 : Bool, asG t390_1 false = .bool b_5 ∧ (b_5 = false → ∀ w : World, w.heap = h_155 → (Instr.loadAt 41 h37_1).run P w = .ok t395_2 w) ∧ (b_5 ≠ false → t395_2 = undef)) ∧
  guardM (asG t390_1 false) false (fun k_96 => callM P 43 #[t395_2, t396_2] h_155 fun t397_1 h_156 =>
  k_96 t397_1 h_156) h_155 fun t397_2 h_157 =>
  guardM (asG t390_1 false) false (fun k_97 => pop P (binE .neq 4 (.tmp 394) (.tmp 397) t394_2 t397_2) fun t398_1 =>
  k_97 t398_1 h_157) h_157 fun t398_2 h_158 =>
  pop P (pickS t390_1 (Value.bool true) t398_2) fun t399_1 =>
  guardM (asG t399_1 false) false (fun k_98 => k_98 t344_1 h_158) h_158 fun t401_1 h_159 =>
  guardM (asG t399_1 false) false (fun k_99 => rop P (Instr.loadAt 41 h37_1) h_159 fun t402_1 =>
  k_99 t402_1 h_159) h_159 fun t402_2 h_160 =>
  guardM (asG t399_1 false) false (fun k_100 => rop P (Instr.loadAt 43 v38_1) h_160 fun t403_1 =>
  k_100 t403_1 h_160) h_160 fun t403_2 h_161 =>
  guardM (asG t399_1 false) false (fun k_101 => callM P 34 #[t402_2, t403_2] h_161 fun t404_1 h_162 =>
  k_101 t404_1 h_162) h_161 fun t404_2 h_163 =>
  guardM (asG t399_1 false) false (fun k_102 => pop P (binE .neq 4 (.tmp 401) (.tmp 404) t401_1 t404_2) fun t405_1 =>
  k_102 t405_1 h_163) h_163 fun t405_2 h_164 =>
  pop P (pickS t399_1 (Value.bool true) t405_2) fun t406_1 =>
  condM t406_1
  (K (Value.bool false) h_164)
  (pop P (lenS 65 3 t343_1) fun t408_1 =>
  ∃ (I_4 : List Value → Heap → Prop) (μ_4 : List Value → Heap → Nat), I_4 [(Value.int IntKind.i64 0)] h_164 ∧
  ∀ (junk_8 : Nat → Value) (t409_1 : Value) (h_165 : Heap), I_4 [t409_1] h_165 →
  pop P (binA .lss 3 t409_1 t408_1) fun t410_1 =>
  condM t410_1
  (pop P (Instr.indexAt 65 t343_1 t409_1) fun t412_1 =>
  rop P (Instr.loadAt 43 t412_1) h_165 fun t413_1 =>
  eop P (Instr.alloc 43 true (.tuple #[])) h_165 fun u52_1 h_166 =>
  uop P (Instr.storeAt 43 u52_1 t413_1) h_166 fun u_13 h_167 =>
  rop P (Instr.loadAt 41 h37_1) h_167 fun t415_1 =>
  rop P (Instr.loadAt 43 u52_1) h_167 fun t416_1 =>
  callM P 35 #[t415_1, t416_1] h_167 fun t417_1 h_168 =>
  pop P (Instr.extract t417_1 0) fun t418_1 =>
  pop P (Instr.extract t417_1 1) fun t419_1 =>
  eop P (Instr.alloc 43 true (.tuple #[])) h_168 fun next53_1 h_169 =>
  uop P (Instr.storeAt 43 next53_1 t418_1) h_169 fun u_14 h_170 =>
  pop P (Op.unary .not t419_1) fun t421_1 =>
  guardM (asG t421_1 false) false (fun k_103 => rop P (Instr.loadAt 43 next53_1) h_170 fun t423_1 =>
  k_103 t423_1 h_170) h_170 fun t423_2 h_171 =>
  guardM (asG t421_1 false) false (fun k_104 => rop P (Instr.loadAt 43 v38_1) h_171 fun t424_1 =>
  k_104 t424_1 h_171) h_171 fun t424_2 h_172 =>
  guardM (asG t421_1 false) false (fun k_105 => callM P 32 #[t423_2, t424_2] h_172 fun t425_1 h_173 =>
  k_105 t425_1 h_173) h_172 fun t425_2 h_174 =>
  guardM (asG t421_1 false) false (fun k_106 => pop P (Op.unary .not t425_2) fun t426_1 =>
  k_106 t426_1 h_174) h_174 fun t426_2 h_175 =>
  pop P (pickS t421_1 (Value.bool true) t426_2) fun t427_1 =>
  guardM (asG t427_1 false) false (fun k_107 => k_107 t409_1 h_175) h_175 fun t429_1 h_176 =>
  guardM (asG t427_1 false) false (fun k_108 => pop P (binA .gtr 3 t429_1 (Value.int IntKind.i64 0)) fun t430_1 =>
  k_108 t430_1 h_176) h_176 fun t430_2 h_177 =>
  guardM (asG t427_1 false) false (fun k_109 => k_109 t430_2 h_177) h_177 fun t431_1 h_178 =>
  guardM (asG t431_1 true) true (fun k_110 => k_110 t343_1 h_178) h_178 fun t432_1 h_179 =>
  guardM (asG t431_1 true) true (fun k_111 => k_111 t409_1 h_179) h_179 fun t433_1 h_180 =>
  guardM (asG t431_1 true) true (fun k_112 => pop P (binA .sub 3 t433_1 (Value.int IntKind.i64 1)) fun t434_1 =>
  k_112 t434_1 h_180) h_180 fun t434_2 h_181 =>
  guardM (asG t431_1 true) true (fun k_113 => pop P (Instr.indexAt 65 t432_1 t434_2) fun t435_1 =>
  k_113 t435_1 h_181) h_181 fun t435_2 h_182 =>
  guardM (asG t431_1 true) true (fun k_114 => pop P (Instr.fieldAt 43 t435_2 1) fun t436_1 =>
  k_114 t436_1 h_182) h_182 fun t436_2 h_183 =>
  guardM (asG t431_1 true) true (fun k_115 => rop P (Instr.loadAt 3 t436_2) h_183 fun t437_1 =>
  k_115 t437_1 h_183) h_183 fun t437_2 h_184 =>
  guardM (asG t431_1 true) true (fun k_116 => pop P (Instr.fieldAt 43 u52_1 1) fun t438_1 =>
  k_116 t438_1 h_184) h_184 fun t438_2 h_185 =>
  guardM (asG t431_1 true) true (fun k_117 => rop P (Instr.loadAt 3 t438_2) h_185 fun t439_1 =>
  k_117 t439_1 h_185) h_185 fun t439_2 h_186 =>
  guardM (asG t431_1 true) true (fun k_118 => pop P (binA .geq 3 t437_2 t439_2) fun t440_1 =>
  k_118 t440_1 h_186) h_186 fun t440_2 h_187 =>
  guardM (asG t427_1 false) false (fun k_119 => pop P (pickS t431_1 t440_2 (Value.bool false)) fun t441_1 =>
  k_119 t441_1 h_187) h_187 fun t441_2 h_188 =>
  pop P (pickS t427_1 (Value.bool true) t441_2) fun t442_1 =>
  condM t442_1
  (K (Value.bool false) h_188)
  (pop P (binA .add 3 t409_1 (Value.int IntKind.i64 1)) fun t443_1 =>
  I_4 [t443_1] h_188 ∧ μ_4 [t443_1] h_188 < μ_4 [t409_1] h_165))
  (condM t332_1
  (rop P (Instr.loadAt 41 h37_1) h_165 fun t446_1 =>
  rop P (Instr.loadAt 43 step39_1) h_165 fun t447_1 =>
  callM P 38 #[t446_1, t447_1] h_165 fun t448_1 h_189 =>
  pop P (Instr.extract t448_1 0) fun t449_1 =>
  pop P (Instr.extract t448_1 1) fun t450_1 =>
  pop P (lenS 65 3 t449_1) fun t452_1 =>
  ∃ (I_5 : List Value → Heap → Prop) (μ_5 : List Value → Heap → Nat), I_5 [(Value.bool false), (Value.int IntKind.i64 0)] h_189 ∧
  ∀ (junk_9 : Nat → Value) (found57_1 : Value) (t453_1 : Value) (h_190 : Heap), I_5 [found57_1, t453_1] h_190 →
  pop P (binA .lss 3 t453_1 t452_1) fun t454_1 =>
  condM t454_1
  (pop P (Instr.indexAt 65 t449_1 t453_1) fun t455_1 =>
  rop P (Instr.loadAt 43 t455_1) h_190 fun t456_1 =>
  eop P (Instr.alloc 43 true (.tuple #[])) h_190 fun u59_1 h_191 =>
  uop P (Instr.storeAt 43 u59_1 t456_1) h_191 fun u_15 h_192 =>
  guardM (asG found57_1 false) false (fun k_120 => rop P (Instr.loadAt 43 u59_1) h_192 fun t459_1 =>
  k_120 t459_1 h_192) h_192 fun t459_2 h_193 =>
  guardM (asG found57_1 false) false (fun k_121 => rop P (Instr.loadAt 43 v38_1) h_193 fun t460_1 =>
  k_121 t460_1 h_193) h_193 fun t460_2 h_194 =>
  guardM (asG found57_1 false) false (fun k_122 => callM P 32 #[t459_2, t460_2] h_194 fun t461_1 h_195 =>
  k_122 t461_1 h_195) h_194 fun t461_2 h_196 =>
  pop P (pickS found57_1 (Value.bool true) t461_2) fun t462_1 =>
  pop P (binA .add 3 t453_1 (Value.int IntKind.i64 1)) fun t463_1 =>
  I_5 [t462_1, t463_1] h_196 ∧ μ_5 [t462_1, t463_1] h_196 < μ_5 [found57_1, t453_1] h_190)
  (guardM (asG t450_1 true) true (fun k_123 => k_123 found57_1 h_190) h_190 fun t466_1 h_197 =>
  pop P (pickS t450_1 t466_1 (Value.bool false)) fun t467_1 =>
  K t467_1 h_197))
  (K (Value.bool true) h_165)))))
theorem e5 (code0_1 : Value) (more1_1 : Value) (h : Heap) (K : Value → Heap → Prop) : wpA Tryd.prog 468 (anOf [(8191, []), (16383, []), (2096986, [24, 191]), (2097066, [287]), (67108858, [409]), (2147314074, [24, 28, 29, 199]), (4294967130, [57, 453]), (137428100761, [28]), (274856201523, [29])]) (bodyOf Tryd.f5) 1 (fun A h => resA Tryd.prog A h K [.tmp 4]) (fun _ _ _ => False) (fun A h => resA Tryd.prog A h K [.tmp 4]) (aargs [code0_1, more1_1] 0) h = t5 Tryd.prog code0_1 more1_1 h K := by kernel_rfl
theorem c5 (code0_1 : Value) (more1_1 : Value) (h : Heap) (K : Value → Heap → Prop) (H : t5 Tryd.prog code0_1 more1_1 h K) : callM Tryd.prog 5 #[code0_1, more1_1] h K :=
  callM_of_wpA mixed (fn := Tryd.f5) Tryd.func5 (c := bodyOf Tryd.f5) rfl (of_decide_eq_true (by kernel_rfl)) (anOf [(8191, []), (16383, []), (2096986, [24, 191]), (2097066, [287]), (67108858, [409]), (2147314074, [24, 28, 29, 199]), (4294967130, [57, 453]), (137428100761, [28]), (274856201523, [29])]) 466 468 (by kernel_rfl) rfl [.tmp 4] (by kernel_rfl) (args := [code0_1, more1_1]) (by rw [e5]; exact H)
def t20 (P : Program) (code0_1 : Value) (more1_1 : Value) (h : Heap) (K : Value → Heap → Prop) : Prop :=
  pop P (lenS 48 3 code0_1) fun t6_1 =>
  pop P (binA .gtr 3 t6_1 (Value.int IntKind.i64 1048576)) fun t7_1 =>
  guardM (asG t7_1 false) false (fun k_1 => k_1 more1_1 h) h fun t9_1 h_1 =>
  guardM (asG t7_1 false) false (fun k_2 => pop P (lenS 48 3 t9_1) fun t10_1 =>
  k_2 t10_1 h_1) h_1 fun t10_2 h_2 =>
  guardM (asG t7_1 false) false (fun k_3 => k_3 code0_1 h_2) h_2 fun t11_1 h_3 =>
  guardM (asG t7_1 false) false (fun k_4 => pop P (lenS 48 3 t11_1) fun t12_1 =>
  k_4 t12_1 h_3) h_3 fun t12_2 h_4 =>
  guardM (asG t7_1 false) false (fun k_5 => pop P (binA .sub 3 (Value.int IntKind.i64 1048576) t12_2) fun t13_1 =>
  k_5 t13_1 h_4) h_4 fun t13_2 h_5 =>
  guardM (asG t7_1 false) false (fun k_6 => pop P (binA .gtr 3 t10_2 t13_2) fun t14_1 =>
  k_6 t14_1 h_5) h_5 fun t14_2 h_6 =>
  pop P (pickS t7_1 (Value.bool true) t14_2) fun t15_1 =>
  K t15_1 h_6
theorem e20 (code0_1 : Value) (more1_1 : Value) (h : Heap) (K : Value → Heap → Prop) : wpA Tryd.prog 16 (anOf []) (bodyOf Tryd.f20) 1 (fun A h => resA Tryd.prog A h K [.tmp 4]) (fun _ _ _ => False) (fun A h => resA Tryd.prog A h K [.tmp 4]) (aargs [code0_1, more1_1] 0) h = t20 Tryd.prog code0_1 more1_1 h K := by kernel_rfl
theorem c20 (code0_1 : Value) (more1_1 : Value) (h : Heap) (K : Value → Heap → Prop) (H : t20 Tryd.prog code0_1 more1_1 h K) : callM Tryd.prog 20 #[code0_1, more1_1] h K :=
  callM_of_wpA mixed (fn := Tryd.f20) Tryd.func20 (c := bodyOf Tryd.f20) rfl (of_decide_eq_true (by kernel_rfl)) (anOf []) 14 16 (by kernel_rfl) rfl [.tmp 4] (by kernel_rfl) (args := [code0_1, more1_1]) (by rw [e20]; exact H)
def t21 (P : Program) (code0_1 : Value) (h : Heap) (K : Value → Heap → Prop) : Prop :=
  eop P (Instr.alloc 41 true (.tuple #[])) h fun t2_1 h_1 =>
  eop P (Instr.alloc 43 true (.tuple #[])) h_1 fun t3_1 h_2 =>
  callM P 67 #[code0_1] h_2 fun t6_1 h_3 =>
  pop P (Instr.extract t6_1 0) fun t7_1 =>
  pop P (Instr.extract t6_1 1) fun t8_1 =>
  pop P (Instr.extract t6_1 2) fun t9_1 =>
  uop P (Instr.storeAt 41 t2_1 t7_1) h_3 fun u_1 h_4 =>
  uop P (Instr.storeAt 43 t3_1 t8_1) h_4 fun u_2 h_5 =>
  rop P (Instr.loadAt 41 t2_1) h_5 fun r_1 =>
  rop P (Instr.loadAt 43 t3_1) h_5 fun r_2 =>
  K (.tuple #[r_1, r_2, t9_1]) h_5
theorem e21 (code0_1 : Value) (h : Heap) (K : Value → Heap → Prop) : wpA Tryd.prog 10 (anOf []) (bodyOf Tryd.f21) 1 (fun A h => resA Tryd.prog A h K [.cell 2 41, .cell 3 43, .tmp 4]) (fun _ _ _ => False) (fun A h => resA Tryd.prog A h K [.cell 2 41, .cell 3 43, .tmp 4]) (aargs [code0_1] 0) h = t21 Tryd.prog code0_1 h K := by kernel_rfl
theorem c21 (code0_1 : Value) (h : Heap) (K : Value → Heap → Prop) (H : t21 Tryd.prog code0_1 h K) : callM Tryd.prog 21 #[code0_1] h K :=
  callM_of_wpA mixed (fn := Tryd.f21) Tryd.func21 (c := bodyOf Tryd.f21) rfl (of_decide_eq_true (by kernel_rfl)) (anOf []) 9 10 (by kernel_rfl) rfl [.cell 2 41, .cell 3 43, .tmp 4] (by kernel_rfl) (args := [code0_1]) (by rw [e21]; exact H)
def t22 (P : Program) (g0_1 : Value) (w1_1 : Value) (n2_1 : Value) (h : Heap) (K : Value → Heap → Prop) : Prop :=
  eop P (Instr.box 41 g0_1) h fun g3_1 h_1 =>
  eop P (Instr.box 43 w1_1) h_1 fun w4_1 h_2 =>
  rop P (Instr.loadAt 41 g3_1) h_2 fun t10_1 =>
  rop P (Instr.loadAt 43 w4_1) h_2 fun t11_1 =>
  callM P 68 #[t10_1, t11_1, n2_1, (Value.int IntKind.i64 2000)] h_2 fun t13_1 h_3 =>
  pop P (Op.unary .not t13_1) fun t14_1 =>
  condM t14_1
  (K (.tuple #[(Value.slice none 0 0), (Value.bool false)]) h_3)
  (∃ J_1 : List Value → Heap → Prop, (rop P (Instr.loadAt 43 w4_1) h_3 fun t15_1 =>
  rop P (Instr.loadAt 41 g3_1) h_3 fun t17_1 =>
  (callM P 69 #[t15_1] h_3 fun t16_1 h_4 =>
  (∀ w : World, w.heap = h_4 → (Instr.loadAt 41 g3_1).run P w = .ok t17_1 w) ∧
  (callM P 70 #[t17_1] h_4 fun t18_1 h_5 =>
  (eop P (Instr.alloc 43 true (.tuple #[])) h_5 fun now8_1 h_6 =>
  eop P (Instr.alloc 22 true (.tuple #[])) h_6 fun out9_1 h_7 =>
  uop P (Instr.storeAt 43 now8_1 t16_1) h_7 fun u_1 h_8 =>
  uop P (Instr.storeAt 22 out9_1 t18_1) h_8 fun u_2 h_9 =>
  J_1 [now8_1, out9_1] h_9) ∧
  (eop P (Instr.alloc 22 true (.tuple #[])) h_5 fun out9_2 h_10 =>
  eop P (Instr.alloc 43 true (.tuple #[])) h_10 fun now8_2 h_11 =>
  uop P (Instr.storeAt 43 now8_2 t16_1) h_11 fun u_3 h_12 =>
  uop P (Instr.storeAt 22 out9_2 t18_1) h_12 fun u_4 h_13 =>
  J_1 [now8_2, out9_2] h_13)) ∧
  (eop P (Instr.alloc 43 true (.tuple #[])) h_4 fun now8_3 h_14 =>
  (∀ w : World, w.heap = h_14 → (Instr.loadAt 41 g3_1).run P w = .ok t17_1 w) ∧
  (callM P 70 #[t17_1] h_14 fun t18_2 h_15 =>
  eop P (Instr.alloc 22 true (.tuple #[])) h_15 fun out9_3 h_16 =>
  uop P (Instr.storeAt 43 now8_3 t16_1) h_16 fun u_5 h_17 =>
  uop P (Instr.storeAt 22 out9_3 t18_2) h_17 fun u_6 h_18 =>
  J_1 [now8_3, out9_3] h_18) ∧
  (eop P (Instr.alloc 22 true (.tuple #[])) h_14 fun out9_4 h_19 =>
  (∀ w : World, w.heap = h_19 → (Instr.loadAt 41 g3_1).run P w = .ok t17_1 w) ∧
  callM P 70 #[t17_1] h_19 fun t18_3 h_20 =>
  uop P (Instr.storeAt 43 now8_3 t16_1) h_20 fun u_7 h_21 =>
  uop P (Instr.storeAt 22 out9_4 t18_3) h_21 fun u_8 h_22 =>
  J_1 [now8_3, out9_4] h_22)) ∧
  (eop P (Instr.alloc 22 true (.tuple #[])) h_4 fun out9_5 h_23 =>
  (∀ w : World, w.heap = h_23 → (Instr.loadAt 41 g3_1).run P w = .ok t17_1 w) ∧
  (callM P 70 #[t17_1] h_23 fun t18_4 h_24 =>
  eop P (Instr.alloc 43 true (.tuple #[])) h_24 fun now8_4 h_25 =>
  uop P (Instr.storeAt 43 now8_4 t16_1) h_25 fun u_9 h_26 =>
  uop P (Instr.storeAt 22 out9_5 t18_4) h_26 fun u_10 h_27 =>
  J_1 [now8_4, out9_5] h_27) ∧
  (eop P (Instr.alloc 43 true (.tuple #[])) h_23 fun now8_5 h_28 =>
  (∀ w : World, w.heap = h_28 → (Instr.loadAt 41 g3_1).run P w = .ok t17_1 w) ∧
  callM P 70 #[t17_1] h_28 fun t18_5 h_29 =>
  uop P (Instr.storeAt 43 now8_5 t16_1) h_29 fun u_11 h_30 =>
  uop P (Instr.storeAt 22 out9_5 t18_5) h_30 fun u_12 h_31 =>
  J_1 [now8_5, out9_5] h_31))) ∧
  (eop P (Instr.alloc 43 true (.tuple #[])) h_3 fun now8_6 h_32 =>
  (∀ w : World, w.heap = h_32 → (Instr.loadAt 41 g3_1).run P w = .ok t17_1 w) ∧
  (∀ w : World, w.heap = h_32 → (Instr.loadAt 43 w4_1).run P w = .ok t15_1 w) ∧
  (callM P 69 #[t15_1] h_32 fun t16_2 h_33 =>
  (∀ w : World, w.heap = h_33 → (Instr.loadAt 41 g3_1).run P w = .ok t17_1 w) ∧
  (callM P 70 #[t17_1] h_33 fun t18_6 h_34 =>
  eop P (Instr.alloc 22 true (.tuple #[])) h_34 fun out9_6 h_35 =>
  uop P (Instr.storeAt 43 now8_6 t16_2) h_35 fun u_13 h_36 =>
  uop P (Instr.storeAt 22 out9_6 t18_6) h_36 fun u_14 h_37 =>
  J_1 [now8_6, out9_6] h_37) ∧
  (eop P (Instr.alloc 22 true (.tuple #[])) h_33 fun out9_7 h_38 =>
  (∀ w : World, w.heap = h_38 → (Instr.loadAt 41 g3_1).run P w = .ok t17_1 w) ∧
  callM P 70 #[t17_1] h_38 fun t18_7 h_39 =>
  uop P (Instr.storeAt 43 now8_6 t16_2) h_39 fun u_15 h_40 =>
  uop P (Instr.storeAt 22 out9_7 t18_7) h_40 fun u_16 h_41 =>
  J_1 [now8_6, out9_7] h_41)) ∧
  (eop P (Instr.alloc 22 true (.tuple #[])) h_32 fun out9_8 h_42 =>
  (∀ w : World, w.heap = h_42 → (Instr.loadAt 41 g3_1).run P w = .ok t17_1 w) ∧
  (∀ w : World, w.heap = h_42 → (Instr.loadAt 43 w4_1).run P w = .ok t15_1 w) ∧
  callM P 69 #[t15_1] h_42 fun t16_3 h_43 =>
  (∀ w : World, w.heap = h_43 → (Instr.loadAt 41 g3_1).run P w = .ok t17_1 w) ∧
  callM P 70 #[t17_1] h_43 fun t18_8 h_44 =>
  uop P (Instr.storeAt 43 now8_6 t16_3) h_44 fun u_17 h_45 =>
  uop P (Instr.storeAt 22 out9_8 t18_8) h_45 fun u_18 h_46 =>
  J_1 [now8_6, out9_8] h_46)) ∧
  (eop P (Instr.alloc 22 true (.tuple #[])) h_3 fun out9_9 h_47 =>
  (∀ w : World, w.heap = h_47 → (Instr.loadAt 41 g3_1).run P w = .ok t17_1 w) ∧
  (∀ w : World, w.heap = h_47 → (Instr.loadAt 43 w4_1).run P w = .ok t15_1 w) ∧
  (callM P 69 #[t15_1] h_47 fun t16_4 h_48 =>
  (∀ w : World, w.heap = h_48 → (Instr.loadAt 41 g3_1).run P w = .ok t17_1 w) ∧
  (callM P 70 #[t17_1] h_48 fun t18_9 h_49 =>
  eop P (Instr.alloc 43 true (.tuple #[])) h_49 fun now8_7 h_50 =>
  uop P (Instr.storeAt 43 now8_7 t16_4) h_50 fun u_19 h_51 =>
  uop P (Instr.storeAt 22 out9_9 t18_9) h_51 fun u_20 h_52 =>
  J_1 [now8_7, out9_9] h_52) ∧
  (eop P (Instr.alloc 43 true (.tuple #[])) h_48 fun now8_8 h_53 =>
  (∀ w : World, w.heap = h_53 → (Instr.loadAt 41 g3_1).run P w = .ok t17_1 w) ∧
  callM P 70 #[t17_1] h_53 fun t18_10 h_54 =>
  uop P (Instr.storeAt 43 now8_8 t16_4) h_54 fun u_21 h_55 =>
  uop P (Instr.storeAt 22 out9_9 t18_10) h_55 fun u_22 h_56 =>
  J_1 [now8_8, out9_9] h_56)) ∧
  (eop P (Instr.alloc 43 true (.tuple #[])) h_47 fun now8_9 h_57 =>
  (∀ w : World, w.heap = h_57 → (Instr.loadAt 41 g3_1).run P w = .ok t17_1 w) ∧
  (∀ w : World, w.heap = h_57 → (Instr.loadAt 43 w4_1).run P w = .ok t15_1 w) ∧
  callM P 69 #[t15_1] h_57 fun t16_5 h_58 =>
  (∀ w : World, w.heap = h_58 → (Instr.loadAt 41 g3_1).run P w = .ok t17_1 w) ∧
  callM P 70 #[t17_1] h_58 fun t18_11 h_59 =>
  uop P (Instr.storeAt 43 now8_9 t16_5) h_59 fun u_23 h_60 =>
  uop P (Instr.storeAt 22 out9_9 t18_11) h_60 fun u_24 h_61 =>
  J_1 [now8_9, out9_9] h_61))) ∧
  ∀ (junk_1 : Nat → Value) (now8_10 : Value) (out9_10 : Value) (h_62 : Heap), J_1 [now8_10, out9_10] h_62 →
  rop P (Instr.loadAt 41 g3_1) h_62 fun t19_1 =>
  pop P (Instr.makeFunc (Fn.func 72) #[] #[out9_10, now8_10]) fun t21_1 =>
  callM P 71 #[t19_1, now8_10, n2_1, t21_1] h_62 fun t22_1 h_63 =>
  pop P (Op.unary .not t22_1) fun t23_1 =>
  condM t23_1
  (K (.tuple #[(Value.slice none 0 0), (Value.bool false)]) h_63)
  (rop P (Instr.loadAt 22 out9_10) h_63 fun t24_1 =>
  K (.tuple #[t24_1, (Value.bool true)]) h_63))
theorem e22 (g0_1 : Value) (w1_1 : Value) (n2_1 : Value) (h : Heap) (K : Value → Heap → Prop) : wpA Tryd.prog 25 (anOf [(7, [8, 9])]) (bodyOf Tryd.f22) 1 (fun A h => resA Tryd.prog A h K [.tmp 6, .tmp 7]) (fun _ _ _ => False) (fun A h => resA Tryd.prog A h K [.tmp 6, .tmp 7]) (aargs [g0_1, w1_1, n2_1] 0) h = t22 Tryd.prog g0_1 w1_1 n2_1 h K := by kernel_rfl
theorem c22 (g0_1 : Value) (w1_1 : Value) (n2_1 : Value) (h : Heap) (K : Value → Heap → Prop) (H : t22 Tryd.prog g0_1 w1_1 n2_1 h K) : callM Tryd.prog 22 #[g0_1, w1_1, n2_1] h K :=
  callM_of_wpA mixed (fn := Tryd.f22) Tryd.func22 (c := bodyOf Tryd.f22) rfl (of_decide_eq_true (by kernel_rfl)) (anOf [(7, [8, 9])]) 22 25 (by kernel_rfl) rfl [.tmp 6, .tmp 7] (by kernel_rfl) (args := [g0_1, w1_1, n2_1]) (by rw [e22]; exact H)
def t23 (P : Program) (g0_1 : Value) (w1_1 : Value) (n2_1 : Value) (h : Heap) (K : Value → Heap → Prop) : Prop :=
  eop P (Instr.box 41 g0_1) h fun g3_1 h_1 =>
  eop P (Instr.box 43 w1_1) h_1 fun w4_1 h_2 =>
  rop P (Instr.loadAt 41 g3_1) h_2 fun t10_1 =>
  rop P (Instr.loadAt 43 w4_1) h_2 fun t11_1 =>
  callM P 73 #[t10_1, t11_1, n2_1] h_2 fun t13_1 h_3 =>
  pop P (Op.unary .not t13_1) fun t14_1 =>
  condM t14_1
  (K (.tuple #[(Value.slice none 0 0), (Value.bool false)]) h_3)
  (rop P (Instr.loadAt 41 g3_1) h_3 fun t16_1 =>
  rop P (Instr.loadAt 43 w4_1) h_3 fun t17_1 =>
  callM P 74 #[t16_1, t17_1, n2_1] h_3 fun t19_1 h_4 =>
  pop P (Instr.extract t19_1 0) fun t20_1 =>
  pop P (Instr.extract t19_1 1) fun t21_1 =>
  eop P (Instr.alloc 96 true (.tuple #[])) h_4 fun r8_1 h_5 =>
  uop P (Instr.storeAt 96 r8_1 t20_1) h_5 fun u_1 h_6 =>
  pop P (Instr.fieldAt 96 r8_1 3) fun t22_1 =>
  rop P (Instr.loadAt 22 t22_1) h_6 fun t23_1 =>
  K (.tuple #[t23_1, t21_1]) h_6)
theorem e23 (g0_1 : Value) (w1_1 : Value) (n2_1 : Value) (h : Heap) (K : Value → Heap → Prop) : wpA Tryd.prog 25 (anOf []) (bodyOf Tryd.f23) 1 (fun A h => resA Tryd.prog A h K [.tmp 6, .tmp 7]) (fun _ _ _ => False) (fun A h => resA Tryd.prog A h K [.tmp 6, .tmp 7]) (aargs [g0_1, w1_1, n2_1] 0) h = t23 Tryd.prog g0_1 w1_1 n2_1 h K := by kernel_rfl
theorem c23 (g0_1 : Value) (w1_1 : Value) (n2_1 : Value) (h : Heap) (K : Value → Heap → Prop) (H : t23 Tryd.prog g0_1 w1_1 n2_1 h K) : callM Tryd.prog 23 #[g0_1, w1_1, n2_1] h K :=
  callM_of_wpA mixed (fn := Tryd.f23) Tryd.func23 (c := bodyOf Tryd.f23) rfl (of_decide_eq_true (by kernel_rfl)) (anOf []) 22 25 (by kernel_rfl) rfl [.tmp 6, .tmp 7] (by kernel_rfl) (args := [g0_1, w1_1, n2_1]) (by rw [e23]; exact H)
def t24 (P : Program) (g0_1 : Value) (w1_1 : Value) (n2_1 : Value) (h : Heap) (K : Value → Heap → Prop) : Prop :=
  eop P (Instr.box 41 g0_1) h fun g3_1 h_1 =>
  eop P (Instr.box 43 w1_1) h_1 fun w4_1 h_2 =>
  rop P (Instr.loadAt 41 g3_1) h_2 fun t10_1 =>
  rop P (Instr.loadAt 43 w4_1) h_2 fun t11_1 =>
  callM P 68 #[t10_1, t11_1, n2_1, (Value.int IntKind.i64 2000)] h_2 fun t13_1 h_3 =>
  pop P (Op.unary .not t13_1) fun t14_1 =>
  condM t14_1
  (K (.tuple #[(Value.slice none 0 0), (Value.bool false)]) h_3)
  (∃ J_1 : List Value → Heap → Prop, (rop P (Instr.loadAt 43 w4_1) h_3 fun t15_1 =>
  pop P (Instr.fieldAt 41 g3_1 0) fun t17_1 =>
  rop P (Instr.loadAt 22 t17_1) h_3 fun t18_1 =>
  pop P (lenS 22 3 t18_1) fun t19_1 =>
  (callM P 69 #[t15_1] h_3 fun t16_1 h_4 =>
  (∀ w : World, w.heap = h_4 → (Instr.loadAt 22 t17_1).run P w = .ok t18_1 w) ∧
  (eop P (Instr.makeSlice 34 t19_1 t19_1) h_4 fun t20_1 h_5 =>
  (∀ w : World, w.heap = h_5 → (Instr.loadAt 22 t17_1).run P w = .ok t18_1 w) ∧
  (eop P (Instr.alloc 43 true (.tuple #[])) h_5 fun now8_1 h_6 =>
  (∀ w : World, w.heap = h_6 → (Instr.loadAt 22 t17_1).run P w = .ok t18_1 w) ∧
  eop P (Instr.alloc 34 true (.tuple #[])) h_6 fun out9_1 h_7 =>
  (∀ w : World, w.heap = h_7 → (Instr.loadAt 22 t17_1).run P w = .ok t18_1 w) ∧
  uop P (Instr.storeAt 43 now8_1 t16_1) h_7 fun u_1 h_8 =>
  (∀ w : World, w.heap = h_8 → (Instr.loadAt 22 t17_1).run P w = .ok t18_1 w) ∧
  uop P (Instr.storeAt 34 out9_1 t20_1) h_8 fun u_2 h_9 =>
  J_1 [now8_1, out9_1] h_9) ∧
  (eop P (Instr.alloc 34 true (.tuple #[])) h_5 fun out9_2 h_10 =>
  (∀ w : World, w.heap = h_10 → (Instr.loadAt 22 t17_1).run P w = .ok t18_1 w) ∧
  eop P (Instr.alloc 43 true (.tuple #[])) h_10 fun now8_2 h_11 =>
  (∀ w : World, w.heap = h_11 → (Instr.loadAt 22 t17_1).run P w = .ok t18_1 w) ∧
  uop P (Instr.storeAt 43 now8_2 t16_1) h_11 fun u_3 h_12 =>
  (∀ w : World, w.heap = h_12 → (Instr.loadAt 22 t17_1).run P w = .ok t18_1 w) ∧
  uop P (Instr.storeAt 34 out9_2 t20_1) h_12 fun u_4 h_13 =>
  J_1 [now8_2, out9_2] h_13)) ∧
  (eop P (Instr.alloc 43 true (.tuple #[])) h_4 fun now8_3 h_14 =>
  (∀ w : World, w.heap = h_14 → (Instr.loadAt 22 t17_1).run P w = .ok t18_1 w) ∧
  (eop P (Instr.makeSlice 34 t19_1 t19_1) h_14 fun t20_2 h_15 =>
  (∀ w : World, w.heap = h_15 → (Instr.loadAt 22 t17_1).run P w = .ok t18_1 w) ∧
  eop P (Instr.alloc 34 true (.tuple #[])) h_15 fun out9_3 h_16 =>
  (∀ w : World, w.heap = h_16 → (Instr.loadAt 22 t17_1).run P w = .ok t18_1 w) ∧
  uop P (Instr.storeAt 43 now8_3 t16_1) h_16 fun u_5 h_17 =>
  (∀ w : World, w.heap = h_17 → (Instr.loadAt 22 t17_1).run P w = .ok t18_1 w) ∧
  uop P (Instr.storeAt 34 out9_3 t20_2) h_17 fun u_6 h_18 =>
  J_1 [now8_3, out9_3] h_18) ∧
  (eop P (Instr.alloc 34 true (.tuple #[])) h_14 fun out9_4 h_19 =>
  (∀ w : World, w.heap = h_19 → (Instr.loadAt 22 t17_1).run P w = .ok t18_1 w) ∧
  (eop P (Instr.makeSlice 34 t19_1 t19_1) h_19 fun t20_3 h_20 =>
  (∀ w : World, w.heap = h_20 → (Instr.loadAt 22 t17_1).run P w = .ok t18_1 w) ∧
  uop P (Instr.storeAt 43 now8_3 t16_1) h_20 fun u_7 h_21 =>
  (∀ w : World, w.heap = h_21 → (Instr.loadAt 22 t17_1).run P w = .ok t18_1 w) ∧
  uop P (Instr.storeAt 34 out9_4 t20_3) h_21 fun u_8 h_22 =>
  J_1 [now8_3, out9_4] h_22) ∧
  (uop P (Instr.storeAt 43 now8_3 t16_1) h_19 fun u_9 h_23 =>
  (∀ w : World, w.heap = h_23 → (Instr.loadAt 22 t17_1).run P w = .ok t18_1 w) ∧
  eop P (Instr.makeSlice 34 t19_1 t19_1) h_23 fun t20_4 h_24 =>
  (∀ w : World, w.heap = h_24 → (Instr.loadAt 22 t17_1).run P w = .ok t18_1 w) ∧
  uop P (Instr.storeAt 34 out9_4 t20_4) h_24 fun u_10 h_25 =>
  J_1 [now8_3, out9_4] h_25))) ∧
  (eop P (Instr.alloc 34 true (.tuple #[])) h_4 fun out9_5 h_26 =>
  (∀ w : World, w.heap = h_26 → (Instr.loadAt 22 t17_1).run P w = .ok t18_1 w) ∧
  (eop P (Instr.makeSlice 34 t19_1 t19_1) h_26 fun t20_5 h_27 =>
  (∀ w : World, w.heap = h_27 → (Instr.loadAt 22 t17_1).run P w = .ok t18_1 w) ∧
  eop P (Instr.alloc 43 true (.tuple #[])) h_27 fun now8_4 h_28 =>
  (∀ w : World, w.heap = h_28 → (Instr.loadAt 22 t17_1).run P w = .ok t18_1 w) ∧
  uop P (Instr.storeAt 43 now8_4 t16_1) h_28 fun u_11 h_29 =>
  (∀ w : World, w.heap = h_29 → (Instr.loadAt 22 t17_1).run P w = .ok t18_1 w) ∧
  uop P (Instr.storeAt 34 out9_5 t20_5) h_29 fun u_12 h_30 =>
  J_1 [now8_4, out9_5] h_30) ∧
  (eop P (Instr.alloc 43 true (.tuple #[])) h_26 fun now8_5 h_31 =>
  (∀ w : World, w.heap = h_31 → (Instr.loadAt 22 t17_1).run P w = .ok t18_1 w) ∧
  (eop P (Instr.makeSlice 34 t19_1 t19_1) h_31 fun t20_6 h_32 =>
  (∀ w : World, w.heap = h_32 → (Instr.loadAt 22 t17_1).run P w = .ok t18_1 w) ∧
  uop P (Instr.storeAt 43 now8_5 t16_1) h_32 fun u_13 h_33 =>
  (∀ w : World, w.heap = h_33 → (Instr.loadAt 22 t17_1).run P w = .ok t18_1 w) ∧
  uop P (Instr.storeAt 34 out9_5 t20_6) h_33 fun u_14 h_34 =>
  J_1 [now8_5, out9_5] h_34) ∧
  (uop P (Instr.storeAt 43 now8_5 t16_1) h_31 fun u_15 h_35 =>
  (∀ w : World, w.heap = h_35 → (Instr.loadAt 22 t17_1).run P w = .ok t18_1 w) ∧
  eop P (Instr.makeSlice 34 t19_1 t19_1) h_35 fun t20_7 h_36 =>
  (∀ w : World, w.heap = h_36 → (Instr.loadAt 22 t17_1).run P w = .ok t18_1 w) ∧
  uop P (Instr.storeAt 34 out9_5 t20_7) h_36 fun u_16 h_37 =>
  J_1 [now8_5, out9_5] h_37)))) ∧
  (eop P (Instr.makeSlice 34 t19_1 t19_1) h_3 fun t20_8 h_38 =>
  (∀ w : World, w.heap = h_38 → (Instr.loadAt 22 t17_1).run P w = .ok t18_1 w) ∧
  (∀ w : World, w.heap = h_38 → (Instr.loadAt 43 w4_1).run P w = .ok t15_1 w) ∧
  (callM P 69 #[t15_1] h_38 fun t16_2 h_39 =>
  (∀ w : World, w.heap = h_39 → (Instr.loadAt 22 t17_1).run P w = .ok t18_1 w) ∧
  (eop P (Instr.alloc 43 true (.tuple #[])) h_39 fun now8_6 h_40 =>
  (∀ w : World, w.heap = h_40 → (Instr.loadAt 22 t17_1).run P w = .ok t18_1 w) ∧
  eop P (Instr.alloc 34 true (.tuple #[])) h_40 fun out9_6 h_41 =>
  (∀ w : World, w.heap = h_41 → (Instr.loadAt 22 t17_1).run P w = .ok t18_1 w) ∧
  uop P (Instr.storeAt 43 now8_6 t16_2) h_41 fun u_17 h_42 =>
  (∀ w : World, w.heap = h_42 → (Instr.loadAt 22 t17_1).run P w = .ok t18_1 w) ∧
  uop P (Instr.storeAt 34 out9_6 t20_8) h_42 fun u_18 h_43 =>
  J_1 [now8_6, out9_6] h_43) ∧
  (eop P (Instr.alloc 34 true (.tuple #[])) h_39 fun out9_7 h_44 =>
  (∀ w : World, w.heap = h_44 → (Instr.loadAt 22 t17_1).run P w = .ok t18_1 w) ∧
  eop P (Instr.alloc 43 true (.tuple #[])) h_44 fun now8_7 h_45 =>
  (∀ w : World, w.heap = h_45 → (Instr.loadAt 22 t17_1).run P w = .ok t18_1 w) ∧
  uop P (Instr.storeAt 43 now8_7 t16_2) h_45 fun u_19 h_46 =>
  (∀ w : World, w.heap = h_46 → (Instr.loadAt 22 t17_1).run P w = .ok t18_1 w) ∧
  uop P (Instr.storeAt 34 out9_7 t20_8) h_46 fun u_20 h_47 =>
  J_1 [now8_7, out9_7] h_47)) ∧
  (eop P (Instr.alloc 43 true (.tuple #[])) h_38 fun now8_8 h_48 =>
  (∀ w : World, w.heap = h_48 → (Instr.loadAt 22 t17_1).run P w = .ok t18_1 w) ∧
  (∀ w : World, w.heap = h_48 → (Instr.loadAt 43 w4_1).run P w = .ok t15_1 w) ∧
  (callM P 69 #[t15_1] h_48 fun t16_3 h_49 =>
  (∀ w : World, w.heap = h_49 → (Instr.loadAt 22 t17_1).run P w = .ok t18_1 w) ∧
  eop P (Instr.alloc 34 true (.tuple #[])) h_49 fun out9_8 h_50 =>
  (∀ w : World, w.heap = h_50 → (Instr.loadAt 22 t17_1).run P w = .ok t18_1 w) ∧
  uop P (Instr.storeAt 43 now8_8 t16_3) h_50 fun u_21 h_51 =>
  (∀ w : World, w.heap = h_51 → (Instr.loadAt 22 t17_1).run P w = .ok t18_1 w) ∧
  uop P (Instr.storeAt 34 out9_8 t20_8) h_51 fun u_22 h_52 =>
  J_1 [now8_8, out9_8] h_52) ∧
  (eop P (Instr.alloc 34 true (.tuple #[])) h_48 fun out9_9 h_53 =>
  (∀ w : World, w.heap = h_53 → (Instr.loadAt 22 t17_1).run P w = .ok t18_1 w) ∧
  (∀ w : World, w.heap = h_53 → (Instr.loadAt 43 w4_1).run P w = .ok t15_1 w) ∧
  callM P 69 #[t15_1] h_53 fun t16_4 h_54 =>
  (∀ w : World, w.heap = h_54 → (Instr.loadAt 22 t17_1).run P w = .ok t18_1 w) ∧
  uop P (Instr.storeAt 43 now8_8 t16_4) h_54 fun u_23 h_55 =>
  (∀ w : World, w.heap = h_55 → (Instr.loadAt 22 t17_1).run P w = .ok t18_1 w) ∧
  uop P (Instr.storeAt 34 out9_9 t20_8) h_55 fun u_24 h_56 =>
  J_1 [now8_8, out9_9] h_56)) ∧
  (eop P (Instr.alloc 34 true (.tuple #[])) h_38 fun out9_10 h_57 =>
  (∀ w : World, w.heap = h_57 → (Instr.loadAt 22 t17_1).run P w = .ok t18_1 w) ∧
  (∀ w : World, w.heap = h_57 → (Instr.loadAt 43 w4_1).run P w = .ok t15_1 w) ∧
  (callM P 69 #[t15_1] h_57 fun t16_5 h_58 =>
  (∀ w : World, w.heap = h_58 → (Instr.loadAt 22 t17_1).run P w = .ok t18_1 w) ∧
  eop P (Instr.alloc 43 true (.tuple #[])) h_58 fun now8_9 h_59 =>
  (∀ w : World, w.heap = h_59 → (Instr.loadAt 22 t17_1).run P w = .ok t18_1 w) ∧
  uop P (Instr.storeAt 43 now8_9 t16_5) h_59 fun u_25 h_60 =>
  (∀ w : World, w.heap = h_60 → (Instr.loadAt 22 t17_1).run P w = .ok t18_1 w) ∧
  uop P (Instr.storeAt 34 out9_10 t20_8) h_60 fun u_26 h_61 =>
  J_1 [now8_9, out9_10] h_61) ∧
  (eop P (Instr.alloc 43 true (.tuple #[])) h_57 fun now8_10 h_62 =>
  (∀ w : World, w.heap = h_62 → (Instr.loadAt 22 t17_1).run P w = .ok t18_1 w) ∧
  (∀ w : World, w.heap = h_62 → (Instr.loadAt 43 w4_1).run P w = .ok t15_1 w) ∧
  callM P 69 #[t15_1] h_62 fun t16_6 h_63 =>
  (∀ w : World, w.heap = h_63 → (Instr.loadAt 22 t17_1).run P w = .ok t18_1 w) ∧
  uop P (Instr.storeAt 43 now8_10 t16_6) h_63 fun u_27 h_64 =>
  (∀ w : World, w.heap = h_64 → (Instr.loadAt 22 t17_1).run P w = .ok t18_1 w) ∧
  uop P (Instr.storeAt 34 out9_10 t20_8) h_64 fun u_28 h_65 =>
  J_1 [now8_10, out9_10] h_65))) ∧
  (eop P (Instr.alloc 43 true (.tuple #[])) h_3 fun now8_11 h_66 =>
  (∀ w : World, w.heap = h_66 → (Instr.loadAt 22 t17_1).run P w = .ok t18_1 w) ∧
  (∀ w : World, w.heap = h_66 → (Instr.loadAt 43 w4_1).run P w = .ok t15_1 w) ∧
  (callM P 69 #[t15_1] h_66 fun t16_7 h_67 =>
  (∀ w : World, w.heap = h_67 → (Instr.loadAt 22 t17_1).run P w = .ok t18_1 w) ∧
  (eop P (Instr.makeSlice 34 t19_1 t19_1) h_67 fun t20_9 h_68 =>
  (∀ w : World, w.heap = h_68 → (Instr.loadAt 22 t17_1).run P w = .ok t18_1 w) ∧
  eop P (Instr.alloc 34 true (.tuple #[])) h_68 fun out9_11 h_69 =>
  (∀ w : World, w.heap = h_69 → (Instr.loadAt 22 t17_1).run P w = .ok t18_1 w) ∧
  uop P (Instr.storeAt 43 now8_11 t16_7) h_69 fun u_29 h_70 =>
  (∀ w : World, w.heap = h_70 → (Instr.loadAt 22 t17_1).run P w = .ok t18_1 w) ∧
  uop P (Instr.storeAt 34 out9_11 t20_9) h_70 fun u_30 h_71 =>
  J_1 [now8_11, out9_11] h_71) ∧
  (eop P (Instr.alloc 34 true (.tuple #[])) h_67 fun out9_12 h_72 =>
  (∀ w : World, w.heap = h_72 → (Instr.loadAt 22 t17_1).run P w = .ok t18_1 w) ∧
  (eop P (Instr.makeSlice 34 t19_1 t19_1) h_72 fun t20_10 h_73 =>
  (∀ w : World, w.heap = h_73 → (Instr.loadAt 22 t17_1).run P w = .ok t18_1 w) ∧
  uop P (Instr.storeAt 43 now8_11 t16_7) h_73 fun u_31 h_74 =>
  (∀ w : World, w.heap = h_74 → (Instr.loadAt 22 t17_1).run P w = .ok t18_1 w) ∧
  uop P (Instr.storeAt 34 out9_12 t20_10) h_74 fun u_32 h_75 =>
  J_1 [now8_11, out9_12] h_75) ∧
  (uop P (Instr.storeAt 43 now8_11 t16_7) h_72 fun u_33 h_76 =>
  (∀ w : World, w.heap = h_76 → (Instr.loadAt 22 t17_1).run P w = .ok t18_1 w) ∧
  eop P (Instr.makeSlice 34 t19_1 t19_1) h_76 fun t20_11 h_77 =>
  (∀ w : World, w.heap = h_77 → (Instr.loadAt 22 t17_1).run P w = .ok t18_1 w) ∧
  uop P (Instr.storeAt 34 out9_12 t20_11) h_77 fun u_34 h_78 =>
  J_1 [now8_11, out9_12] h_78))) ∧
  (eop P (Instr.makeSlice 34 t19_1 t19_1) h_66 fun t20_12 h_79 =>
  (∀ w : World, w.heap = h_79 → (Instr.loadAt 22 t17_1).run P w = .ok t18_1 w) ∧
  (∀ w : World, w.heap = h_79 → (Instr.loadAt 43 w4_1).run P w = .ok t15_1 w) ∧
  (callM P 69 #[t15_1] h_79 fun t16_8 h_80 =>
  (∀ w : World, w.heap = h_80 → (Instr.loadAt 22 t17_1).run P w = .ok t18_1 w) ∧
  eop P (Instr.alloc 34 true (.tuple #[])) h_80 fun out9_13 h_81 =>
  (∀ w : World, w.heap = h_81 → (Instr.loadAt 22 t17_1).run P w = .ok t18_1 w) ∧
  uop P (Instr.storeAt 43 now8_11 t16_8) h_81 fun u_35 h_82 =>
  (∀ w : World, w.heap = h_82 → (Instr.loadAt 22 t17_1).run P w = .ok t18_1 w) ∧
  uop P (Instr.storeAt 34 out9_13 t20_12) h_82 fun u_36 h_83 =>
  J_1 [now8_11, out9_13] h_83) ∧
  (eop P (Instr.alloc 34 true (.tuple #[])) h_79 fun out9_14 h_84 =>
  (∀ w : World, w.heap = h_84 → (Instr.loadAt 22 t17_1).run P w = .ok t18_1 w) ∧
  (∀ w : World, w.heap = h_84 → (Instr.loadAt 43 w4_1).run P w = .ok t15_1 w) ∧
  callM P 69 #[t15_1] h_84 fun t16_9 h_85 =>
  (∀ w : World, w.heap = h_85 → (Instr.loadAt 22 t17_1).run P w = .ok t18_1 w) ∧
  uop P (Instr.storeAt 43 now8_11 t16_9) h_85 fun u_37 h_86 =>
  (∀ w : World, w.heap = h_86 → (Instr.loadAt 22 t17_1).run P w = .ok t18_1 w) ∧
  uop P (Instr.storeAt 34 out9_14 t20_12) h_86 fun u_38 h_87 =>
  J_1 [now8_11, out9_14] h_87)) ∧
  (eop P (Instr.alloc 34 true (.tuple #[])) h_66 fun out9_15 h_88 =>
  (∀ w : World, w.heap = h_88 → (Instr.loadAt 22 t17_1).run P w = .ok t18_1 w) ∧
  (∀ w : World, w.heap = h_88 → (Instr.loadAt 43 w4_1).run P w = .ok t15_1 w) ∧
  (callM P 69 #[t15_1] h_88 fun t16_10 h_89 =>
  (∀ w : World, w.heap = h_89 → (Instr.loadAt 22 t17_1).run P w = .ok t18_1 w) ∧
  (eop P (Instr.makeSlice 34 t19_1 t19_1) h_89 fun t20_13 h_90 =>
  (∀ w : World, w.heap = h_90 → (Instr.loadAt 22 t17_1).run P w = .ok t18_1 w) ∧
  uop P (Instr.storeAt 43 now8_11 t16_10) h_90 fun u_39 h_91 =>
  (∀ w : World, w.heap = h_91 → (Instr.loadAt 22 t17_1).run P w = .ok t18_1 w) ∧
  uop P (Instr.storeAt 34 out9_15 t20_13) h_91 fun u_40 h_92 =>
  J_1 [now8_11, out9_15] h_92) ∧
  (uop P (Instr.storeAt 43 now8_11 t16_10) h_89 fun u_41 h_93 =>
  (∀ w : World, w.heap = h_93 → (Instr.loadAt 22 t17_1).run P w = .ok t18_1 w) ∧
  eop P (Instr.makeSlice 34 t19_1 t19_1) h_93 fun t20_14 h_94 =>
  (∀ w : World, w.heap = h_94 → (Instr.loadAt 22 t17_1).run P w = .ok t18_1 w) ∧
  uop P (Instr.storeAt 34 out9_15 t20_14) h_94 fun u_42 h_95 =>
  J_1 [now8_11, out9_15] h_95)) ∧
  (eop P (Instr.makeSlice 34 t19_1 t19_1) h_88 fun t20_15 h_96 =>
  (∀ w : World, w.heap = h_96 → (Instr.loadAt 22 t17_1).run P w = .ok t18_1 w) ∧
  (∀ w : World, w.heap = h_96 → (Instr.loadAt 43 w4_1).run P w = .ok t15_1 w) ∧
  callM P 69 #[t15_1] h_96 fun t16_11 h_97 =>
  (∀ w : World, w.heap = h_97 → (Instr.loadAt 22 t17_1).run P w = .ok t18_1 w) ∧
  uop P (Instr.storeAt 43 now8_11 t16_11) h_97 fun u_43 h_98 =>
  (∀ w : World, w.heap = h_98 → (Instr.loadAt 22 t17_1).run P w = .ok t18_1 w) ∧
  uop P (Instr.storeAt 34 out9_15 t20_15) h_98 fun u_44 h_99 =>
  J_1 [now8_11, out9_15] h_99))) ∧
  (eop P (Instr.alloc 34 true (.tuple #[])) h_3 fun out9_16 h_100 =>
  (∀ w : World, w.heap = h_100 → (Instr.loadAt 22 t17_1).run P w = .ok t18_1 w) ∧
  (∀ w : World, w.heap = h_100 → (Instr.loadAt 43 w4_1).run P w = .ok t15_1 w) ∧
  (callM P 69 #[t15_1] h_100 fun t16_12 h_101 =>
  (∀ w : World, w.heap = h_101 → (Instr.loadAt 22 t17_1).run P w = .ok t18_1 w) ∧
  (eop P (Instr.makeSlice 34 t19_1 t19_1) h_101 fun t20_16 h_102 =>
  (∀ w : World, w.heap = h_102 → (Instr.loadAt 22 t17_1).run P w = .ok t18_1 w) ∧
  eop P (Instr.alloc 43 true (.tuple #[])) h_102 fun now8_12 h_103 =>
  (∀ w : World, w.heap = h_103 → (Instr.loadAt 22 t17_1).run P w = .ok t18_1 w) ∧
  uop P (Instr.storeAt 43 now8_12 t16_12) h_103 fun u_45 h_104 =>
  (∀ w : World, w.heap = h_104 → (Instr.loadAt 22 t17_1).run P w = .ok t18_1 w) ∧
  uop P (Instr.storeAt 34 out9_16 t20_16) h_104 fun u_46 h_105 =>
  J_1 [now8_12, out9_16] h_105) ∧
  (eop P (Instr.alloc 43 true (.tuple #[])) h_101 fun now8_13 h_106 =>
  (∀ w : World, w.heap = h_106 → (Instr.loadAt 22 t17_1).run P w = .ok t18_1 w) ∧
  (eop P (Instr.makeSlice 34 t19_1 t19_1) h_106 fun t20_17 h_107 =>
  (∀ w : World, w.heap = h_107 → (Instr.loadAt 22 t17_1).run P w = .ok t18_1 w) ∧
  uop P (Instr.storeAt 43 now8_13 t16_12) h_107 fun u_47 h_108 =>
  (∀ w : World, w.heap = h_108 → (Instr.loadAt 22 t17_1).run P w = .ok t18_1 w) ∧
  uop P (Instr.storeAt 34 out9_16 t20_17) h_108 fun u_48 h_109 =>
  J_1 [now8_13, out9_16] h_109) ∧
  (uop P (Instr.storeAt 43 now8_13 t16_12) h_106 fun u_49 h_110 =>
  (∀ w : World, w.heap = h_110 → (Instr.loadAt 22 t17_1).run P w = .ok t18_1 w) ∧
  eop P (Instr.makeSlice 34 t19_1 t19_1) h_110 fun t20_18 h_111 =>
  (∀ w : World, w.heap = h_111 → (Instr.loadAt 22 t17_1).run P w = .ok t18_1 w) ∧
  uop P (Instr.storeAt 34 out9_16 t20_18) h_111 fun u_50 h_112 =>
  J_1 [now8_13, out9_16] h_112))) ∧
  (eop P (Instr.makeSlice 34 t19_1 t19_1) h_100 fun t20_19 h_113 =>
  (∀ w : World, w.heap = h_113 → (Instr.loadAt 22 t17_1).run P w = .ok t18_1 w) ∧
  (∀ w : World, w.heap = h_113 → (Instr.loadAt 43 w4_1).run P w = .ok t15_1 w) ∧
  (callM P 69 #[t15_1] h_113 fun t16_13 h_114 =>
  (∀ w : World, w.heap = h_114 → (Instr.loadAt 22 t17_1).run P w = .ok t18_1 w) ∧
  eop P (Instr.alloc 43 true (.tuple #[])) h_114 fun now8_14 h_115 =>
  (∀ w : World, w.heap = h_115 → (Instr.loadAt 22 t17_1).run P w = .ok t18_1 w) ∧
  uop P (Instr.storeAt 43 now8_14 t16_13) h_115 fun u_51 h_116 =>
  (∀ w : World, w.heap = h_116 → (Instr.loadAt 22 t17_1).run P w = .ok t18_1 w) ∧
  uop P (Instr.storeAt 34 out9_16 t20_19) h_116 fun u_52 h_117 =>
  J_1 [now8_14, out9_16] h_117) ∧
  (eop P (Instr.alloc 43 true (.tuple #[])) h_113 fun now8_15 h_118 =>
  (∀ w : World, w.heap = h_118 → (Instr.loadAt 22 t17_1).run P w = .ok t18_1 w) ∧
  (∀ w : World, w.heap = h_118 → (Instr.loadAt 43 w4_1).run P w = .ok t15_1 w) ∧
  callM P 69 #[t15_1] h_118 fun t16_14 h_119 =>
  (∀ w : World, w.heap = h_119 → (Instr.loadAt 22 t17_1).run P w = .ok t18_1 w) ∧
  uop P (Instr.storeAt 43 now8_15 t16_14) h_119 fun u_53 h_120 =>
  (∀ w : World, w.heap = h_120 → (Instr.loadAt 22 t17_1).run P w = .ok t18_1 w) ∧
  uop P (Instr.storeAt 34 out9_16 t20_19) h_120 fun u_54 h_121 =>
  J_1 [now8_15, out9_16] h_121)) ∧
  (eop P (Instr.alloc 43 true (.tuple #[])) h_100 fun now8_16 h_122 =>
  (∀ w : World, w.heap = h_122 → (Instr.loadAt 22 t17_1).run P w = .ok t18_1 w) ∧
  (∀ w : World, w.heap = h_122 → (Instr.loadAt 43 w4_1).run P w = .ok t15_1 w) ∧
  (callM P 69 #[t15_1] h_122 fun t16_15 h_123 =>
  (∀ w : World, w.heap = h_123 → (Instr.loadAt 22 t17_1).run P w = .ok t18_1 w) ∧
  (eop P (Instr.makeSlice 34 t19_1 t19_1) h_123 fun t20_20 h_124 =>
  (∀ w : World, w.heap = h_124 → (Instr.loadAt 22 t17_1).run P w = .ok t18_1 w) ∧
  uop P (Instr.storeAt 43 now8_16 t16_15) h_124 fun u_55 h_125 =>
  (∀ w : World, w.heap = h_125 → (Instr.loadAt 22 t17_1).run P w = .ok t18_1 w) ∧
  uop P (Instr.storeAt 34 out9_16 t20_20) h_125 fun u_56 h_126 =>
  J_1 [now8_16, out9_16] h_126) ∧
  (uop P (Instr.storeAt 43 now8_16 t16_15) h_123 fun u_57 h_127 =>
  (∀ w : World, w.heap = h_127 → (Instr.loadAt 22 t17_1).run P w = .ok t18_1 w) ∧
  eop P (Instr.makeSlice 34 t19_1 t19_1) h_127 fun t20_21 h_128 =>
  (∀ w : World, w.heap = h_128 → (Instr.loadAt 22 t17_1).run P w = .ok t18_1 w) ∧
  uop P (Instr.storeAt 34 out9_16 t20_21) h_128 fun u_58 h_129 =>
  J_1 [now8_16, out9_16] h_129)) ∧
  (eop P (Instr.makeSlice 34 t19_1 t19_1) h_122 fun t20_22 h_130 =>
  (∀ w : World, w.heap = h_130 → (Instr.loadAt 22 t17_1).run P w = .ok t18_1 w) ∧
  (∀ w : World, w.heap = h_130 → (Instr.loadAt 43 w4_1).run P w = .ok t15_1 w) ∧
  callM P 69 #[t15_1] h_130 fun t16_16 h_131 =>
  (∀ w : World, w.heap = h_131 → (Instr.loadAt 22 t17_1).run P w = .ok t18_1 w) ∧
  uop P (Instr.storeAt 43 now8_16 t16_16) h_131 fun u_59 h_132 =>
  (∀ w : World, w.heap = h_132 → (Instr.loadAt 22 t17_1).run P w = .ok t18_1 w) ∧
  uop P (Instr.storeAt 34 out9_16 t20_22) h_132 fun u_60 h_133 =>
  J_1 [now8_16, out9_16] h_133)))) ∧
  ∀ (junk_1 : Nat → Value) (now8_17 : Value) (out9_17 : Value) (h_134 : Heap), J_1 [now8_17, out9_17] h_134 →
  rop P (Instr.loadAt 41 g3_1) h_134 fun t21_1 =>
  pop P (Instr.makeFunc (Fn.func 75) #[] #[out9_17, now8_17]) fun t23_1 =>
  callM P 71 #[t21_1, now8_17, n2_1, t23_1] h_134 fun t24_1 h_135 =>
  pop P (Op.unary .not t24_1) fun t25_1 =>
  condM t25_1
  (K (.tuple #[(Value.slice none 0 0), (Value.bool false)]) h_135)
  (rop P (Instr.loadAt 34 out9_17) h_135 fun t26_1 =>
  K (.tuple #[t26_1, (Value.bool true)]) h_135))
theorem e24 (g0_1 : Value) (w1_1 : Value) (n2_1 : Value) (h : Heap) (K : Value → Heap → Prop) : wpA Tryd.prog 27 (anOf [(7, [8, 9])]) (bodyOf Tryd.f24) 1 (fun A h => resA Tryd.prog A h K [.tmp 6, .tmp 7]) (fun _ _ _ => False) (fun A h => resA Tryd.prog A h K [.tmp 6, .tmp 7]) (aargs [g0_1, w1_1, n2_1] 0) h = t24 Tryd.prog g0_1 w1_1 n2_1 h K := by kernel_rfl
theorem c24 (g0_1 : Value) (w1_1 : Value) (n2_1 : Value) (h : Heap) (K : Value → Heap → Prop) (H : t24 Tryd.prog g0_1 w1_1 n2_1 h K) : callM Tryd.prog 24 #[g0_1, w1_1, n2_1] h K :=
  callM_of_wpA mixed (fn := Tryd.f24) Tryd.func24 (c := bodyOf Tryd.f24) rfl (of_decide_eq_true (by kernel_rfl)) (anOf [(7, [8, 9])]) 24 27 (by kernel_rfl) rfl [.tmp 6, .tmp 7] (by kernel_rfl) (args := [g0_1, w1_1, n2_1]) (by rw [e24]; exact H)
def t25 (P : Program) (g0_1 : Value) (w1_1 : Value) (n2_1 : Value) (h : Heap) (K : Value → Heap → Prop) : Prop :=
  eop P (Instr.box 41 g0_1) h fun g3_1 h_1 =>
  eop P (Instr.box 43 w1_1) h_1 fun w4_1 h_2 =>
  rop P (Instr.loadAt 41 g3_1) h_2 fun t10_1 =>
  rop P (Instr.loadAt 43 w4_1) h_2 fun t11_1 =>
  callM P 73 #[t10_1, t11_1, n2_1] h_2 fun t13_1 h_3 =>
  pop P (Op.unary .not t13_1) fun t14_1 =>
  condM t14_1
  (K (.tuple #[(Value.slice none 0 0), (Value.bool false)]) h_3)
  (rop P (Instr.loadAt 41 g3_1) h_3 fun t16_1 =>
  rop P (Instr.loadAt 43 w4_1) h_3 fun t17_1 =>
  callM P 74 #[t16_1, t17_1, n2_1] h_3 fun t19_1 h_4 =>
  pop P (Instr.extract t19_1 0) fun t20_1 =>
  pop P (Instr.extract t19_1 1) fun t21_1 =>
  eop P (Instr.alloc 96 true (.tuple #[])) h_4 fun r8_1 h_5 =>
  uop P (Instr.storeAt 96 r8_1 t20_1) h_5 fun u_1 h_6 =>
  pop P (Instr.fieldAt 96 r8_1 2) fun t22_1 =>
  rop P (Instr.loadAt 34 t22_1) h_6 fun t23_1 =>
  K (.tuple #[t23_1, t21_1]) h_6)
theorem e25 (g0_1 : Value) (w1_1 : Value) (n2_1 : Value) (h : Heap) (K : Value → Heap → Prop) : wpA Tryd.prog 25 (anOf []) (bodyOf Tryd.f25) 1 (fun A h => resA Tryd.prog A h K [.tmp 6, .tmp 7]) (fun _ _ _ => False) (fun A h => resA Tryd.prog A h K [.tmp 6, .tmp 7]) (aargs [g0_1, w1_1, n2_1] 0) h = t25 Tryd.prog g0_1 w1_1 n2_1 h K := by kernel_rfl
theorem c25 (g0_1 : Value) (w1_1 : Value) (n2_1 : Value) (h : Heap) (K : Value → Heap → Prop) (H : t25 Tryd.prog g0_1 w1_1 n2_1 h K) : callM Tryd.prog 25 #[g0_1, w1_1, n2_1] h K :=
  callM_of_wpA mixed (fn := Tryd.f25) Tryd.func25 (c := bodyOf Tryd.f25) rfl (of_decide_eq_true (by kernel_rfl)) (anOf []) 22 25 (by kernel_rfl) rfl [.tmp 6, .tmp 7] (by kernel_rfl) (args := [g0_1, w1_1, n2_1]) (by rw [e25]; exact H)
def t26 (P : Program) (g0_1 : Value) (w1_1 : Value) (n2_1 : Value) (h : Heap) (K : Value → Heap → Prop) : Prop :=
  eop P (Instr.box 41 g0_1) h fun g3_1 h_1 =>
  eop P (Instr.box 43 w1_1) h_1 fun w4_1 h_2 =>
  eop P (Instr.alloc 43 true (.tuple #[])) h_2 fun t6_1 h_3 =>
  rop P (Instr.loadAt 41 g3_1) h_3 fun t9_1 =>
  rop P (Instr.loadAt 43 w4_1) h_3 fun t10_1 =>
  callM P 68 #[t9_1, t10_1, n2_1, (Value.int IntKind.i64 2000)] h_3 fun t12_1 h_4 =>
  pop P (Op.unary .not t12_1) fun t13_1 =>
  condM t13_1
  (pop P (Instr.build 43 #[]) fun t14_1 =>
  uop P (Instr.storeAt 43 t6_1 t14_1) h_4 fun u_1 h_5 =>
  rop P (Instr.loadAt 43 t6_1) h_5 fun r_1 =>
  K (.tuple #[r_1, (Value.bool false)]) h_5)
  (rop P (Instr.loadAt 43 w4_1) h_4 fun t15_1 =>
  callM P 69 #[t15_1] h_4 fun t16_1 h_6 =>
  eop P (Instr.alloc 43 true (.tuple #[])) h_6 fun out8_1 h_7 =>
  uop P (Instr.storeAt 43 out8_1 t16_1) h_7 fun u_2 h_8 =>
  rop P (Instr.loadAt 41 g3_1) h_8 fun t17_1 =>
  callM P 71 #[t17_1, out8_1, n2_1, (.func (.func 76) #[] #[])] h_8 fun t19_1 h_9 =>
  pop P (Op.unary .not t19_1) fun t20_1 =>
  condM t20_1
  (pop P (Instr.build 43 #[]) fun t21_1 =>
  uop P (Instr.storeAt 43 t6_1 t21_1) h_9 fun u_3 h_10 =>
  rop P (Instr.loadAt 43 t6_1) h_10 fun r_2 =>
  K (.tuple #[r_2, (Value.bool false)]) h_10)
  (rop P (Instr.loadAt 43 out8_1) h_9 fun t22_1 =>
  uop P (Instr.storeAt 43 t6_1 t22_1) h_9 fun u_4 h_11 =>
  rop P (Instr.loadAt 43 t6_1) h_11 fun r_3 =>
  K (.tuple #[r_3, (Value.bool true)]) h_11))
theorem e26 (g0_1 : Value) (w1_1 : Value) (n2_1 : Value) (h : Heap) (K : Value → Heap → Prop) : wpA Tryd.prog 23 (anOf []) (bodyOf Tryd.f26) 1 (fun A h => resA Tryd.prog A h K [.cell 6 43, .tmp 7]) (fun _ _ _ => False) (fun A h => resA Tryd.prog A h K [.cell 6 43, .tmp 7]) (aargs [g0_1, w1_1, n2_1] 0) h = t26 Tryd.prog g0_1 w1_1 n2_1 h K := by kernel_rfl
theorem c26 (g0_1 : Value) (w1_1 : Value) (n2_1 : Value) (h : Heap) (K : Value → Heap → Prop) (H : t26 Tryd.prog g0_1 w1_1 n2_1 h K) : callM Tryd.prog 26 #[g0_1, w1_1, n2_1] h K :=
  callM_of_wpA mixed (fn := Tryd.f26) Tryd.func26 (c := bodyOf Tryd.f26) rfl (of_decide_eq_true (by kernel_rfl)) (anOf []) 20 23 (by kernel_rfl) rfl [.cell 6 43, .tmp 7] (by kernel_rfl) (args := [g0_1, w1_1, n2_1]) (by rw [e26]; exact H)
def t27 (P : Program) (g0_1 : Value) (w1_1 : Value) (n2_1 : Value) (h : Heap) (K : Value → Heap → Prop) : Prop :=
  eop P (Instr.box 41 g0_1) h fun g3_1 h_1 =>
  eop P (Instr.box 43 w1_1) h_1 fun w4_1 h_2 =>
  eop P (Instr.alloc 43 true (.tuple #[])) h_2 fun t6_1 h_3 =>
  rop P (Instr.loadAt 41 g3_1) h_3 fun t10_1 =>
  rop P (Instr.loadAt 43 w4_1) h_3 fun t11_1 =>
  callM P 73 #[t10_1, t11_1, n2_1] h_3 fun t13_1 h_4 =>
  pop P (Op.unary .not t13_1) fun t14_1 =>
  condM t14_1
  (pop P (Instr.build 43 #[]) fun t15_1 =>
  uop P (Instr.storeAt 43 t6_1 t15_1) h_4 fun u_1 h_5 =>
  rop P (Instr.loadAt 43 t6_1) h_5 fun r_1 =>
  K (.tuple #[r_1, (Value.bool false)]) h_5)
  (rop P (Instr.loadAt 41 g3_1) h_4 fun t17_1 =>
  rop P (Instr.loadAt 43 w4_1) h_4 fun t18_1 =>
  callM P 74 #[t17_1, t18_1, n2_1] h_4 fun t20_1 h_6 =>
  pop P (Instr.extract t20_1 0) fun t21_1 =>
  pop P (Instr.extract t20_1 1) fun t22_1 =>
  eop P (Instr.alloc 96 true (.tuple #[])) h_6 fun r8_1 h_7 =>
  uop P (Instr.storeAt 96 r8_1 t21_1) h_7 fun u_2 h_8 =>
  pop P (Op.unary .not t22_1) fun t24_1 =>
  condM t24_1
  (pop P (Instr.build 43 #[]) fun t25_1 =>
  uop P (Instr.storeAt 43 t6_1 t25_1) h_8 fun u_3 h_9 =>
  rop P (Instr.loadAt 43 t6_1) h_9 fun r_2 =>
  K (.tuple #[r_2, (Value.bool false)]) h_9)
  (pop P (Instr.fieldAt 96 r8_1 0) fun t26_1 =>
  pop P (Instr.fieldAt 43 t26_1 0) fun t27_1 =>
  rop P (Instr.loadAt 34 t27_1) h_8 fun t28_1 =>
  pop P (Instr.fieldAt 96 r8_1 0) fun t30_1 =>
  pop P (Instr.fieldAt 43 t30_1 1) fun t31_1 =>
  rop P (Instr.loadAt 3 t31_1) h_8 fun t32_1 =>
  callM P 77 #[t28_1] h_8 fun t29_1 h_10 =>
  (∀ w : World, w.heap = h_10 → (Instr.loadAt 3 t31_1).run P w = .ok t32_1 w) ∧
  pop P (Instr.build 43 #[(0, t29_1), (1, t32_1)]) fun t33_1 =>
  uop P (Instr.storeAt 43 t6_1 t33_1) h_10 fun u_4 h_11 =>
  rop P (Instr.loadAt 43 t6_1) h_11 fun r_3 =>
  K (.tuple #[r_3, (Value.bool true)]) h_11))
theorem e27 (g0_1 : Value) (w1_1 : Value) (n2_1 : Value) (h : Heap) (K : Value → Heap → Prop) : wpA Tryd.prog 34 (anOf []) (bodyOf Tryd.f27) 1 (fun A h => resA Tryd.prog A h K [.cell 6 43, .tmp 7]) (fun _ _ _ => False) (fun A h => resA Tryd.prog A h K [.cell 6 43, .tmp 7]) (aargs [g0_1, w1_1, n2_1] 0) h = t27 Tryd.prog g0_1 w1_1 n2_1 h K := by kernel_rfl
theorem c27 (g0_1 : Value) (w1_1 : Value) (n2_1 : Value) (h : Heap) (K : Value → Heap → Prop) (H : t27 Tryd.prog g0_1 w1_1 n2_1 h K) : callM Tryd.prog 27 #[g0_1, w1_1, n2_1] h K :=
  callM_of_wpA mixed (fn := Tryd.f27) Tryd.func27 (c := bodyOf Tryd.f27) rfl (of_decide_eq_true (by kernel_rfl)) (anOf []) 31 34 (by kernel_rfl) rfl [.cell 6 43, .tmp 7] (by kernel_rfl) (args := [g0_1, w1_1, n2_1]) (by rw [e27]; exact H)
def t28 (P : Program) (g0_1 : Value) (w1_1 : Value) (n2_1 : Value) (h : Heap) (K : Value → Heap → Prop) : Prop :=
  eop P (Instr.box 41 g0_1) h fun g3_1 h_1 =>
  eop P (Instr.box 43 w1_1) h_1 fun w4_1 h_2 =>
  rop P (Instr.loadAt 41 g3_1) h_2 fun t10_1 =>
  rop P (Instr.loadAt 43 w4_1) h_2 fun t11_1 =>
  callM P 68 #[t10_1, t11_1, n2_1, (Value.int IntKind.i64 200)] h_2 fun t13_1 h_3 =>
  pop P (Op.unary .not t13_1) fun t14_1 =>
  condM t14_1
  (K (.tuple #[(Value.slice none 0 0), (Value.bool false)]) h_3)
  (∃ J_1 : List Value → Heap → Prop, (rop P (Instr.loadAt 43 w4_1) h_3 fun t15_1 =>
  pop P (Instr.fieldAt 43 w4_1 1) fun t17_1 =>
  rop P (Instr.loadAt 3 t17_1) h_3 fun t18_1 =>
  (callM P 69 #[t15_1] h_3 fun t16_1 h_4 =>
  (∀ w : World, w.heap = h_4 → (Instr.loadAt 3 t17_1).run P w = .ok t18_1 w) ∧
  (eop P (Instr.buildSlice 34 1 #[(0, t18_1)]) h_4 fun t19_1 h_5 =>
  (eop P (Instr.alloc 43 true (.tuple #[])) h_5 fun now8_1 h_6 =>
  eop P (Instr.alloc 34 true (.tuple #[])) h_6 fun out9_1 h_7 =>
  uop P (Instr.storeAt 43 now8_1 t16_1) h_7 fun u_1 h_8 =>
  uop P (Instr.storeAt 34 out9_1 t19_1) h_8 fun u_2 h_9 =>
  J_1 [now8_1, out9_1] h_9) ∧
  (eop P (Instr.alloc 34 true (.tuple #[])) h_5 fun out9_2 h_10 =>
  eop P (Instr.alloc 43 true (.tuple #[])) h_10 fun now8_2 h_11 =>
  uop P (Instr.storeAt 43 now8_2 t16_1) h_11 fun u_3 h_12 =>
  uop P (Instr.storeAt 34 out9_2 t19_1) h_12 fun u_4 h_13 =>
  J_1 [now8_2, out9_2] h_13)) ∧
  (eop P (Instr.alloc 43 true (.tuple #[])) h_4 fun now8_3 h_14 =>
  (∀ w : World, w.heap = h_14 → (Instr.loadAt 3 t17_1).run P w = .ok t18_1 w) ∧
  (eop P (Instr.buildSlice 34 1 #[(0, t18_1)]) h_14 fun t19_2 h_15 =>
  eop P (Instr.alloc 34 true (.tuple #[])) h_15 fun out9_3 h_16 =>
  uop P (Instr.storeAt 43 now8_3 t16_1) h_16 fun u_5 h_17 =>
  uop P (Instr.storeAt 34 out9_3 t19_2) h_17 fun u_6 h_18 =>
  J_1 [now8_3, out9_3] h_18) ∧
  (eop P (Instr.alloc 34 true (.tuple #[])) h_14 fun out9_4 h_19 =>
  (∀ w : World, w.heap = h_19 → (Instr.loadAt 3 t17_1).run P w = .ok t18_1 w) ∧
  (eop P (Instr.buildSlice 34 1 #[(0, t18_1)]) h_19 fun t19_3 h_20 =>
  uop P (Instr.storeAt 43 now8_3 t16_1) h_20 fun u_7 h_21 =>
  uop P (Instr.storeAt 34 out9_4 t19_3) h_21 fun u_8 h_22 =>
  J_1 [now8_3, out9_4] h_22) ∧
  (uop P (Instr.storeAt 43 now8_3 t16_1) h_19 fun u_9 h_23 =>
  (∀ w : World, w.heap = h_23 → (Instr.loadAt 3 t17_1).run P w = .ok t18_1 w) ∧
  eop P (Instr.buildSlice 34 1 #[(0, t18_1)]) h_23 fun t19_4 h_24 =>
  uop P (Instr.storeAt 34 out9_4 t19_4) h_24 fun u_10 h_25 =>
  J_1 [now8_3, out9_4] h_25))) ∧
  (eop P (Instr.alloc 34 true (.tuple #[])) h_4 fun out9_5 h_26 =>
  (∀ w : World, w.heap = h_26 → (Instr.loadAt 3 t17_1).run P w = .ok t18_1 w) ∧
  (eop P (Instr.buildSlice 34 1 #[(0, t18_1)]) h_26 fun t19_5 h_27 =>
  eop P (Instr.alloc 43 true (.tuple #[])) h_27 fun now8_4 h_28 =>
  uop P (Instr.storeAt 43 now8_4 t16_1) h_28 fun u_11 h_29 =>
  uop P (Instr.storeAt 34 out9_5 t19_5) h_29 fun u_12 h_30 =>
  J_1 [now8_4, out9_5] h_30) ∧
  (eop P (Instr.alloc 43 true (.tuple #[])) h_26 fun now8_5 h_31 =>
  (∀ w : World, w.heap = h_31 → (Instr.loadAt 3 t17_1).run P w = .ok t18_1 w) ∧
  (eop P (Instr.buildSlice 34 1 #[(0, t18_1)]) h_31 fun t19_6 h_32 =>
  uop P (Instr.storeAt 43 now8_5 t16_1) h_32 fun u_13 h_33 =>
  uop P (Instr.storeAt 34 out9_5 t19_6) h_33 fun u_14 h_34 =>
  J_1 [now8_5, out9_5] h_34) ∧
  (uop P (Instr.storeAt 43 now8_5 t16_1) h_31 fun u_15 h_35 =>
  (∀ w : World, w.heap = h_35 → (Instr.loadAt 3 t17_1).run P w = .ok t18_1 w) ∧
  eop P (Instr.buildSlice 34 1 #[(0, t18_1)]) h_35 fun t19_7 h_36 =>
  uop P (Instr.storeAt 34 out9_5 t19_7) h_36 fun u_16 h_37 =>
  J_1 [now8_5, out9_5] h_37)))) ∧
  (eop P (Instr.buildSlice 34 1 #[(0, t18_1)]) h_3 fun t19_8 h_38 =>
  (∀ w : World, w.heap = h_38 → (Instr.loadAt 43 w4_1).run P w = .ok t15_1 w) ∧
  (callM P 69 #[t15_1] h_38 fun t16_2 h_39 =>
  (eop P (Instr.alloc 43 true (.tuple #[])) h_39 fun now8_6 h_40 =>
  eop P (Instr.alloc 34 true (.tuple #[])) h_40 fun out9_6 h_41 =>
  uop P (Instr.storeAt 43 now8_6 t16_2) h_41 fun u_17 h_42 =>
  uop P (Instr.storeAt 34 out9_6 t19_8) h_42 fun u_18 h_43 =>
  J_1 [now8_6, out9_6] h_43) ∧
  (eop P (Instr.alloc 34 true (.tuple #[])) h_39 fun out9_7 h_44 =>
  eop P (Instr.alloc 43 true (.tuple #[])) h_44 fun now8_7 h_45 =>
  uop P (Instr.storeAt 43 now8_7 t16_2) h_45 fun u_19 h_46 =>
  uop P (Instr.storeAt 34 out9_7 t19_8) h_46 fun u_20 h_47 =>
  J_1 [now8_7, out9_7] h_47)) ∧
  (eop P (Instr.alloc 43 true (.tuple #[])) h_38 fun now8_8 h_48 =>
  (∀ w : World, w.heap = h_48 → (Instr.loadAt 43 w4_1).run P w = .ok t15_1 w) ∧
  (callM P 69 #[t15_1] h_48 fun t16_3 h_49 =>
  eop P (Instr.alloc 34 true (.tuple #[])) h_49 fun out9_8 h_50 =>
  uop P (Instr.storeAt 43 now8_8 t16_3) h_50 fun u_21 h_51 =>
  uop P (Instr.storeAt 34 out9_8 t19_8) h_51 fun u_22 h_52 =>
  J_1 [now8_8, out9_8] h_52) ∧
  (eop P (Instr.alloc 34 true (.tuple #[])) h_48 fun out9_9 h_53 =>
  (∀ w : World, w.heap = h_53 → (Instr.loadAt 43 w4_1).run P w = .ok t15_1 w) ∧
  callM P 69 #[t15_1] h_53 fun t16_4 h_54 =>
  uop P (Instr.storeAt 43 now8_8 t16_4) h_54 fun u_23 h_55 =>
  uop P (Instr.storeAt 34 out9_9 t19_8) h_55 fun u_24 h_56 =>
  J_1 [now8_8, out9_9] h_56)) ∧
  (eop P (Instr.alloc 34 true (.tuple #[])) h_38 fun out9_10 h_57 =>
  (∀ w : World, w.heap = h_57 → (Instr.loadAt 43 w4_1).run P w = .ok t15_1 w) ∧
  (callM P 69 #[t15_1] h_57 fun t16_5 h_58 =>
  eop P (Instr.alloc 43 true (.tuple #[])) h_58 fun now8_9 h_59 =>
  uop P (Instr.storeAt 43 now8_9 t16_5) h_59 fun u_25 h_60 =>
  uop P (Instr.storeAt 34 out9_10 t19_8) h_60 fun u_26 h_61 =>
  J_1 [now8_9, out9_10] h_61) ∧
  (eop P (Instr.alloc 43 true (.tuple #[])) h_57 fun now8_10 h_62 =>
  (∀ w : World, w.heap = h_62 → (Instr.loadAt 43 w4_1).run P w = .ok t15_1 w) ∧
  callM P 69 #[t15_1] h_62 fun t16_6 h_63 =>
  uop P (Instr.storeAt 43 now8_10 t16_6) h_63 fun u_27 h_64 =>
  uop P (Instr.storeAt 34 out9_10 t19_8) h_64 fun u_28 h_65 =>
  J_1 [now8_10, out9_10] h_65))) ∧
  (eop P (Instr.alloc 43 true (.tuple #[])) h_3 fun now8_11 h_66 =>
  (∀ w : World, w.heap = h_66 → (Instr.loadAt 3 t17_1).run P w = .ok t18_1 w) ∧
  (∀ w : World, w.heap = h_66 → (Instr.loadAt 43 w4_1).run P w = .ok t15_1 w) ∧
  (callM P 69 #[t15_1] h_66 fun t16_7 h_67 =>
  (∀ w : World, w.heap = h_67 → (Instr.loadAt 3 t17_1).run P w = .ok t18_1 w) ∧
  (eop P (Instr.buildSlice 34 1 #[(0, t18_1)]) h_67 fun t19_9 h_68 =>
  eop P (Instr.alloc 34 true (.tuple #[])) h_68 fun out9_11 h_69 =>
  uop P (Instr.storeAt 43 now8_11 t16_7) h_69 fun u_29 h_70 =>
  uop P (Instr.storeAt 34 out9_11 t19_9) h_70 fun u_30 h_71 =>
  J_1 [now8_11, out9_11] h_71) ∧
  (eop P (Instr.alloc 34 true (.tuple #[])) h_67 fun out9_12 h_72 =>
  (∀ w : World, w.heap = h_72 → (Instr.loadAt 3 t17_1).run P w = .ok t18_1 w) ∧
  (eop P (Instr.buildSlice 34 1 #[(0, t18_1)]) h_72 fun t19_10 h_73 =>
  uop P (Instr.storeAt 43 now8_11 t16_7) h_73 fun u_31 h_74 =>
  uop P (Instr.storeAt 34 out9_12 t19_10) h_74 fun u_32 h_75 =>
  J_1 [now8_11, out9_12] h_75) ∧
  (uop P (Instr.storeAt 43 now8_11 t16_7) h_72 fun u_33 h_76 =>
  (∀ w : World, w.heap = h_76 → (Instr.loadAt 3 t17_1).run P w = .ok t18_1 w) ∧
  eop P (Instr.buildSlice 34 1 #[(0, t18_1)]) h_76 fun t19_11 h_77 =>
  uop P (Instr.storeAt 34 out9_12 t19_11) h_77 fun u_34 h_78 =>
  J_1 [now8_11, out9_12] h_78))) ∧
  (eop P (Instr.buildSlice 34 1 #[(0, t18_1)]) h_66 fun t19_12 h_79 =>
  (∀ w : World, w.heap = h_79 → (Instr.loadAt 43 w4_1).run P w = .ok t15_1 w) ∧
  (callM P 69 #[t15_1] h_79 fun t16_8 h_80 =>
  eop P (Instr.alloc 34 true (.tuple #[])) h_80 fun out9_13 h_81 =>
  uop P (Instr.storeAt 43 now8_11 t16_8) h_81 fun u_35 h_82 =>
  uop P (Instr.storeAt 34 out9_13 t19_12) h_82 fun u_36 h_83 =>
  J_1 [now8_11, out9_13] h_83) ∧
  (eop P (Instr.alloc 34 true (.tuple #[])) h_79 fun out9_14 h_84 =>
  (∀ w : World, w.heap = h_84 → (Instr.loadAt 43 w4_1).run P w = .ok t15_1 w) ∧
  callM P 69 #[t15_1] h_84 fun t16_9 h_85 =>
  uop P (Instr.storeAt 43 now8_11 t16_9) h_85 fun u_37 h_86 =>
  uop P (Instr.storeAt 34 out9_14 t19_12) h_86 fun u_38 h_87 =>
  J_1 [now8_11, out9_14] h_87)) ∧
  (eop P (Instr.alloc 34 true (.tuple #[])) h_66 fun out9_15 h_88 =>
  (∀ w : World, w.heap = h_88 → (Instr.loadAt 3 t17_1).run P w = .ok t18_1 w) ∧
  (∀ w : World, w.heap = h_88 → (Instr.loadAt 43 w4_1).run P w = .ok t15_1 w) ∧
  (callM P 69 #[t15_1] h_88 fun t16_10 h_89 =>
  (∀ w : World, w.heap = h_89 → (Instr.loadAt 3 t17_1).run P w = .ok t18_1 w) ∧
  (eop P (Instr.buildSlice 34 1 #[(0, t18_1)]) h_89 fun t19_13 h_90 =>
  uop P (Instr.storeAt 43 now8_11 t16_10) h_90 fun u_39 h_91 =>
  uop P (Instr.storeAt 34 out9_15 t19_13) h_91 fun u_40 h_92 =>
  J_1 [now8_11, out9_15] h_92) ∧
  (uop P (Instr.storeAt 43 now8_11 t16_10) h_89 fun u_41 h_93 =>
  (∀ w : World, w.heap = h_93 → (Instr.loadAt 3 t17_1).run P w = .ok t18_1 w) ∧
  eop P (Instr.buildSlice 34 1 #[(0, t18_1)]) h_93 fun t19_14 h_94 =>
  uop P (Instr.storeAt 34 out9_15 t19_14) h_94 fun u_42 h_95 =>
  J_1 [now8_11, out9_15] h_95)) ∧
  (eop P (Instr.buildSlice 34 1 #[(0, t18_1)]) h_88 fun t19_15 h_96 =>
  (∀ w : World, w.heap = h_96 → (Instr.loadAt 43 w4_1).run P w = .ok t15_1 w) ∧
  callM P 69 #[t15_1] h_96 fun t16_11 h_97 =>
  uop P (Instr.storeAt 43 now8_11 t16_11) h_97 fun u_43 h_98 =>
  uop P (Instr.storeAt 34 out9_15 t19_15) h_98 fun u_44 h_99 =>
  J_1 [now8_11, out9_15] h_99))) ∧
  (eop P (Instr.alloc 34 true (.tuple #[])) h_3 fun out9_16 h_100 =>
  (∀ w : World, w.heap = h_100 → (Instr.loadAt 3 t17_1).run P w = .ok t18_1 w) ∧
  (∀ w : World, w.heap = h_100 → (Instr.loadAt 43 w4_1).run P w = .ok t15_1 w) ∧
  (callM P 69 #[t15_1] h_100 fun t16_12 h_101 =>
  (∀ w : World, w.heap = h_101 → (Instr.loadAt 3 t17_1).run P w = .ok t18_1 w) ∧
  (eop P (Instr.buildSlice 34 1 #[(0, t18_1)]) h_101 fun t19_16 h_102 =>
  eop P (Instr.alloc 43 true (.tuple #[])) h_102 fun now8_12 h_103 =>
  uop P (Instr.storeAt 43 now8_12 t16_12) h_103 fun u_45 h_104 =>
  uop P (Instr.storeAt 34 out9_16 t19_16) h_104 fun u_46 h_105 =>
  J_1 [now8_12, out9_16] h_105) ∧
  (eop P (Instr.alloc 43 true (.tuple #[])) h_101 fun now8_13 h_106 =>
  (∀ w : World, w.heap = h_106 → (Instr.loadAt 3 t17_1).run P w = .ok t18_1 w) ∧
  (eop P (Instr.buildSlice 34 1 #[(0, t18_1)]) h_106 fun t19_17 h_107 =>
  uop P (Instr.storeAt 43 now8_13 t16_12) h_107 fun u_47 h_108 =>
  uop P (Instr.storeAt 34 out9_16 t19_17) h_108 fun u_48 h_109 =>
  J_1 [now8_13, out9_16] h_109) ∧
  (uop P (Instr.storeAt 43 now8_13 t16_12) h_106 fun u_49 h_110 =>
  (∀ w : World, w.heap = h_110 → (Instr.loadAt 3 t17_1).run P w = .ok t18_1 w) ∧
  eop P (Instr.buildSlice 34 1 #[(0, t18_1)]) h_110 fun t19_18 h_111 =>
  uop P (Instr.storeAt 34 out9_16 t19_18) h_111 fun u_50 h_112 =>
  J_1 [now8_13, out9_16] h_112))) ∧
  (eop P (Instr.buildSlice 34 1 #[(0, t18_1)]) h_100 fun t19_19 h_113 =>
  (∀ w : World, w.heap = h_113 → (Instr.loadAt 43 w4_1).run P w = .ok t15_1 w) ∧
  (callM P 69 #[t15_1] h_113 fun t16_13 h_114 =>
  eop P (Instr.alloc 43 true (.tuple #[])) h_114 fun now8_14 h_115 =>
  uop P (Instr.storeAt 43 now8_14 t16_13) h_115 fun u_51 h_116 =>
  uop P (Instr.storeAt 34 out9_16 t19_19) h_116 fun u_52 h_117 =>
  J_1 [now8_14, out9_16] h_117) ∧
  (eop P (Instr.alloc 43 true (.tuple #[])) h_113 fun now8_15 h_118 =>
  (∀ w : World, w.heap = h_118 → (Instr.loadAt 43 w4_1).run P w = .ok t15_1 w) ∧
  callM P 69 #[t15_1] h_118 fun t16_14 h_119 =>
  uop P (Instr.storeAt 43 now8_15 t16_14) h_119 fun u_53 h_120 =>
  uop P (Instr.storeAt 34 out9_16 t19_19) h_120 fun u_54 h_121 =>
  J_1 [now8_15, out9_16] h_121)) ∧
  (eop P (Instr.alloc 43 true (.tuple #[])) h_100 fun now8_16 h_122 =>
  (∀ w : World, w.heap = h_122 → (Instr.loadAt 3 t17_1).run P w = .ok t18_1 w) ∧
  (∀ w : World, w.heap = h_122 → (Instr.loadAt 43 w4_1).run P w = .ok t15_1 w) ∧
  (callM P 69 #[t15_1] h_122 fun t16_15 h_123 =>
  (∀ w : World, w.heap = h_123 → (Instr.loadAt 3 t17_1).run P w = .ok t18_1 w) ∧
  (eop P (Instr.buildSlice 34 1 #[(0, t18_1)]) h_123 fun t19_20 h_124 =>
  uop P (Instr.storeAt 43 now8_16 t16_15) h_124 fun u_55 h_125 =>
  uop P (Instr.storeAt 34 out9_16 t19_20) h_125 fun u_56 h_126 =>
  J_1 [now8_16, out9_16] h_126) ∧
  (uop P (Instr.storeAt 43 now8_16 t16_15) h_123 fun u_57 h_127 =>
  (∀ w : World, w.heap = h_127 → (Instr.loadAt 3 t17_1).run P w = .ok t18_1 w) ∧
  eop P (Instr.buildSlice 34 1 #[(0, t18_1)]) h_127 fun t19_21 h_128 =>
  uop P (Instr.storeAt 34 out9_16 t19_21) h_128 fun u_58 h_129 =>
  J_1 [now8_16, out9_16] h_129)) ∧
  (eop P (Instr.buildSlice 34 1 #[(0, t18_1)]) h_122 fun t19_22 h_130 =>
  (∀ w : World, w.heap = h_130 → (Instr.loadAt 43 w4_1).run P w = .ok t15_1 w) ∧
  callM P 69 #[t15_1] h_130 fun t16_16 h_131 =>
  uop P (Instr.storeAt 43 now8_16 t16_16) h_131 fun u_59 h_132 =>
  uop P (Instr.storeAt 34 out9_16 t19_22) h_132 fun u_60 h_133 =>
  J_1 [now8_16, out9_16] h_133)))) ∧
  ∀ (junk_1 : Nat → Value) (now8_17 : Value) (out9_17 : Value) (h_134 : Heap), J_1 [now8_17, out9_17] h_134 →
  rop P (Instr.loadAt 41 g3_1) h_134 fun t20_1 =>
  pop P (Instr.makeFunc (Fn.func 78) #[] #[out9_17, now8_17]) fun t22_1 =>
  callM P 71 #[t20_1, now8_17, n2_1, t22_1] h_134 fun t23_1 h_135 =>
  pop P (Op.unary .not t23_1) fun t24_1 =>
  condM t24_1
  (K (.tuple #[(Value.slice none 0 0), (Value.bool false)]) h_135)
  (rop P (Instr.loadAt 34 out9_17) h_135 fun t25_1 =>
  K (.tuple #[t25_1, (Value.bool true)]) h_135))
theorem e28 (g0_1 : Value) (w1_1 : Value) (n2_1 : Value) (h : Heap) (K : Value → Heap → Prop) : wpA Tryd.prog 26 (anOf [(7, [8, 9])]) (bodyOf Tryd.f28) 1 (fun A h => resA Tryd.prog A h K [.tmp 6, .tmp 7]) (fun _ _ _ => False) (fun A h => resA Tryd.prog A h K [.tmp 6, .tmp 7]) (aargs [g0_1, w1_1, n2_1] 0) h = t28 Tryd.prog g0_1 w1_1 n2_1 h K := by kernel_rfl
theorem c28 (g0_1 : Value) (w1_1 : Value) (n2_1 : Value) (h : Heap) (K : Value → Heap → Prop) (H : t28 Tryd.prog g0_1 w1_1 n2_1 h K) : callM Tryd.prog 28 #[g0_1, w1_1, n2_1] h K :=
  callM_of_wpA mixed (fn := Tryd.f28) Tryd.func28 (c := bodyOf Tryd.f28) rfl (of_decide_eq_true (by kernel_rfl)) (anOf [(7, [8, 9])]) 23 26 (by kernel_rfl) rfl [.tmp 6, .tmp 7] (by kernel_rfl) (args := [g0_1, w1_1, n2_1]) (by rw [e28]; exact H)
def t29 (P : Program) (g0_1 : Value) (w1_1 : Value) (n2_1 : Value) (h : Heap) (K : Value → Heap → Prop) : Prop :=
  eop P (Instr.box 41 g0_1) h fun g3_1 h_1 =>
  eop P (Instr.box 43 w1_1) h_1 fun w4_1 h_2 =>
  rop P (Instr.loadAt 41 g3_1) h_2 fun t10_1 =>
  rop P (Instr.loadAt 43 w4_1) h_2 fun t11_1 =>
  callM P 62 #[t10_1, t11_1] h_2 fun t12_1 h_3 =>
  pop P (Op.unary .not t12_1) fun t13_1 =>
  guardM (asG t13_1 false) false (fun k_1 => k_1 n2_1 h_3) h_3 fun t15_1 h_4 =>
  guardM (asG t13_1 false) false (fun k_2 => callM P 51 #[t15_1, (Value.int IntKind.i64 0), (Value.int IntKind.i64 200)] h_4 fun t16_1 h_5 =>
  k_2 t16_1 h_5) h_4 fun t16_2 h_6 =>
  guardM (asG t13_1 false) false (fun k_3 => pop P (Op.unary .not t16_2) fun t17_1 =>
  k_3 t17_1 h_6) h_6 fun t17_2 h_7 =>
  pop P (pickS t13_1 (Value.bool true) t17_2) fun t18_1 =>
  condM t18_1
  (K (.tuple #[(Value.slice none 0 0), (Value.bool false)]) h_7)
  (rop P (Instr.loadAt 41 g3_1) h_7 fun t20_1 =>
  rop P (Instr.loadAt 43 w4_1) h_7 fun t21_1 =>
  callM P 74 #[t20_1, t21_1, n2_1] h_7 fun t23_1 h_8 =>
  pop P (Instr.extract t23_1 0) fun t24_1 =>
  pop P (Instr.extract t23_1 1) fun t25_1 =>
  eop P (Instr.alloc 96 true (.tuple #[])) h_8 fun r8_1 h_9 =>
  uop P (Instr.storeAt 96 r8_1 t24_1) h_9 fun u_1 h_10 =>
  pop P (Instr.fieldAt 96 r8_1 1) fun t26_1 =>
  rop P (Instr.loadAt 34 t26_1) h_10 fun t27_1 =>
  K (.tuple #[t27_1, t25_1]) h_10)
theorem e29 (g0_1 : Value) (w1_1 : Value) (n2_1 : Value) (h : Heap) (K : Value → Heap → Prop) : wpA Tryd.prog 29 (anOf []) (bodyOf Tryd.f29) 1 (fun A h => resA Tryd.prog A h K [.tmp 6, .tmp 7]) (fun _ _ _ => False) (fun A h => resA Tryd.prog A h K [.tmp 6, .tmp 7]) (aargs [g0_1, w1_1, n2_1] 0) h = t29 Tryd.prog g0_1 w1_1 n2_1 h K := by kernel_rfl
theorem c29 (g0_1 : Value) (w1_1 : Value) (n2_1 : Value) (h : Heap) (K : Value → Heap → Prop) (H : t29 Tryd.prog g0_1 w1_1 n2_1 h K) : callM Tryd.prog 29 #[g0_1, w1_1, n2_1] h K :=
  callM_of_wpA mixed (fn := Tryd.f29) Tryd.func29 (c := bodyOf Tryd.f29) rfl (of_decide_eq_true (by kernel_rfl)) (anOf []) 26 29 (by kernel_rfl) rfl [.tmp 6, .tmp 7] (by kernel_rfl) (args := [g0_1, w1_1, n2_1]) (by rw [e29]; exact H)
def t30 (P : Program) (a0_1 : Value) (b1_1 : Value) (h : Heap) (K : Value → Heap → Prop) : Prop :=
  pop P (lenS 22 3 a0_1) fun t7_1 =>
  pop P (lenS 22 3 b1_1) fun t9_1 =>
  pop P (binE .neq 3 (.tmp 7) (.tmp 9) t7_1 t9_1) fun t10_1 =>
  condM t10_1
  (K (Value.bool false) h)
  (pop P (lenS 22 3 a0_1) fun t12_1 =>
  ∃ (I_1 : List Value → Heap → Prop) (μ_1 : List Value → Heap → Nat), I_1 [(Value.int IntKind.i64 0)] h ∧
  ∀ (junk_1 : Nat → Value) (t13_1 : Value) (h_1 : Heap), I_1 [t13_1] h_1 →
  pop P (binA .lss 3 t13_1 t12_1) fun t14_1 =>
  condM t14_1
  (pop P (Instr.indexAt 22 a0_1 t13_1) fun t18_1 =>
  rop P (Instr.loadAt 34 t18_1) h_1 fun t19_1 =>
  pop P (Instr.indexAt 22 b1_1 t13_1) fun t22_1 =>
  rop P (Instr.loadAt 34 t22_1) h_1 fun t23_1 =>
  callM P 31 #[t19_1, t23_1] h_1 fun t24_1 h_2 =>
  pop P (Op.unary .not t24_1) fun t25_1 =>
  condM t25_1
  (K (Value.bool false) h_2)
  (pop P (binA .add 3 t13_1 (Value.int IntKind.i64 1)) fun t26_1 =>
  I_1 [t26_1] h_2 ∧ μ_1 [t26_1] h_2 < μ_1 [t13_1] h_1))
  (K (Value.bool true) h_1))
theorem e30 (a0_1 : Value) (b1_1 : Value) (h : Heap) (K : Value → Heap → Prop) : wpA Tryd.prog 27 (anOf [(58, [13])]) (bodyOf Tryd.f30) 1 (fun A h => resA Tryd.prog A h K [.tmp 4]) (fun _ _ _ => False) (fun A h => resA Tryd.prog A h K [.tmp 4]) (aargs [a0_1, b1_1] 0) h = t30 Tryd.prog a0_1 b1_1 h K := by kernel_rfl
theorem c30 (a0_1 : Value) (b1_1 : Value) (h : Heap) (K : Value → Heap → Prop) (H : t30 Tryd.prog a0_1 b1_1 h K) : callM Tryd.prog 30 #[a0_1, b1_1] h K :=
  callM_of_wpA mixed (fn := Tryd.f30) Tryd.func30 (c := bodyOf Tryd.f30) rfl (of_decide_eq_true (by kernel_rfl)) (anOf [(58, [13])]) 25 27 (by kernel_rfl) rfl [.tmp 4] (by kernel_rfl) (args := [a0_1, b1_1]) (by rw [e30]; exact H)
def t31 (P : Program) (a0_1 : Value) (b1_1 : Value) (h : Heap) (K : Value → Heap → Prop) : Prop :=
  pop P (lenS 34 3 a0_1) fun t7_1 =>
  pop P (lenS 34 3 b1_1) fun t9_1 =>
  pop P (binE .neq 3 (.tmp 7) (.tmp 9) t7_1 t9_1) fun t10_1 =>
  condM t10_1
  (K (Value.bool false) h)
  (pop P (lenS 34 3 a0_1) fun t12_1 =>
  ∃ (I_1 : List Value → Heap → Prop) (μ_1 : List Value → Heap → Nat), I_1 [(Value.int IntKind.i64 0)] h ∧
  ∀ (junk_1 : Nat → Value) (t13_1 : Value) (h_1 : Heap), I_1 [t13_1] h_1 →
  pop P (binA .lss 3 t13_1 t12_1) fun t14_1 =>
  condM t14_1
  (pop P (Instr.indexAt 34 a0_1 t13_1) fun t18_1 =>
  rop P (Instr.loadAt 3 t18_1) h_1 fun t19_1 =>
  pop P (Instr.indexAt 34 b1_1 t13_1) fun t22_1 =>
  rop P (Instr.loadAt 3 t22_1) h_1 fun t23_1 =>
  pop P (binE .neq 3 (.tmp 19) (.tmp 23) t19_1 t23_1) fun t24_1 =>
  condM t24_1
  (K (Value.bool false) h_1)
  (pop P (binA .add 3 t13_1 (Value.int IntKind.i64 1)) fun t25_1 =>
  I_1 [t25_1] h_1 ∧ μ_1 [t25_1] h_1 < μ_1 [t13_1] h_1))
  (K (Value.bool true) h_1))
theorem e31 (a0_1 : Value) (b1_1 : Value) (h : Heap) (K : Value → Heap → Prop) : wpA Tryd.prog 26 (anOf [(58, [13])]) (bodyOf Tryd.f31) 1 (fun A h => resA Tryd.prog A h K [.tmp 4]) (fun _ _ _ => False) (fun A h => resA Tryd.prog A h K [.tmp 4]) (aargs [a0_1, b1_1] 0) h = t31 Tryd.prog a0_1 b1_1 h K := by kernel_rfl
theorem c31 (a0_1 : Value) (b1_1 : Value) (h : Heap) (K : Value → Heap → Prop) (H : t31 Tryd.prog a0_1 b1_1 h K) : callM Tryd.prog 31 #[a0_1, b1_1] h K :=
  callM_of_wpA mixed (fn := Tryd.f31) Tryd.func31 (c := bodyOf Tryd.f31) rfl (of_decide_eq_true (by kernel_rfl)) (anOf [(58, [13])]) 24 26 (by kernel_rfl) rfl [.tmp 4] (by kernel_rfl) (args := [a0_1, b1_1]) (by rw [e31]; exact H)
def t32 (P : Program) (a0_1 : Value) (b1_1 : Value) (h : Heap) (K : Value → Heap → Prop) : Prop :=
  eop P (Instr.box 43 a0_1) h fun a2_1 h_1 =>
  eop P (Instr.box 43 b1_1) h_1 fun b3_1 h_2 =>
  pop P (Instr.fieldAt 43 a2_1 1) fun t5_1 =>
  rop P (Instr.loadAt 3 t5_1) h_2 fun t6_1 =>
  pop P (Instr.fieldAt 43 b3_1 1) fun t7_1 =>
  rop P (Instr.loadAt 3 t7_1) h_2 fun t8_1 =>
  pop P (binE .eql 3 (.tmp 6) (.tmp 8) t6_1 t8_1) fun t9_1 =>
  guardM (asG t9_1 true) true (fun k_1 => pop P (Instr.fieldAt 43 a2_1 0) fun t11_1 =>
  k_1 t11_1 h_2) h_2 fun t11_2 h_3 =>
  guardM (asG t9_1 true) true (fun k_2 => rop P (Instr.loadAt 34 t11_2) h_3 fun t12_1 =>
  k_2 t12_1 h_3) h_3 fun t12_2 h_4 =>
  guardM (asG t9_1 true) true (fun k_3 => pop P (Instr.fieldAt 43 b3_1 0) fun t13_1 =>
  k_3 t13_1 h_4) h_4 fun t13_2 h_5 =>
  guardM (asG t9_1 true) true (fun k_4 => rop P (Instr.loadAt 34 t13_2) h_5 fun t14_1 =>
  k_4 t14_1 h_5) h_5 fun t14_2 h_6 =>
  guardM (asG t9_1 true) true (fun k_5 => callM P 31 #[t12_2, t14_2] h_6 fun t15_1 h_7 =>
  k_5 t15_1 h_7) h_6 fun t15_2 h_8 =>
  pop P (pickS t9_1 t15_2 (Value.bool false)) fun t16_1 =>
  K t16_1 h_8
theorem e32 (a0_1 : Value) (b1_1 : Value) (h : Heap) (K : Value → Heap → Prop) : wpA Tryd.prog 17 (anOf []) (bodyOf Tryd.f32) 1 (fun A h => resA Tryd.prog A h K [.tmp 4]) (fun _ _ _ => False) (fun A h => resA Tryd.prog A h K [.tmp 4]) (aargs [a0_1, b1_1] 0) h = t32 Tryd.prog a0_1 b1_1 h K := by kernel_rfl
theorem c32 (a0_1 : Value) (b1_1 : Value) (h : Heap) (K : Value → Heap → Prop) (H : t32 Tryd.prog a0_1 b1_1 h K) : callM Tryd.prog 32 #[a0_1, b1_1] h K :=
  callM_of_wpA mixed (fn := Tryd.f32) Tryd.func32 (c := bodyOf Tryd.f32) rfl (of_decide_eq_true (by kernel_rfl)) (anOf []) 15 17 (by kernel_rfl) rfl [.tmp 4] (by kernel_rfl) (args := [a0_1, b1_1]) (by rw [e32]; exact H)
def t33 (P : Program) (a0_1 : Value) (h : Heap) (K : Value → Heap → Prop) : Prop :=
  pop P (lenS 34 3 a0_1) fun t7_1 =>
  ∃ (I_1 : List Value → Heap → Prop) (μ_1 : List Value → Heap → Nat), I_1 [(Value.int IntKind.i64 0), (Value.int IntKind.i64 0)] h ∧
  ∀ (junk_1 : Nat → Value) (n3_1 : Value) (t8_1 : Value) (h_1 : Heap), I_1 [n3_1, t8_1] h_1 →
  pop P (binA .lss 3 t8_1 t7_1) fun t9_1 =>
  condM t9_1
  (pop P (Instr.indexAt 34 a0_1 t8_1) fun t10_1 =>
  rop P (Instr.loadAt 3 t10_1) h_1 fun t11_1 =>
  pop P (binA .add 3 n3_1 t11_1) fun t14_1 =>
  pop P (binA .add 3 t8_1 (Value.int IntKind.i64 1)) fun t15_1 =>
  I_1 [t14_1, t15_1] h_1 ∧ μ_1 [t14_1, t15_1] h_1 < μ_1 [n3_1, t8_1] h_1)
  (K n3_1 h_1)
theorem e33 (a0_1 : Value) (h : Heap) (K : Value → Heap → Prop) : wpA Tryd.prog 17 (anOf [(58, [3, 8])]) (bodyOf Tryd.f33) 1 (fun A h => resA Tryd.prog A h K [.tmp 2]) (fun _ _ _ => False) (fun A h => resA Tryd.prog A h K [.tmp 2]) (aargs [a0_1] 0) h = t33 Tryd.prog a0_1 h K := by kernel_rfl
theorem c33 (a0_1 : Value) (h : Heap) (K : Value → Heap → Prop) (H : t33 Tryd.prog a0_1 h K) : callM Tryd.prog 33 #[a0_1] h K :=
  callM_of_wpA mixed (fn := Tryd.f33) Tryd.func33 (c := bodyOf Tryd.f33) rfl (of_decide_eq_true (by kernel_rfl)) (anOf [(58, [3, 8])]) 16 17 (by kernel_rfl) rfl [.tmp 2] (by kernel_rfl) (args := [a0_1]) (by rw [e33]; exact H)
def t34 (P : Program) (g0_1 : Value) (w1_1 : Value) (h : Heap) (K : Value → Heap → Prop) : Prop :=
  eop P (Instr.box 41 g0_1) h fun g2_1 h_1 =>
  eop P (Instr.box 43 w1_1) h_1 fun w3_1 h_2 =>
  rop P (Instr.loadAt 41 g2_1) h_2 fun t5_1 =>
  rop P (Instr.loadAt 43 w3_1) h_2 fun t6_1 =>
  callM P 65 #[t5_1, t6_1] h_2 fun t7_1 h_3 =>
  K t7_1 h_3
theorem e34 (g0_1 : Value) (w1_1 : Value) (h : Heap) (K : Value → Heap → Prop) : wpA Tryd.prog 8 (anOf []) (bodyOf Tryd.f34) 1 (fun A h => resA Tryd.prog A h K [.tmp 4]) (fun _ _ _ => False) (fun A h => resA Tryd.prog A h K [.tmp 4]) (aargs [g0_1, w1_1] 0) h = t34 Tryd.prog g0_1 w1_1 h K := by kernel_rfl
theorem c34 (g0_1 : Value) (w1_1 : Value) (h : Heap) (K : Value → Heap → Prop) (H : t34 Tryd.prog g0_1 w1_1 h K) : callM Tryd.prog 34 #[g0_1, w1_1] h K :=
  callM_of_wpA mixed (fn := Tryd.f34) Tryd.func34 (c := bodyOf Tryd.f34) rfl (of_decide_eq_true (by kernel_rfl)) (anOf []) 6 8 (by kernel_rfl) rfl [.tmp 4] (by kernel_rfl) (args := [g0_1, w1_1]) (by rw [e34]; exact H)
def t35 (P : Program) (g0_1 : Value) (w1_1 : Value) (h : Heap) (K : Value → Heap → Prop) : Prop :=
  eop P (Instr.box 41 g0_1) h fun g2_1 h_1 =>
  eop P (Instr.box 43 w1_1) h_1 fun w3_1 h_2 =>
  eop P (Instr.alloc 43 true (.tuple #[])) h_2 fun t4_1 h_3 =>
  rop P (Instr.loadAt 41 g2_1) h_3 fun t6_1 =>
  rop P (Instr.loadAt 43 w3_1) h_3 fun t7_1 =>
  callM P 26 #[t6_1, t7_1, (Value.int IntKind.i64 1)] h_3 fun t8_1 h_4 =>
  pop P (Instr.extract t8_1 0) fun t9_1 =>
  pop P (Instr.extract t8_1 1) fun t10_1 =>
  uop P (Instr.storeAt 43 t4_1 t9_1) h_4 fun u_1 h_5 =>
  rop P (Instr.loadAt 43 t4_1) h_5 fun r_1 =>
  K (.tuple #[r_1, t10_1]) h_5
theorem e35 (g0_1 : Value) (w1_1 : Value) (h : Heap) (K : Value → Heap → Prop) : wpA Tryd.prog 11 (anOf []) (bodyOf Tryd.f35) 1 (fun A h => resA Tryd.prog A h K [.cell 4 43, .tmp 5]) (fun _ _ _ => False) (fun A h => resA Tryd.prog A h K [.cell 4 43, .tmp 5]) (aargs [g0_1, w1_1] 0) h = t35 Tryd.prog g0_1 w1_1 h K := by kernel_rfl
theorem c35 (g0_1 : Value) (w1_1 : Value) (h : Heap) (K : Value → Heap → Prop) (H : t35 Tryd.prog g0_1 w1_1 h K) : callM Tryd.prog 35 #[g0_1, w1_1] h K :=
  callM_of_wpA mixed (fn := Tryd.f35) Tryd.func35 (c := bodyOf Tryd.f35) rfl (of_decide_eq_true (by kernel_rfl)) (anOf []) 9 11 (by kernel_rfl) rfl [.cell 4 43, .tmp 5] (by kernel_rfl) (args := [g0_1, w1_1]) (by rw [e35]; exact H)
def t36 (P : Program) (code0_1 : Value) (h : Heap) (K : Value → Heap → Prop) : Prop :=
  eop P (Instr.alloc 41 true (.tuple #[])) h fun t2_1 h_1 =>
  eop P (Instr.alloc 43 true (.tuple #[])) h_1 fun t3_1 h_2 =>
  callM P 79 #[code0_1] h_2 fun t5_1 h_3 =>
  pop P (Instr.extract t5_1 0) fun t6_1 =>
  pop P (Instr.extract t5_1 1) fun t7_1 =>
  uop P (Instr.storeAt 41 t2_1 t6_1) h_3 fun u_1 h_4 =>
  uop P (Instr.storeAt 43 t3_1 t7_1) h_4 fun u_2 h_5 =>
  rop P (Instr.loadAt 41 t2_1) h_5 fun r_1 =>
  rop P (Instr.loadAt 43 t3_1) h_5 fun r_2 =>
  K (.tuple #[r_1, r_2]) h_5
theorem e36 (code0_1 : Value) (h : Heap) (K : Value → Heap → Prop) : wpA Tryd.prog 8 (anOf []) (bodyOf Tryd.f36) 1 (fun A h => resA Tryd.prog A h K [.cell 2 41, .cell 3 43]) (fun _ _ _ => False) (fun A h => resA Tryd.prog A h K [.cell 2 41, .cell 3 43]) (aargs [code0_1] 0) h = t36 Tryd.prog code0_1 h K := by kernel_rfl
theorem c36 (code0_1 : Value) (h : Heap) (K : Value → Heap → Prop) (H : t36 Tryd.prog code0_1 h K) : callM Tryd.prog 36 #[code0_1] h K :=
  callM_of_wpA mixed (fn := Tryd.f36) Tryd.func36 (c := bodyOf Tryd.f36) rfl (of_decide_eq_true (by kernel_rfl)) (anOf []) 7 8 (by kernel_rfl) rfl [.cell 2 41, .cell 3 43] (by kernel_rfl) (args := [code0_1]) (by rw [e36]; exact H)
def t37 (P : Program) (g0_1 : Value) (w1_1 : Value) (h : Heap) (K : Value → Heap → Prop) : Prop :=
  eop P (Instr.box 41 g0_1) h fun g2_1 h_1 =>
  eop P (Instr.box 43 w1_1) h_1 fun w3_1 h_2 =>
  eop P (Instr.alloc 43 true (.tuple #[])) h_2 fun t4_1 h_3 =>
  rop P (Instr.loadAt 41 g2_1) h_3 fun t8_1 =>
  rop P (Instr.loadAt 43 w3_1) h_3 fun t9_1 =>
  callM P 62 #[t8_1, t9_1] h_3 fun t10_1 h_4 =>
  pop P (Op.unary .not t10_1) fun t11_1 =>
  condM t11_1
  (pop P (Instr.build 43 #[]) fun t12_1 =>
  uop P (Instr.storeAt 43 t4_1 t12_1) h_4 fun u_1 h_5 =>
  rop P (Instr.loadAt 43 t4_1) h_5 fun r_1 =>
  K (.tuple #[r_1, (Value.bool false)]) h_5)
  (rop P (Instr.loadAt 41 g2_1) h_4 fun t14_1 =>
  rop P (Instr.loadAt 43 w3_1) h_4 fun t15_1 =>
  callM P 80 #[t14_1, t15_1] h_4 fun t16_1 h_6 =>
  pop P (Instr.extract t16_1 0) fun t17_1 =>
  pop P (Instr.extract t16_1 1) fun t18_1 =>
  eop P (Instr.alloc 43 true (.tuple #[])) h_6 fun out6_1 h_7 =>
  uop P (Instr.storeAt 43 out6_1 t17_1) h_7 fun u_2 h_8 =>
  pop P (Op.unary .not t18_1) fun t20_1 =>
  condM t20_1
  (pop P (Instr.build 43 #[]) fun t21_1 =>
  uop P (Instr.storeAt 43 t4_1 t21_1) h_8 fun u_3 h_9 =>
  rop P (Instr.loadAt 43 t4_1) h_9 fun r_2 =>
  K (.tuple #[r_2, (Value.bool false)]) h_9)
  (rop P (Instr.loadAt 43 out6_1) h_8 fun t22_1 =>
  uop P (Instr.storeAt 43 t4_1 t22_1) h_8 fun u_4 h_10 =>
  rop P (Instr.loadAt 43 t4_1) h_10 fun r_3 =>
  K (.tuple #[r_3, (Value.bool true)]) h_10))
theorem e37 (g0_1 : Value) (w1_1 : Value) (h : Heap) (K : Value → Heap → Prop) : wpA Tryd.prog 23 (anOf []) (bodyOf Tryd.f37) 1 (fun A h => resA Tryd.prog A h K [.cell 4 43, .tmp 5]) (fun _ _ _ => False) (fun A h => resA Tryd.prog A h K [.cell 4 43, .tmp 5]) (aargs [g0_1, w1_1] 0) h = t37 Tryd.prog g0_1 w1_1 h K := by kernel_rfl
theorem c37 (g0_1 : Value) (w1_1 : Value) (h : Heap) (K : Value → Heap → Prop) (H : t37 Tryd.prog g0_1 w1_1 h K) : callM Tryd.prog 37 #[g0_1, w1_1] h K :=
  callM_of_wpA mixed (fn := Tryd.f37) Tryd.func37 (c := bodyOf Tryd.f37) rfl (of_decide_eq_true (by kernel_rfl)) (anOf []) 21 23 (by kernel_rfl) rfl [.cell 4 43, .tmp 5] (by kernel_rfl) (args := [g0_1, w1_1]) (by rw [e37]; exact H)
def t38 (P : Program) (g0_1 : Value) (w1_1 : Value) (h : Heap) (K : Value → Heap → Prop) : Prop :=
  eop P (Instr.box 41 g0_1) h fun g2_1 h_1 =>
  eop P (Instr.box 43 w1_1) h_1 fun w3_1 h_2 =>
  rop P (Instr.loadAt 41 g2_1) h_2 fun t10_1 =>
  rop P (Instr.loadAt 43 w3_1) h_2 fun t11_1 =>
  callM P 65 #[t10_1, t11_1] h_2 fun t12_1 h_3 =>
  pop P (Op.unary .not t12_1) fun t13_1 =>
  condM t13_1
  (K (.tuple #[(Value.slice none 0 0), (Value.bool false)]) h_3)
  (eop P (Instr.buildSlice 65 0 #[]) h_3 fun t14_1 h_4 =>
  pop P (Instr.fieldAt 41 g2_1 0) fun t15_1 =>
  rop P (Instr.loadAt 22 t15_1) h_4 fun t16_1 =>
  pop P (lenS 22 3 t16_1) fun t17_1 =>
  ∃ (I_1 : List Value → Heap → Prop) (μ_1 : List Value → Heap → Nat), I_1 [t14_1, (Value.int IntKind.i64 0)] h_4 ∧
  ∀ (junk_1 : Nat → Value) (out6_1 : Value) (t18_1 : Value) (h_5 : Heap), I_1 [out6_1, t18_1] h_5 →
  pop P (binA .lss 3 t18_1 t17_1) fun t19_1 =>
  condM t19_1
  (pop P (Instr.indexAt 22 t16_1 t18_1) fun t21_1 =>
  rop P (Instr.loadAt 34 t21_1) h_5 fun t22_1 =>
  pop P (lenS 34 3 t22_1) fun t24_1 =>
  pop P (binA .gtr 3 t24_1 (Value.int IntKind.i64 0)) fun t25_1 =>
  guardM (asG t25_1 true) true (fun k_1 => k_1 t22_1 h_5) h_5 fun t27_1 h_6 =>
  guardM (asG t25_1 true) true (fun k_2 => pop P (Instr.fieldAt 43 w3_1 0) fun t28_1 =>
  k_2 t28_1 h_6) h_6 fun t28_2 h_7 =>
  guardM (asG t25_1 true) true (fun k_3 => rop P (Instr.loadAt 34 t28_2) h_7 fun t29_1 =>
  k_3 t29_1 h_7) h_7 fun t29_2 h_8 =>
  guardM (asG t25_1 true) true (fun k_4 => k_4 t18_1 h_8) h_8 fun t30_1 h_9 =>
  guardM (asG t25_1 true) true (fun k_5 => pop P (Instr.indexAt 34 t29_2 t30_1) fun t31_1 =>
  k_5 t31_1 h_9) h_9 fun t31_2 h_10 =>
  guardM (asG t25_1 true) true (fun k_6 => rop P (Instr.loadAt 3 t31_2) h_10 fun t32_1 =>
  k_6 t32_1 h_10) h_10 fun t32_2 h_11 =>
  guardM (asG t25_1 true) true (fun k_7 => pop P (Instr.indexAt 34 t27_1 t32_2) fun t33_1 =>
  k_7 t33_1 h_11) h_11 fun t33_2 h_12 =>
  guardM (asG t25_1 true) true (fun k_8 => rop P (Instr.loadAt 3 t33_2) h_12 fun t34_1 =>
  k_8 t34_1 h_12) h_12 fun t34_2 h_13 =>
  guardM (asG t25_1 true) true (fun k_9 => pop P (Instr.fieldAt 43 w3_1 1) fun t35_1 =>
  k_9 t35_1 h_13) h_13 fun t35_2 h_14 =>
  guardM (asG t25_1 true) true (fun k_10 => rop P (Instr.loadAt 3 t35_2) h_14 fun t36_1 =>
  k_10 t36_1 h_14) h_14 fun t36_2 h_15 =>
  guardM (asG t25_1 true) true (fun k_11 => pop P (binE .eql 3 (.tmp 34) (.tmp 36) t34_2 t36_2) fun t37_1 =>
  k_11 t37_1 h_15) h_15 fun t37_2 h_16 =>
  pop P (pickS t25_1 t37_2 (Value.bool false)) fun t38_1 =>
  condM t38_1
  (rop P (Instr.loadAt 43 w3_1) h_16 fun t39_1 =>
  callM P 69 #[t39_1] h_16 fun t40_1 h_17 =>
  eop P (Instr.alloc 43 true (.tuple #[])) h_17 fun own9_1 h_18 =>
  uop P (Instr.storeAt 43 own9_1 t40_1) h_18 fun u_1 h_19 =>
  pop P (Instr.fieldAt 43 own9_1 0) fun t41_1 =>
  rop P (Instr.loadAt 34 t41_1) h_19 fun t42_1 =>
  pop P (Instr.fieldAt 43 w3_1 0) fun t45_1 =>
  rop P (Instr.loadAt 34 t45_1) h_19 fun t46_1 =>
  pop P (Instr.indexAt 34 t46_1 t18_1) fun t48_1 =>
  rop P (Instr.loadAt 3 t48_1) h_19 fun t49_1 =>
  pop P (lenS 34 3 t22_1) fun t51_1 =>
  pop P (binA .add 3 t49_1 t51_1) fun t52_1 =>
  pop P (binA .sub 3 t52_1 (Value.int IntKind.i64 1)) fun t53_1 =>
  pop P (lenS 34 3 t22_1) fun t55_1 =>
  pop P (binA .rem 3 t53_1 t55_1) fun t56_1 =>
  pop P (Instr.fieldAt 43 own9_1 1) fun t57_1 =>
  uop P (Instr.storeAt 3 t57_1 t18_1) h_19 fun u_2 h_20 =>
  (∀ w : World, w.heap = h_20 → (Instr.loadAt 3 t48_1).run P w = .ok t49_1 w) ∧
  (∀ w : World, w.heap = h_20 → (Instr.loadAt 34 t45_1).run P w = .ok t46_1 w) ∧
  pop P (Instr.indexAt 34 t42_1 t18_1) fun t58_1 =>
  uop P (Instr.storeAt 3 t58_1 t56_1) h_20 fun u_3 h_21 =>
  rop P (Instr.loadAt 43 own9_1) h_21 fun t60_1 =>
  eop P (Instr.buildSlice 65 1 #[(0, t60_1)]) h_21 fun t61_1 h_22 =>
  eop P (appS 65 65 65 out6_1 t61_1) h_22 fun t62_1 h_23 =>
  pop P (binA .add 3 t18_1 (Value.int IntKind.i64 1)) fun t63_1 =>
  I_1 [t62_1, t63_1] h_23 ∧ μ_1 [t62_1, t63_1] h_23 < μ_1 [out6_1, t18_1] h_5)
  (pop P (binA .add 3 t18_1 (Value.int IntKind.i64 1)) fun t63_2 =>
  I_1 [out6_1, t63_2] h_16 ∧ μ_1 [out6_1, t63_2] h_16 < μ_1 [out6_1, t18_1] h_5))
  (K (.tuple #[out6_1, (Value.bool true)]) h_5))
theorem e38 (g0_1 : Value) (w1_1 : Value) (h : Heap) (K : Value → Heap → Prop) : wpA Tryd.prog 65 (anOf [(122, [6, 18])]) (bodyOf Tryd.f38) 1 (fun A h => resA Tryd.prog A h K [.tmp 4, .tmp 5]) (fun _ _ _ => False) (fun A h => resA Tryd.prog A h K [.tmp 4, .tmp 5]) (aargs [g0_1, w1_1] 0) h = t38 Tryd.prog g0_1 w1_1 h K := by kernel_rfl
theorem c38 (g0_1 : Value) (w1_1 : Value) (h : Heap) (K : Value → Heap → Prop) (H : t38 Tryd.prog g0_1 w1_1 h K) : callM Tryd.prog 38 #[g0_1, w1_1] h K :=
  callM_of_wpA mixed (fn := Tryd.f38) Tryd.func38 (c := bodyOf Tryd.f38) rfl (of_decide_eq_true (by kernel_rfl)) (anOf [(122, [6, 18])]) 63 65 (by kernel_rfl) rfl [.tmp 4, .tmp 5] (by kernel_rfl) (args := [g0_1, w1_1]) (by rw [e38]; exact H)
def t39 (P : Program) (g0_1 : Value) (w1_1 : Value) (h : Heap) (K : Value → Heap → Prop) : Prop :=
  eop P (Instr.box 41 g0_1) h fun g2_1 h_1 =>
  eop P (Instr.box 43 w1_1) h_1 fun w3_1 h_2 =>
  rop P (Instr.loadAt 41 g2_1) h_2 fun t10_1 =>
  rop P (Instr.loadAt 43 w3_1) h_2 fun t11_1 =>
  callM P 62 #[t10_1, t11_1] h_2 fun t12_1 h_3 =>
  pop P (Op.unary .not t12_1) fun t13_1 =>
  condM t13_1
  (K (.tuple #[(Value.slice none 0 0), (Value.bool false)]) h_3)
  (pop P (Instr.fieldAt 41 g2_1 0) fun t14_1 =>
  rop P (Instr.loadAt 22 t14_1) h_3 fun t15_1 =>
  pop P (lenS 22 3 t15_1) fun t16_1 =>
  ∃ (I_1 : List Value → Heap → Prop) (μ_1 : List Value → Heap → Nat), I_1 [(Value.slice none 0 0), (Value.int IntKind.i64 0)] h_3 ∧
  ∀ (junk_1 : Nat → Value) (out6_1 : Value) (t17_1 : Value) (h_4 : Heap), I_1 [out6_1, t17_1] h_4 →
  pop P (binA .lss 3 t17_1 t16_1) fun t18_1 =>
  condM t18_1
  (pop P (Instr.indexAt 22 t15_1 t17_1) fun t20_1 =>
  rop P (Instr.loadAt 34 t20_1) h_4 fun t21_1 =>
  pop P (lenS 34 3 t21_1) fun t23_1 =>
  pop P (binE .eql 3 (.tmp 23) (.const (Value.int IntKind.i64 0)) t23_1 (Value.int IntKind.i64 0)) fun t24_1 =>
  guardM (asG t24_1 false) false (fun k_1 => k_1 t21_1 h_4) h_4 fun t26_1 h_5 =>
  guardM (asG t24_1 false) false (fun k_2 => pop P (Instr.fieldAt 43 w3_1 0) fun t27_1 =>
  k_2 t27_1 h_5) h_5 fun t27_2 h_6 =>
  guardM (asG t24_1 false) false (fun k_3 => rop P (Instr.loadAt 34 t27_2) h_6 fun t28_1 =>
  k_3 t28_1 h_6) h_6 fun t28_2 h_7 =>
  guardM (asG t24_1 false) false (fun k_4 => k_4 t17_1 h_7) h_7 fun t29_1 h_8 =>
  guardM (asG t24_1 false) false (fun k_5 => pop P (Instr.indexAt 34 t28_2 t29_1) fun t30_1 =>
  k_5 t30_1 h_8) h_8 fun t30_2 h_9 =>
  guardM (asG t24_1 false) false (fun k_6 => rop P (Instr.loadAt 3 t30_2) h_9 fun t31_1 =>
  k_6 t31_1 h_9) h_9 fun t31_2 h_10 =>
  guardM (asG t24_1 false) false (fun k_7 => pop P (Instr.indexAt 34 t26_1 t31_2) fun t32_1 =>
  k_7 t32_1 h_10) h_10 fun t32_2 h_11 =>
  guardM (asG t24_1 false) false (fun k_8 => rop P (Instr.loadAt 3 t32_2) h_11 fun t33_1 =>
  k_8 t33_1 h_11) h_11 fun t33_2 h_12 =>
  guardM (asG t24_1 false) false (fun k_9 => pop P (Instr.fieldAt 43 w3_1 1) fun t34_1 =>
  k_9 t34_1 h_12) h_12 fun t34_2 h_13 =>
  guardM (asG t24_1 false) false (fun k_10 => rop P (Instr.loadAt 3 t34_2) h_13 fun t35_1 =>
  k_10 t35_1 h_13) h_13 fun t35_2 h_14 =>
  guardM (asG t24_1 false) false (fun k_11 => pop P (binE .neq 3 (.tmp 33) (.tmp 35) t33_2 t35_2) fun t36_1 =>
  k_11 t36_1 h_14) h_14 fun t36_2 h_15 =>
  pop P (pickS t24_1 (Value.bool true) t36_2) fun t37_1 =>
  condM t37_1
  (pop P (binA .add 3 t17_1 (Value.int IntKind.i64 1)) fun t63_1 =>
  I_1 [out6_1, t63_1] h_15 ∧ μ_1 [out6_1, t63_1] h_15 < μ_1 [out6_1, t17_1] h_4)
  (pop P (Instr.fieldAt 43 w3_1 0) fun t38_1 =>
  rop P (Instr.loadAt 34 t38_1) h_15 fun t39_1 =>
  callM P 77 #[t39_1] h_15 fun t40_1 h_16 =>
  pop P (Instr.build 43 #[(0, t40_1), (1, t17_1)]) fun t42_1 =>
  eop P (Instr.alloc 43 true (.tuple #[])) h_16 fun v9_1 h_17 =>
  uop P (Instr.storeAt 43 v9_1 t42_1) h_17 fun u_1 h_18 =>
  pop P (Instr.fieldAt 43 v9_1 0) fun t43_1 =>
  rop P (Instr.loadAt 34 t43_1) h_18 fun t44_1 =>
  pop P (Instr.fieldAt 43 w3_1 0) fun t46_1 =>
  rop P (Instr.loadAt 34 t46_1) h_18 fun t47_1 =>
  pop P (Instr.indexAt 34 t47_1 t17_1) fun t49_1 =>
  rop P (Instr.loadAt 3 t49_1) h_18 fun t50_1 =>
  pop P (lenS 34 3 t21_1) fun t52_1 =>
  pop P (binA .add 3 t50_1 t52_1) fun t53_1 =>
  pop P (binA .sub 3 t53_1 (Value.int IntKind.i64 1)) fun t54_1 =>
  pop P (lenS 34 3 t21_1) fun t56_1 =>
  pop P (binA .rem 3 t54_1 t56_1) fun t57_1 =>
  pop P (Instr.indexAt 34 t44_1 t17_1) fun t58_1 =>
  uop P (Instr.storeAt 3 t58_1 t57_1) h_18 fun u_2 h_19 =>
  rop P (Instr.loadAt 43 v9_1) h_19 fun t60_1 =>
  eop P (Instr.buildSlice 65 1 #[(0, t60_1)]) h_19 fun t61_1 h_20 =>
  eop P (appS 65 65 65 out6_1 t61_1) h_20 fun t62_1 h_21 =>
  pop P (binA .add 3 t17_1 (Value.int IntKind.i64 1)) fun t63_2 =>
  I_1 [t62_1, t63_2] h_21 ∧ μ_1 [t62_1, t63_2] h_21 < μ_1 [out6_1, t17_1] h_4))
  (K (.tuple #[out6_1, (Value.bool true)]) h_4))
theorem e39 (g0_1 : Value) (w1_1 : Value) (h : Heap) (K : Value → Heap → Prop) : wpA Tryd.prog 65 (anOf [(122, [6, 17])]) (bodyOf Tryd.f39) 1 (fun A h => resA Tryd.prog A h K [.tmp 4, .tmp 5]) (fun _ _ _ => False) (fun A h => resA Tryd.prog A h K [.tmp 4, .tmp 5]) (aargs [g0_1, w1_1] 0) h = t39 Tryd.prog g0_1 w1_1 h K := by kernel_rfl
theorem c39 (g0_1 : Value) (w1_1 : Value) (h : Heap) (K : Value → Heap → Prop) (H : t39 Tryd.prog g0_1 w1_1 h K) : callM Tryd.prog 39 #[g0_1, w1_1] h K :=
  callM_of_wpA mixed (fn := Tryd.f39) Tryd.func39 (c := bodyOf Tryd.f39) rfl (of_decide_eq_true (by kernel_rfl)) (anOf [(122, [6, 17])]) 63 65 (by kernel_rfl) rfl [.tmp 4, .tmp 5] (by kernel_rfl) (args := [g0_1, w1_1]) (by rw [e39]; exact H)
def t40 (P : Program) (w0_1 : Value) (h : Heap) (K : Value → Heap → Prop) : Prop :=
  eop P (Instr.box 43 w0_1) h fun w1_1 h_1 =>
  pop P (Instr.fieldAt 43 w1_1 0) fun t5_1 =>
  rop P (Instr.loadAt 34 t5_1) h_1 fun t6_1 =>
  pop P (lenS 34 3 t6_1) fun t7_1 =>
  callM P 55 #[t7_1, (Value.int IntKind.i64 1), (Value.int IntKind.i64 8)] h_1 fun t9_1 h_2 =>
  pop P (Op.unary .not t9_1) fun t10_1 =>
  guardM (asG t10_1 false) false (fun k_1 => pop P (Instr.fieldAt 43 w1_1 1) fun t12_1 =>
  k_1 t12_1 h_2) h_2 fun t12_2 h_3 =>
  guardM (asG t10_1 false) false (fun k_2 => rop P (Instr.loadAt 3 t12_2) h_3 fun t13_1 =>
  k_2 t13_1 h_3) h_3 fun t13_2 h_4 =>
  guardM (asG t10_1 false) false (fun k_3 => k_3 t7_1 h_4) h_4 fun t14_1 h_5 =>
  guardM (asG t10_1 false) false (fun k_4 => pop P (binA .sub 3 t14_1 (Value.int IntKind.i64 1)) fun t15_1 =>
  k_4 t15_1 h_5) h_5 fun t15_2 h_6 =>
  guardM (asG t10_1 false) false (fun k_5 => callM P 55 #[t13_2, (Value.int IntKind.i64 0), t15_2] h_6 fun t16_1 h_7 =>
  k_5 t16_1 h_7) h_6 fun t16_2 h_8 =>
  guardM (asG t10_1 false) false (fun k_6 => pop P (Op.unary .not t16_2) fun t17_1 =>
  k_6 t17_1 h_8) h_8 fun t17_2 h_9 =>
  pop P (pickS t10_1 (Value.bool true) t17_2) fun t18_1 =>
  guardM (asG t18_1 false) false (fun k_7 => pop P (Instr.fieldAt 43 w1_1 0) fun t20_1 =>
  k_7 t20_1 h_9) h_9 fun t20_2 h_10 =>
  guardM (asG t18_1 false) false (fun k_8 => rop P (Instr.loadAt 34 t20_2) h_10 fun t21_1 =>
  k_8 t21_1 h_10) h_10 fun t21_2 h_11 =>
  guardM (asG t18_1 false) false (fun k_9 => callM P 56 #[t21_2, (.func (.func 81) #[] #[])] h_11 fun t22_1 h_12 =>
  k_9 t22_1 h_12) h_11 fun t22_2 h_13 =>
  pop P (pickS t18_1 (Value.bool true) t22_2) fun t23_1 =>
  condM t23_1
  (K (.tuple #[(Value.string { data := #[] }), (Value.bool false)]) h_13)
  (rop P (Instr.loadAt 43 w1_1) h_13 fun t24_1 =>
  callM P 82 #[t24_1] h_13 fun t25_1 h_14 =>
  K (.tuple #[t25_1, (Value.bool true)]) h_14)
theorem e40 (w0_1 : Value) (h : Heap) (K : Value → Heap → Prop) : wpA Tryd.prog 26 (anOf []) (bodyOf Tryd.f40) 1 (fun A h => resA Tryd.prog A h K [.tmp 2, .tmp 3]) (fun _ _ _ => False) (fun A h => resA Tryd.prog A h K [.tmp 2, .tmp 3]) (aargs [w0_1] 0) h = t40 Tryd.prog w0_1 h K := by kernel_rfl
theorem c40 (w0_1 : Value) (h : Heap) (K : Value → Heap → Prop) (H : t40 Tryd.prog w0_1 h K) : callM Tryd.prog 40 #[w0_1] h K :=
  callM_of_wpA mixed (fn := Tryd.f40) Tryd.func40 (c := bodyOf Tryd.f40) rfl (of_decide_eq_true (by kernel_rfl)) (anOf []) 25 26 (by kernel_rfl) rfl [.tmp 2, .tmp 3] (by kernel_rfl) (args := [w0_1]) (by rw [e40]; exact H)
def t41 (P : Program) (w0_1 : Value) (h : Heap) (K : Value → Heap → Prop) : Prop :=
  eop P (Instr.box 43 w0_1) h fun w1_1 h_1 =>
  pop P (Instr.fieldAt 43 w1_1 0) fun t7_1 =>
  rop P (Instr.loadAt 34 t7_1) h_1 fun t8_1 =>
  pop P (lenS 34 3 t8_1) fun t9_1 =>
  callM P 51 #[t9_1, (Value.int IntKind.i64 1), (Value.int IntKind.i64 8)] h_1 fun t10_1 h_2 =>
  pop P (Op.unary .not t10_1) fun t11_1 =>
  guardM (asG t11_1 false) false (fun k_1 => pop P (Instr.fieldAt 43 w1_1 1) fun t13_1 =>
  k_1 t13_1 h_2) h_2 fun t13_2 h_3 =>
  guardM (asG t11_1 false) false (fun k_2 => rop P (Instr.loadAt 3 t13_2) h_3 fun t14_1 =>
  k_2 t14_1 h_3) h_3 fun t14_2 h_4 =>
  guardM (asG t11_1 false) false (fun k_3 => pop P (Instr.fieldAt 43 w1_1 0) fun t15_1 =>
  k_3 t15_1 h_4) h_4 fun t15_2 h_5 =>
  guardM (asG t11_1 false) false (fun k_4 => rop P (Instr.loadAt 34 t15_2) h_5 fun t16_1 =>
  k_4 t16_1 h_5) h_5 fun t16_2 h_6 =>
  guardM (asG t11_1 false) false (fun k_5 => pop P (lenS 34 3 t16_2) fun t17_1 =>
  k_5 t17_1 h_6) h_6 fun t17_2 h_7 =>
  guardM (asG t11_1 false) false (fun k_6 => pop P (binA .sub 3 t17_2 (Value.int IntKind.i64 1)) fun t18_1 =>
  k_6 t18_1 h_7) h_7 fun t18_2 h_8 =>
  guardM (asG t11_1 false) false (fun k_7 => callM P 51 #[t14_2, (Value.int IntKind.i64 0), t18_2] h_8 fun t19_1 h_9 =>
  k_7 t19_1 h_9) h_8 fun t19_2 h_10 =>
  guardM (asG t11_1 false) false (fun k_8 => pop P (Op.unary .not t19_2) fun t20_1 =>
  k_8 t20_1 h_10) h_10 fun t20_2 h_11 =>
  pop P (pickS t11_1 (Value.bool true) t20_2) fun t21_1 =>
  guardM (asG t21_1 false) false (fun k_9 => pop P (Instr.fieldAt 43 w1_1 0) fun t23_1 =>
  k_9 t23_1 h_11) h_11 fun t23_2 h_12 =>
  guardM (asG t21_1 false) false (fun k_10 => rop P (Instr.loadAt 34 t23_2) h_12 fun t24_1 =>
  k_10 t24_1 h_12) h_12 fun t24_2 h_13 =>
  guardM (asG t21_1 false) false (fun k_11 => callM P 52 #[t24_2, (Value.int IntKind.i64 0), (Value.int IntKind.i64 4)] h_13 fun t25_1 h_14 =>
  k_11 t25_1 h_14) h_13 fun t25_2 h_15 =>
  guardM (asG t21_1 false) false (fun k_12 => pop P (Op.unary .not t25_2) fun t26_1 =>
  k_12 t26_1 h_15) h_15 fun t26_2 h_16 =>
  pop P (pickS t21_1 (Value.bool true) t26_2) fun t27_1 =>
  condM t27_1
  (K (.tuple #[(Value.string { data := #[] }), (Value.bool false)]) h_16)
  (pop P (Instr.fieldAt 43 w1_1 1) fun t28_1 =>
  rop P (Instr.loadAt 3 t28_1) h_16 fun t29_1 =>
  callM P 53 #[t29_1] h_16 fun t30_1 h_17 =>
  pop P (binA .add 9 t30_1 (Value.string { data := #[58] })) fun t31_1 =>
  pop P (Instr.fieldAt 43 w1_1 0) fun t32_1 =>
  rop P (Instr.loadAt 34 t32_1) h_17 fun t33_1 =>
  pop P (lenS 34 3 t33_1) fun t34_1 =>
  ∃ (I_1 : List Value → Heap → Prop) (μ_1 : List Value → Heap → Nat), I_1 [t31_1, (Value.int IntKind.i64 0)] h_17 ∧
  ∀ (junk_1 : Nat → Value) (out4_1 : Value) (t35_1 : Value) (h_18 : Heap), I_1 [out4_1, t35_1] h_18 →
  pop P (binA .lss 3 t35_1 t34_1) fun t36_1 =>
  condM t36_1
  (pop P (Instr.indexAt 34 t33_1 t35_1) fun t38_1 =>
  rop P (Instr.loadAt 3 t38_1) h_18 fun t39_1 =>
  ∃ J_1 : List Value → Heap → Prop, (pop P (binA .gtr 3 t35_1 (Value.int IntKind.i64 0)) fun t41_1 =>
  condM t41_1
  (pop P (binA .add 9 out4_1 (Value.string { data := #[44] })) fun t43_1 =>
  J_1 [t43_1] h_18)
  (J_1 [out4_1] h_18)) ∧
  ∀ (junk_2 : Nat → Value) (out4_2 : Value) (h_19 : Heap), J_1 [out4_2] h_19 →
  callM P 53 #[t39_1] h_19 fun t46_1 h_20 =>
  pop P (binA .add 9 out4_2 t46_1) fun t47_1 =>
  pop P (binA .add 3 t35_1 (Value.int IntKind.i64 1)) fun t48_1 =>
  I_1 [t47_1, t48_1] h_20 ∧ μ_1 [t47_1, t48_1] h_20 < μ_1 [out4_1, t35_1] h_18)
  (K (.tuple #[out4_1, (Value.bool true)]) h_18))
theorem e41 (w0_1 : Value) (h : Heap) (K : Value → Heap → Prop) : wpA Tryd.prog 50 (anOf [(122, [4, 35]), (7833, [4])]) (bodyOf Tryd.f41) 1 (fun A h => resA Tryd.prog A h K [.tmp 2, .tmp 3]) (fun _ _ _ => False) (fun A h => resA Tryd.prog A h K [.tmp 2, .tmp 3]) (aargs [w0_1] 0) h = t41 Tryd.prog w0_1 h K := by kernel_rfl
theorem c41 (w0_1 : Value) (h : Heap) (K : Value → Heap → Prop) (H : t41 Tryd.prog w0_1 h K) : callM Tryd.prog 41 #[w0_1] h K :=
  callM_of_wpA mixed (fn := Tryd.f41) Tryd.func41 (c := bodyOf Tryd.f41) rfl (of_decide_eq_true (by kernel_rfl)) (anOf [(122, [4, 35]), (7833, [4])]) 49 50 (by kernel_rfl) rfl [.tmp 2, .tmp 3] (by kernel_rfl) (args := [w0_1]) (by rw [e41]; exact H)
def t42 (P : Program) (a0_1 : Value) (b1_1 : Value) (h : Heap) (K : Value → Heap → Prop) : Prop :=
  pop P (lenS 65 3 a0_1) fun t7_1 =>
  pop P (lenS 65 3 b1_1) fun t9_1 =>
  pop P (binE .neq 3 (.tmp 7) (.tmp 9) t7_1 t9_1) fun t10_1 =>
  condM t10_1
  (K (Value.bool false) h)
  (pop P (lenS 65 3 a0_1) fun t12_1 =>
  ∃ (I_1 : List Value → Heap → Prop) (μ_1 : List Value → Heap → Nat), I_1 [(Value.int IntKind.i64 0)] h ∧
  ∀ (junk_1 : Nat → Value) (t13_1 : Value) (h_1 : Heap), I_1 [t13_1] h_1 →
  pop P (binA .lss 3 t13_1 t12_1) fun t14_1 =>
  condM t14_1
  (pop P (Instr.indexAt 65 a0_1 t13_1) fun t18_1 =>
  rop P (Instr.loadAt 43 t18_1) h_1 fun t19_1 =>
  pop P (Instr.indexAt 65 b1_1 t13_1) fun t22_1 =>
  rop P (Instr.loadAt 43 t22_1) h_1 fun t23_1 =>
  callM P 32 #[t19_1, t23_1] h_1 fun t24_1 h_2 =>
  pop P (Op.unary .not t24_1) fun t25_1 =>
  condM t25_1
  (K (Value.bool false) h_2)
  (pop P (binA .add 3 t13_1 (Value.int IntKind.i64 1)) fun t26_1 =>
  I_1 [t26_1] h_2 ∧ μ_1 [t26_1] h_2 < μ_1 [t13_1] h_1))
  (K (Value.bool true) h_1))
theorem e42 (a0_1 : Value) (b1_1 : Value) (h : Heap) (K : Value → Heap → Prop) : wpA Tryd.prog 27 (anOf [(58, [13])]) (bodyOf Tryd.f42) 1 (fun A h => resA Tryd.prog A h K [.tmp 4]) (fun _ _ _ => False) (fun A h => resA Tryd.prog A h K [.tmp 4]) (aargs [a0_1, b1_1] 0) h = t42 Tryd.prog a0_1 b1_1 h K := by kernel_rfl
theorem c42 (a0_1 : Value) (b1_1 : Value) (h : Heap) (K : Value → Heap → Prop) (H : t42 Tryd.prog a0_1 b1_1 h K) : callM Tryd.prog 42 #[a0_1, b1_1] h K :=
  callM_of_wpA mixed (fn := Tryd.f42) Tryd.func42 (c := bodyOf Tryd.f42) rfl (of_decide_eq_true (by kernel_rfl)) (anOf [(58, [13])]) 25 27 (by kernel_rfl) rfl [.tmp 4] (by kernel_rfl) (args := [a0_1, b1_1]) (by rw [e42]; exact H)
def t43 (P : Program) (g0_1 : Value) (w1_1 : Value) (h : Heap) (K : Value → Heap → Prop) : Prop :=
  eop P (Instr.box 41 g0_1) h fun g2_1 h_1 =>
  eop P (Instr.box 43 w1_1) h_1 fun w3_1 h_2 =>
  rop P (Instr.loadAt 41 g2_1) h_2 fun t5_1 =>
  rop P (Instr.loadAt 43 w3_1) h_2 fun t6_1 =>
  callM P 62 #[t5_1, t6_1] h_2 fun t7_1 h_3 =>
  K t7_1 h_3
theorem e43 (g0_1 : Value) (w1_1 : Value) (h : Heap) (K : Value → Heap → Prop) : wpA Tryd.prog 8 (anOf []) (bodyOf Tryd.f43) 1 (fun A h => resA Tryd.prog A h K [.tmp 4]) (fun _ _ _ => False) (fun A h => resA Tryd.prog A h K [.tmp 4]) (aargs [g0_1, w1_1] 0) h = t43 Tryd.prog g0_1 w1_1 h K := by kernel_rfl
theorem c43 (g0_1 : Value) (w1_1 : Value) (h : Heap) (K : Value → Heap → Prop) (H : t43 Tryd.prog g0_1 w1_1 h K) : callM Tryd.prog 43 #[g0_1, w1_1] h K :=
  callM_of_wpA mixed (fn := Tryd.f43) Tryd.func43 (c := bodyOf Tryd.f43) rfl (of_decide_eq_true (by kernel_rfl)) (anOf []) 6 8 (by kernel_rfl) rfl [.tmp 4] (by kernel_rfl) (args := [g0_1, w1_1]) (by rw [e43]; exact H)
def t51 (P : Program) (n0_1 : Value) (lo1_1 : Value) (hi2_1 : Value) (h : Heap) (K : Value → Heap → Prop) : Prop :=
  pop P (binA .geq 3 n0_1 lo1_1) fun t9_1 =>
  guardM (asG t9_1 true) true (fun k_1 => k_1 n0_1 h) h fun t11_1 h_1 =>
  guardM (asG t9_1 true) true (fun k_2 => k_2 hi2_1 h_1) h_1 fun t12_1 h_2 =>
  guardM (asG t9_1 true) true (fun k_3 => pop P (binA .leq 3 t11_1 t12_1) fun t13_1 =>
  k_3 t13_1 h_2) h_2 fun t13_2 h_3 =>
  pop P (pickS t9_1 t13_2 (Value.bool false)) fun t14_1 =>
  K t14_1 h_3
theorem e51 (n0_1 : Value) (lo1_1 : Value) (hi2_1 : Value) (h : Heap) (K : Value → Heap → Prop) : wpA Tryd.prog 15 (anOf []) (bodyOf Tryd.f51) 1 (fun A h => resA Tryd.prog A h K [.tmp 6]) (fun _ _ _ => False) (fun A h => resA Tryd.prog A h K [.tmp 6]) (aargs [n0_1, lo1_1, hi2_1] 0) h = t51 Tryd.prog n0_1 lo1_1 hi2_1 h K := by kernel_rfl
theorem c51 (n0_1 : Value) (lo1_1 : Value) (hi2_1 : Value) (h : Heap) (K : Value → Heap → Prop) (H : t51 Tryd.prog n0_1 lo1_1 hi2_1 h K) : callM Tryd.prog 51 #[n0_1, lo1_1, hi2_1] h K :=
  callM_of_wpA mixed (fn := Tryd.f51) Tryd.func51 (c := bodyOf Tryd.f51) rfl (of_decide_eq_true (by kernel_rfl)) (anOf []) 12 15 (by kernel_rfl) rfl [.tmp 6] (by kernel_rfl) (args := [n0_1, lo1_1, hi2_1]) (by rw [e51]; exact H)
def t52 (P : Program) (l0_1 : Value) (lo1_1 : Value) (hi2_1 : Value) (h : Heap) (K : Value → Heap → Prop) : Prop :=
  pop P (lenS 34 3 l0_1) fun t10_1 =>
  ∃ (I_1 : List Value → Heap → Prop) (μ_1 : List Value → Heap → Nat), I_1 [(Value.int IntKind.i64 0)] h ∧
  ∀ (junk_1 : Nat → Value) (t11_1 : Value) (h_1 : Heap), I_1 [t11_1] h_1 →
  pop P (binA .lss 3 t11_1 t10_1) fun t12_1 =>
  condM t12_1
  (pop P (Instr.indexAt 34 l0_1 t11_1) fun t13_1 =>
  rop P (Instr.loadAt 3 t13_1) h_1 fun t14_1 =>
  callM P 51 #[t14_1, lo1_1, hi2_1] h_1 fun t18_1 h_2 =>
  pop P (Op.unary .not t18_1) fun t19_1 =>
  condM t19_1
  (K (Value.bool false) h_2)
  (pop P (binA .add 3 t11_1 (Value.int IntKind.i64 1)) fun t20_1 =>
  I_1 [t20_1] h_2 ∧ μ_1 [t20_1] h_2 < μ_1 [t11_1] h_1))
  (K (Value.bool true) h_1)
theorem e52 (l0_1 : Value) (lo1_1 : Value) (hi2_1 : Value) (h : Heap) (K : Value → Heap → Prop) : wpA Tryd.prog 21 (anOf [(26, [11])]) (bodyOf Tryd.f52) 1 (fun A h => resA Tryd.prog A h K [.tmp 6]) (fun _ _ _ => False) (fun A h => resA Tryd.prog A h K [.tmp 6]) (aargs [l0_1, lo1_1, hi2_1] 0) h = t52 Tryd.prog l0_1 lo1_1 hi2_1 h K := by kernel_rfl
theorem c52 (l0_1 : Value) (lo1_1 : Value) (hi2_1 : Value) (h : Heap) (K : Value → Heap → Prop) (H : t52 Tryd.prog l0_1 lo1_1 hi2_1 h K) : callM Tryd.prog 52 #[l0_1, lo1_1, hi2_1] h K :=
  callM_of_wpA mixed (fn := Tryd.f52) Tryd.func52 (c := bodyOf Tryd.f52) rfl (of_decide_eq_true (by kernel_rfl)) (anOf [(26, [11])]) 18 21 (by kernel_rfl) rfl [.tmp 6] (by kernel_rfl) (args := [l0_1, lo1_1, hi2_1]) (by rw [e52]; exact H)
def t53 (P : Program) (n0_1 : Value) (h : Heap) (K : Value → Heap → Prop) : Prop :=
  pop P (binA .lss 3 n0_1 (Value.int IntKind.i64 10)) fun t4_1 =>
  condM t4_1
  (pop P (binA .add 3 (Value.int IntKind.i64 48) n0_1) fun t6_1 =>
  rop P (convert 3 5 t6_1) h fun t7_1 =>
  eop P (Instr.buildSlice 48 1 #[(0, t7_1)]) h fun t8_1 h_1 =>
  rop P (convert 48 9 t8_1) h_1 fun t9_1 =>
  K t9_1 h_1)
  (pop P (binA .quo 3 n0_1 (Value.int IntKind.i64 10)) fun t11_1 =>
  pop P (binA .rem 3 n0_1 (Value.int IntKind.i64 10)) fun t14_1 =>
  pop P (binA .add 3 (Value.int IntKind.i64 48) t14_1) fun t15_1 =>
  rop P (convert 3 5 t15_1) h fun t16_1 =>
  (callM P 53 #[t11_1] h fun t12_1 h_2 =>
  (∀ w : World, w.heap = h_2 → (convert 3 5 t15_1).run P w = .ok t16_1 w) ∧
  eop P (Instr.buildSlice 48 1 #[(0, t16_1)]) h_2 fun t17_1 h_3 =>
  rop P (convert 48 9 t17_1) h_3 fun t18_1 =>
  pop P (binA .add 9 t12_1 t18_1) fun t19_1 =>
  K t19_1 h_3) ∧
  (eop P (Instr.buildSlice 48 1 #[(0, t16_1)]) h fun t17_2 h_4 =>
  rop P (convert 48 9 t17_2) h_4 fun t18_2 =>
  callM P 53 #[t11_1] h_4 fun t12_2 h_5 =>
  (∀ w : World, w.heap = h_5 → (convert 48 9 t17_2).run P w = .ok t18_2 w) ∧
  pop P (binA .add 9 t12_2 t18_2) fun t19_2 =>
  K t19_2 h_5))
theorem e53 (n0_1 : Value) (h : Heap) (K : Value → Heap → Prop) : wpA Tryd.prog 20 (anOf []) (bodyOf Tryd.f53) 1 (fun A h => resA Tryd.prog A h K [.tmp 2]) (fun _ _ _ => False) (fun A h => resA Tryd.prog A h K [.tmp 2]) (aargs [n0_1] 0) h = t53 Tryd.prog n0_1 h K := by kernel_rfl
theorem c53 (n0_1 : Value) (h : Heap) (K : Value → Heap → Prop) (H : t53 Tryd.prog n0_1 h K) : callM Tryd.prog 53 #[n0_1] h K :=
  callM_of_wpA mixed (fn := Tryd.f53) Tryd.func53 (c := bodyOf Tryd.f53) rfl (of_decide_eq_true (by kernel_rfl)) (anOf []) 19 20 (by kernel_rfl) rfl [.tmp 2] (by kernel_rfl) (args := [n0_1]) (by rw [e53]; exact H)
def t55 (P : Program) (n0_1 : Value) (low1_1 : Value) (high2_1 : Value) (h : Heap) (K : Value → Heap → Prop) : Prop :=
  pop P (binA .leq 3 low1_1 n0_1) fun t9_1 =>
  guardM (asG t9_1 true) true (fun k_1 => k_1 n0_1 h) h fun t11_1 h_1 =>
  guardM (asG t9_1 true) true (fun k_2 => k_2 high2_1 h_1) h_1 fun t12_1 h_2 =>
  guardM (asG t9_1 true) true (fun k_3 => pop P (binA .leq 3 t11_1 t12_1) fun t13_1 =>
  k_3 t13_1 h_2) h_2 fun t13_2 h_3 =>
  pop P (pickS t9_1 t13_2 (Value.bool false)) fun t14_1 =>
  K t14_1 h_3
theorem e55 (n0_1 : Value) (low1_1 : Value) (high2_1 : Value) (h : Heap) (K : Value → Heap → Prop) : wpA Tryd.prog 15 (anOf []) (bodyOf Tryd.f55) 1 (fun A h => resA Tryd.prog A h K [.tmp 6]) (fun _ _ _ => False) (fun A h => resA Tryd.prog A h K [.tmp 6]) (aargs [n0_1, low1_1, high2_1] 0) h = t55 Tryd.prog n0_1 low1_1 high2_1 h K := by kernel_rfl
theorem c55 (n0_1 : Value) (low1_1 : Value) (high2_1 : Value) (h : Heap) (K : Value → Heap → Prop) (H : t55 Tryd.prog n0_1 low1_1 high2_1 h K) : callM Tryd.prog 55 #[n0_1, low1_1, high2_1] h K :=
  callM_of_wpA mixed (fn := Tryd.f55) Tryd.func55 (c := bodyOf Tryd.f55) rfl (of_decide_eq_true (by kernel_rfl)) (anOf []) 12 15 (by kernel_rfl) rfl [.tmp 6] (by kernel_rfl) (args := [n0_1, low1_1, high2_1]) (by rw [e55]; exact H)
def t56 (P : Program) (s0_1 : Value) (f1_1 : Value) (h : Heap) (K : Value → Heap → Prop) : Prop :=
  callM P 95 #[s0_1, f1_1] h fun t7_1 h_1 =>
  pop P (binA .geq 3 t7_1 (Value.int IntKind.i64 0)) fun t8_1 =>
  K t8_1 h_1
theorem e56 (s0_1 : Value) (f1_1 : Value) (h : Heap) (K : Value → Heap → Prop) : wpA Tryd.prog 9 (anOf []) (bodyOf Tryd.f56) 1 (fun A h => resA Tryd.prog A h K [.tmp 4]) (fun _ _ _ => False) (fun A h => resA Tryd.prog A h K [.tmp 4]) (aargs [s0_1, f1_1] 0) h = t56 Tryd.prog s0_1 f1_1 h K := by kernel_rfl
theorem c56 (s0_1 : Value) (f1_1 : Value) (h : Heap) (K : Value → Heap → Prop) (H : t56 Tryd.prog s0_1 f1_1 h K) : callM Tryd.prog 56 #[s0_1, f1_1] h K :=
  callM_of_wpA mixed (fn := Tryd.f56) Tryd.func56 (c := bodyOf Tryd.f56) rfl (of_decide_eq_true (by kernel_rfl)) (anOf []) 7 9 (by kernel_rfl) rfl [.tmp 4] (by kernel_rfl) (args := [s0_1, f1_1]) (by rw [e56]; exact H)
def t58 (P : Program) (list0_1 : Value) (h : Heap) (K : Value → Heap → Prop) : Prop :=
  pop P (lenS 34 3 list0_1) fun t7_1 =>
  pop P (binE .eql 3 (.tmp 7) (.const (Value.int IntKind.i64 0)) t7_1 (Value.int IntKind.i64 0)) fun t8_1 =>
  condM t8_1
  (K (Value.string { data := #[45] }) h)
  (eop P (Instr.buildSlice 79 0 #[]) h fun t9_1 h_1 =>
  pop P (lenS 34 3 list0_1) fun t11_1 =>
  ∃ (I_1 : List Value → Heap → Prop) (μ_1 : List Value → Heap → Nat), I_1 [t9_1, (Value.int IntKind.i64 0)] h_1 ∧
  ∀ (junk_1 : Nat → Value) (words3_1 : Value) (t12_1 : Value) (h_2 : Heap), I_1 [words3_1, t12_1] h_2 →
  pop P (binA .lss 3 t12_1 t11_1) fun t13_1 =>
  condM t13_1
  (pop P (Instr.indexAt 34 list0_1 t12_1) fun t14_1 =>
  rop P (Instr.loadAt 3 t14_1) h_2 fun t15_1 =>
  callM P 96 #[t15_1] h_2 fun t18_1 h_3 =>
  eop P (Instr.buildSlice 79 1 #[(0, t18_1)]) h_3 fun t19_1 h_4 =>
  eop P (appS 79 79 79 words3_1 t19_1) h_4 fun t20_1 h_5 =>
  pop P (binA .add 3 t12_1 (Value.int IntKind.i64 1)) fun t21_1 =>
  I_1 [t20_1, t21_1] h_5 ∧ μ_1 [t20_1, t21_1] h_5 < μ_1 [words3_1, t12_1] h_2)
  (callM P 59 #[words3_1, (Value.string { data := #[44] })] h_2 fun t23_1 h_6 =>
  K t23_1 h_6))
theorem e58 (list0_1 : Value) (h : Heap) (K : Value → Heap → Prop) : wpA Tryd.prog 24 (anOf [(122, [3, 12])]) (bodyOf Tryd.f58) 1 (fun A h => resA Tryd.prog A h K [.tmp 2]) (fun _ _ _ => False) (fun A h => resA Tryd.prog A h K [.tmp 2]) (aargs [list0_1] 0) h = t58 Tryd.prog list0_1 h K := by kernel_rfl
theorem c58 (list0_1 : Value) (h : Heap) (K : Value → Heap → Prop) (H : t58 Tryd.prog list0_1 h K) : callM Tryd.prog 58 #[list0_1] h K :=
  callM_of_wpA mixed (fn := Tryd.f58) Tryd.func58 (c := bodyOf Tryd.f58) rfl (of_decide_eq_true (by kernel_rfl)) (anOf [(122, [3, 12])]) 23 24 (by kernel_rfl) rfl [.tmp 2] (by kernel_rfl) (args := [list0_1]) (by rw [e58]; exact H)
def t62 (P : Program) (g0_1 : Value) (w1_1 : Value) (h : Heap) (K : Value → Heap → Prop) : Prop :=
  eop P (Instr.box 41 g0_1) h fun g2_1 h_1 =>
  eop P (Instr.box 43 w1_1) h_1 fun w3_1 h_2 =>
  rop P (Instr.loadAt 41 g2_1) h_2 fun t7_1 =>
  pop P (Instr.fieldAt 43 w3_1 1) fun t8_1 =>
  rop P (Instr.loadAt 3 t8_1) h_2 fun t9_1 =>
  callM P 83 #[t7_1, t9_1] h_2 fun t10_1 h_3 =>
  pop P (Op.unary .not t10_1) fun t11_1 =>
  guardM (asG t11_1 false) false (fun k_1 => pop P (Instr.fieldAt 43 w3_1 0) fun t13_1 =>
  k_1 t13_1 h_3) h_3 fun t13_2 h_4 =>
  guardM (asG t11_1 false) false (fun k_2 => rop P (Instr.loadAt 34 t13_2) h_4 fun t14_1 =>
  k_2 t14_1 h_4) h_4 fun t14_2 h_5 =>
  guardM (asG t11_1 false) false (fun k_3 => pop P (lenS 34 3 t14_2) fun t15_1 =>
  k_3 t15_1 h_5) h_5 fun t15_2 h_6 =>
  guardM (asG t11_1 false) false (fun k_4 => pop P (Instr.fieldAt 41 g2_1 0) fun t16_1 =>
  k_4 t16_1 h_6) h_6 fun t16_2 h_7 =>
  guardM (asG t11_1 false) false (fun k_5 => rop P (Instr.loadAt 22 t16_2) h_7 fun t17_1 =>
  k_5 t17_1 h_7) h_7 fun t17_2 h_8 =>
  guardM (asG t11_1 false) false (fun k_6 => pop P (lenS 22 3 t17_2) fun t18_1 =>
  k_6 t18_1 h_8) h_8 fun t18_2 h_9 =>
  guardM (asG t11_1 false) false (fun k_7 => pop P (binE .neq 3 (.tmp 15) (.tmp 18) t15_2 t18_2) fun t19_1 =>
  k_7 t19_1 h_9) h_9 fun t19_2 h_10 =>
  pop P (pickS t11_1 (Value.bool true) t19_2) fun t20_1 =>
  condM t20_1
  (K (Value.bool false) h_10)
  (pop P (Instr.fieldAt 41 g2_1 0) fun t21_1 =>
  rop P (Instr.loadAt 22 t21_1) h_10 fun t22_1 =>
  pop P (lenS 22 3 t22_1) fun t23_1 =>
  ∃ (I_1 : List Value → Heap → Prop) (μ_1 : List Value → Heap → Nat), I_1 [(Value.int IntKind.i64 0)] h_10 ∧
  ∀ (junk_1 : Nat → Value) (t24_1 : Value) (h_11 : Heap), I_1 [t24_1] h_11 →
  pop P (binA .lss 3 t24_1 t23_1) fun t25_1 =>
  condM t25_1
  (pop P (Instr.indexAt 22 t22_1 t24_1) fun t27_1 =>
  rop P (Instr.loadAt 34 t27_1) h_11 fun t28_1 =>
  pop P (Instr.fieldAt 43 w3_1 0) fun t29_1 =>
  rop P (Instr.loadAt 34 t29_1) h_11 fun t30_1 =>
  pop P (Instr.indexAt 34 t30_1 t24_1) fun t32_1 =>
  rop P (Instr.loadAt 3 t32_1) h_11 fun t33_1 =>
  pop P (lenS 34 3 t28_1) fun t35_1 =>
  pop P (binA .sub 3 t35_1 (Value.int IntKind.i64 1)) fun t36_1 =>
  callM P 100 #[(Value.int IntKind.i64 0), t36_1] h_11 fun t37_1 h_12 =>
  (∀ w : World, w.heap = h_12 → (Instr.loadAt 3 t32_1).run P w = .ok t33_1 w) ∧
  (∀ w : World, w.heap = h_12 → (Instr.loadAt 34 t29_1).run P w = .ok t30_1 w) ∧
  callM P 51 #[t33_1, (Value.int IntKind.i64 0), t37_1] h_12 fun t38_1 h_13 =>
  (∀ w : World, w.heap = h_13 → (Instr.loadAt 34 t29_1).run P w = .ok t30_1 w) ∧
  pop P (Op.unary .not t38_1) fun t39_1 =>
  condM t39_1
  (K (Value.bool false) h_13)
  (pop P (binA .add 3 t24_1 (Value.int IntKind.i64 1)) fun t40_1 =>
  I_1 [t40_1] h_13 ∧ μ_1 [t40_1] h_13 < μ_1 [t24_1] h_11))
  (K (Value.bool true) h_11))
theorem e62 (g0_1 : Value) (w1_1 : Value) (h : Heap) (K : Value → Heap → Prop) : wpA Tryd.prog 41 (anOf [(58, [24])]) (bodyOf Tryd.f62) 1 (fun A h => resA Tryd.prog A h K [.tmp 4]) (fun _ _ _ => False) (fun A h => resA Tryd.prog A h K [.tmp 4]) (aargs [g0_1, w1_1] 0) h = t62 Tryd.prog g0_1 w1_1 h K := by kernel_rfl
theorem c62 (g0_1 : Value) (w1_1 : Value) (h : Heap) (K : Value → Heap → Prop) (H : t62 Tryd.prog g0_1 w1_1 h K) : callM Tryd.prog 62 #[g0_1, w1_1] h K :=
  callM_of_wpA mixed (fn := Tryd.f62) Tryd.func62 (c := bodyOf Tryd.f62) rfl (of_decide_eq_true (by kernel_rfl)) (anOf [(58, [24])]) 39 41 (by kernel_rfl) rfl [.tmp 4] (by kernel_rfl) (args := [g0_1, w1_1]) (by rw [e62]; exact H)
def t65 (P : Program) (g0_1 : Value) (w1_1 : Value) (h : Heap) (K : Value → Heap → Prop) : Prop :=
  eop P (Instr.box 41 g0_1) h fun g2_1 h_1 =>
  eop P (Instr.box 43 w1_1) h_1 fun w3_1 h_2 =>
  rop P (Instr.loadAt 41 g2_1) h_2 fun t7_1 =>
  pop P (Instr.fieldAt 43 w3_1 1) fun t8_1 =>
  rop P (Instr.loadAt 3 t8_1) h_2 fun t9_1 =>
  eop P (Instr.buildSlice 34 1 #[(0, t9_1)]) h_2 fun t10_1 h_3 =>
  callM P 87 #[t7_1, t10_1] h_3 fun t11_1 h_4 =>
  pop P (Op.unary .not t11_1) fun t12_1 =>
  guardM (asG t12_1 false) false (fun k_1 => pop P (Instr.fieldAt 43 w3_1 0) fun t14_1 =>
  k_1 t14_1 h_4) h_4 fun t14_2 h_5 =>
  guardM (asG t12_1 false) false (fun k_2 => rop P (Instr.loadAt 34 t14_2) h_5 fun t15_1 =>
  k_2 t15_1 h_5) h_5 fun t15_2 h_6 =>
  guardM (asG t12_1 false) false (fun k_3 => pop P (lenS 34 3 t15_2) fun t16_1 =>
  k_3 t16_1 h_6) h_6 fun t16_2 h_7 =>
  guardM (asG t12_1 false) false (fun k_4 => pop P (Instr.fieldAt 41 g2_1 0) fun t17_1 =>
  k_4 t17_1 h_7) h_7 fun t17_2 h_8 =>
  guardM (asG t12_1 false) false (fun k_5 => rop P (Instr.loadAt 22 t17_2) h_8 fun t18_1 =>
  k_5 t18_1 h_8) h_8 fun t18_2 h_9 =>
  guardM (asG t12_1 false) false (fun k_6 => pop P (lenS 22 3 t18_2) fun t19_1 =>
  k_6 t19_1 h_9) h_9 fun t19_2 h_10 =>
  guardM (asG t12_1 false) false (fun k_7 => pop P (binE .neq 3 (.tmp 16) (.tmp 19) t16_2 t19_2) fun t20_1 =>
  k_7 t20_1 h_10) h_10 fun t20_2 h_11 =>
  pop P (pickS t12_1 (Value.bool true) t20_2) fun t21_1 =>
  condM t21_1
  (K (Value.bool false) h_11)
  (pop P (Instr.fieldAt 43 w3_1 0) fun t22_1 =>
  rop P (Instr.loadAt 34 t22_1) h_11 fun t23_1 =>
  pop P (lenS 34 3 t23_1) fun t24_1 =>
  ∃ (I_1 : List Value → Heap → Prop) (μ_1 : List Value → Heap → Nat), I_1 [(Value.int IntKind.i64 0)] h_11 ∧
  ∀ (junk_1 : Nat → Value) (t25_1 : Value) (h_12 : Heap), I_1 [t25_1] h_12 →
  pop P (binA .lss 3 t25_1 t24_1) fun t26_1 =>
  condM t26_1
  (pop P (Instr.indexAt 34 t23_1 t25_1) fun t28_1 =>
  rop P (Instr.loadAt 3 t28_1) h_12 fun t29_1 =>
  pop P (Instr.fieldAt 41 g2_1 0) fun t31_1 =>
  rop P (Instr.loadAt 22 t31_1) h_12 fun t32_1 =>
  pop P (Instr.indexAt 22 t32_1 t25_1) fun t34_1 =>
  rop P (Instr.loadAt 34 t34_1) h_12 fun t35_1 =>
  pop P (lenS 34 3 t35_1) fun t36_1 =>
  pop P (binA .sub 3 t36_1 (Value.int IntKind.i64 1)) fun t37_1 =>
  pop P (Builtin.max_ #[3, 3] 3 #[t37_1, (Value.int IntKind.i64 0)]) fun t38_1 =>
  callM P 55 #[t29_1, (Value.int IntKind.i64 0), t38_1] h_12 fun t39_1 h_13 =>
  pop P (Op.unary .not t39_1) fun t40_1 =>
  condM t40_1
  (K (Value.bool false) h_13)
  (pop P (binA .add 3 t25_1 (Value.int IntKind.i64 1)) fun t41_1 =>
  I_1 [t41_1] h_13 ∧ μ_1 [t41_1] h_13 < μ_1 [t25_1] h_12))
  (K (Value.bool true) h_12))
theorem e65 (g0_1 : Value) (w1_1 : Value) (h : Heap) (K : Value → Heap → Prop) : wpA Tryd.prog 42 (anOf [(58, [25])]) (bodyOf Tryd.f65) 1 (fun A h => resA Tryd.prog A h K [.tmp 4]) (fun _ _ _ => False) (fun A h => resA Tryd.prog A h K [.tmp 4]) (aargs [g0_1, w1_1] 0) h = t65 Tryd.prog g0_1 w1_1 h K := by kernel_rfl
theorem c65 (g0_1 : Value) (w1_1 : Value) (h : Heap) (K : Value → Heap → Prop) (H : t65 Tryd.prog g0_1 w1_1 h K) : callM Tryd.prog 65 #[g0_1, w1_1] h K :=
  callM_of_wpA mixed (fn := Tryd.f65) Tryd.func65 (c := bodyOf Tryd.f65) rfl (of_decide_eq_true (by kernel_rfl)) (anOf [(58, [25])]) 40 42 (by kernel_rfl) rfl [.tmp 4] (by kernel_rfl) (args := [g0_1, w1_1]) (by rw [e65]; exact H)
def t67 (P : Program) (code0_1 : Value) (h : Heap) (K : Value → Heap → Prop) : Prop :=
  eop P (Instr.alloc 41 true (.tuple #[])) h fun t2_1 h_1 =>
  eop P (Instr.alloc 43 true (.tuple #[])) h_1 fun t3_1 h_2 =>
  pop P (Instr.build 123 #[(0, code0_1)]) fun t9_1 =>
  eop P (Instr.box 123 t9_1) h_2 fun t10_1 h_3 =>
  callM P 103 #[t10_1] h_3 fun t13_1 h_4 =>
  pop P (Instr.extract t13_1 0) fun t14_1 =>
  pop P (Instr.extract t13_1 1) fun t15_1 =>
  eop P (Instr.alloc 41 true (.tuple #[])) h_4 fun g6_1 h_5 =>
  eop P (Instr.alloc 43 true (.tuple #[])) h_5 fun w7_1 h_6 =>
  uop P (Instr.storeAt 41 g6_1 t14_1) h_6 fun u_1 h_7 =>
  uop P (Instr.storeAt 43 w7_1 t15_1) h_7 fun u_2 h_8 =>
  rop P (Instr.loadAt 41 g6_1) h_8 fun t16_1 =>
  rop P (Instr.loadAt 43 w7_1) h_8 fun t17_1 =>
  callM P 104 #[t10_1] h_8 fun t19_1 h_9 =>
  (∀ w : World, w.heap = h_9 → (Instr.loadAt 43 w7_1).run P w = .ok t17_1 w) ∧
  (∀ w : World, w.heap = h_9 → (Instr.loadAt 41 g6_1).run P w = .ok t16_1 w) ∧
  uop P (Instr.storeAt 41 t2_1 t16_1) h_9 fun u_3 h_10 =>
  (∀ w : World, w.heap = h_10 → (Instr.loadAt 43 w7_1).run P w = .ok t17_1 w) ∧
  uop P (Instr.storeAt 43 t3_1 t17_1) h_10 fun u_4 h_11 =>
  rop P (Instr.loadAt 41 t2_1) h_11 fun r_1 =>
  rop P (Instr.loadAt 43 t3_1) h_11 fun r_2 =>
  K (.tuple #[r_1, r_2, t19_1]) h_11
theorem e67 (code0_1 : Value) (h : Heap) (K : Value → Heap → Prop) : wpA Tryd.prog 20 (anOf []) (bodyOf Tryd.f67) 1 (fun A h => resA Tryd.prog A h K [.cell 2 41, .cell 3 43, .tmp 4]) (fun _ _ _ => False) (fun A h => resA Tryd.prog A h K [.cell 2 41, .cell 3 43, .tmp 4]) (aargs [code0_1] 0) h = t67 Tryd.prog code0_1 h K := by kernel_rfl
theorem c67 (code0_1 : Value) (h : Heap) (K : Value → Heap → Prop) (H : t67 Tryd.prog code0_1 h K) : callM Tryd.prog 67 #[code0_1] h K :=
  callM_of_wpA mixed (fn := Tryd.f67) Tryd.func67 (c := bodyOf Tryd.f67) rfl (of_decide_eq_true (by kernel_rfl)) (anOf []) 19 20 (by kernel_rfl) rfl [.cell 2 41, .cell 3 43, .tmp 4] (by kernel_rfl) (args := [code0_1]) (by rw [e67]; exact H)
def t68 (P : Program) (g0_1 : Value) (w1_1 : Value) (n2_1 : Value) (most3_1 : Value) (h : Heap) (K : Value → Heap → Prop) : Prop :=
  eop P (Instr.box 41 g0_1) h fun g4_1 h_1 =>
  eop P (Instr.box 43 w1_1) h_1 fun w5_1 h_2 =>
  rop P (Instr.loadAt 41 g4_1) h_2 fun t9_1 =>
  rop P (Instr.loadAt 43 w5_1) h_2 fun t10_1 =>
  callM P 65 #[t9_1, t10_1] h_2 fun t11_1 h_3 =>
  guardM (asG t11_1 true) true (fun k_1 => k_1 n2_1 h_3) h_3 fun t13_1 h_4 =>
  guardM (asG t11_1 true) true (fun k_2 => k_2 most3_1 h_4) h_4 fun t14_1 h_5 =>
  guardM (asG t11_1 true) true (fun k_3 => callM P 55 #[t13_1, (Value.int IntKind.i64 0), t14_1] h_5 fun t15_1 h_6 =>
  k_3 t15_1 h_6) h_5 fun t15_2 h_7 =>
  pop P (pickS t11_1 t15_2 (Value.bool false)) fun t16_1 =>
  K t16_1 h_7
theorem e68 (g0_1 : Value) (w1_1 : Value) (n2_1 : Value) (most3_1 : Value) (h : Heap) (K : Value → Heap → Prop) : wpA Tryd.prog 17 (anOf []) (bodyOf Tryd.f68) 1 (fun A h => resA Tryd.prog A h K [.tmp 8]) (fun _ _ _ => False) (fun A h => resA Tryd.prog A h K [.tmp 8]) (aargs [g0_1, w1_1, n2_1, most3_1] 0) h = t68 Tryd.prog g0_1 w1_1 n2_1 most3_1 h K := by kernel_rfl
theorem c68 (g0_1 : Value) (w1_1 : Value) (n2_1 : Value) (most3_1 : Value) (h : Heap) (K : Value → Heap → Prop) (H : t68 Tryd.prog g0_1 w1_1 n2_1 most3_1 h K) : callM Tryd.prog 68 #[g0_1, w1_1, n2_1, most3_1] h K :=
  callM_of_wpA mixed (fn := Tryd.f68) Tryd.func68 (c := bodyOf Tryd.f68) rfl (of_decide_eq_true (by kernel_rfl)) (anOf []) 13 17 (by kernel_rfl) rfl [.tmp 8] (by kernel_rfl) (args := [g0_1, w1_1, n2_1, most3_1]) (by rw [e68]; exact H)
def t69 (P : Program) (w0_1 : Value) (h : Heap) (K : Value → Heap → Prop) : Prop :=
  eop P (Instr.box 43 w0_1) h fun w1_1 h_1 =>
  eop P (Instr.alloc 43 true (.tuple #[])) h_1 fun t2_1 h_2 =>
  pop P (Instr.fieldAt 43 w1_1 0) fun t3_1 =>
  rop P (Instr.loadAt 34 t3_1) h_2 fun t4_1 =>
  pop P (Instr.fieldAt 43 w1_1 1) fun t6_1 =>
  rop P (Instr.loadAt 3 t6_1) h_2 fun t7_1 =>
  callM P 105 #[t4_1] h_2 fun t5_1 h_3 =>
  (∀ w : World, w.heap = h_3 → (Instr.loadAt 3 t6_1).run P w = .ok t7_1 w) ∧
  pop P (Instr.build 43 #[(0, t5_1), (1, t7_1)]) fun t8_1 =>
  uop P (Instr.storeAt 43 t2_1 t8_1) h_3 fun u_1 h_4 =>
  rop P (Instr.loadAt 43 t2_1) h_4 fun r_1 =>
  K r_1 h_4
theorem e69 (w0_1 : Value) (h : Heap) (K : Value → Heap → Prop) : wpA Tryd.prog 9 (anOf []) (bodyOf Tryd.f69) 1 (fun A h => resA Tryd.prog A h K [.cell 2 43]) (fun _ _ _ => False) (fun A h => resA Tryd.prog A h K [.cell 2 43]) (aargs [w0_1] 0) h = t69 Tryd.prog w0_1 h K := by kernel_rfl
theorem c69 (w0_1 : Value) (h : Heap) (K : Value → Heap → Prop) (H : t69 Tryd.prog w0_1 h K) : callM Tryd.prog 69 #[w0_1] h K :=
  callM_of_wpA mixed (fn := Tryd.f69) Tryd.func69 (c := bodyOf Tryd.f69) rfl (of_decide_eq_true (by kernel_rfl)) (anOf []) 8 9 (by kernel_rfl) rfl [.cell 2 43] (by kernel_rfl) (args := [w0_1]) (by rw [e69]; exact H)
def t70 (P : Program) (g0_1 : Value) (h : Heap) (K : Value → Heap → Prop) : Prop :=
  eop P (Instr.box 41 g0_1) h fun g1_1 h_1 =>
  eop P (Instr.buildSlice 22 0 #[]) h_1 fun t6_1 h_2 =>
  pop P (Instr.fieldAt 41 g1_1 0) fun t7_1 =>
  rop P (Instr.loadAt 22 t7_1) h_2 fun t8_1 =>
  pop P (lenS 22 3 t8_1) fun t9_1 =>
  ∃ (I_1 : List Value → Heap → Prop) (μ_1 : List Value → Heap → Nat), I_1 [t6_1, (Value.int IntKind.i64 0)] h_2 ∧
  ∀ (junk_1 : Nat → Value) (out3_1 : Value) (t10_1 : Value) (h_3 : Heap), I_1 [out3_1, t10_1] h_3 →
  pop P (binA .lss 3 t10_1 t9_1) fun t11_1 =>
  condM t11_1
  (pop P (Instr.indexAt 22 t8_1 t10_1) fun t12_1 =>
  rop P (Instr.loadAt 34 t12_1) h_3 fun t13_1 =>
  pop P (lenS 34 3 t13_1) fun t16_1 =>
  eop P (Instr.makeSlice 34 t16_1 t16_1) h_3 fun t17_1 h_4 =>
  eop P (Instr.buildSlice 22 1 #[(0, t17_1)]) h_4 fun t18_1 h_5 =>
  eop P (appS 22 22 22 out3_1 t18_1) h_5 fun t19_1 h_6 =>
  pop P (binA .add 3 t10_1 (Value.int IntKind.i64 1)) fun t20_1 =>
  I_1 [t19_1, t20_1] h_6 ∧ μ_1 [t19_1, t20_1] h_6 < μ_1 [out3_1, t10_1] h_3)
  (K out3_1 h_3)
theorem e70 (g0_1 : Value) (h : Heap) (K : Value → Heap → Prop) : wpA Tryd.prog 22 (anOf [(58, [3, 10])]) (bodyOf Tryd.f70) 1 (fun A h => resA Tryd.prog A h K [.tmp 2]) (fun _ _ _ => False) (fun A h => resA Tryd.prog A h K [.tmp 2]) (aargs [g0_1] 0) h = t70 Tryd.prog g0_1 h K := by kernel_rfl
theorem c70 (g0_1 : Value) (h : Heap) (K : Value → Heap → Prop) (H : t70 Tryd.prog g0_1 h K) : callM Tryd.prog 70 #[g0_1] h K :=
  callM_of_wpA mixed (fn := Tryd.f70) Tryd.func70 (c := bodyOf Tryd.f70) rfl (of_decide_eq_true (by kernel_rfl)) (anOf [(58, [3, 10])]) 21 22 (by kernel_rfl) rfl [.tmp 2] (by kernel_rfl) (args := [g0_1]) (by rw [e70]; exact H)
def t71 (P : Program) (g0_1 : Value) (w1_1 : Value) (n2_1 : Value) (with3_1 : Value) (h : Heap) (K : Value → Heap → Prop) : Prop :=
  eop P (Instr.box 41 g0_1) h fun g4_1 h_1 =>
  ∃ (I_1 : List Value → Heap → Prop) (μ_1 : List Value → Heap → Nat), I_1 [(Value.int IntKind.i64 0)] h_1 ∧
  ∀ (junk_1 : Nat → Value) (t11_1 : Value) (h_2 : Heap), I_1 [t11_1] h_2 →
  pop P (binA .lss 3 t11_1 n2_1) fun t12_1 =>
  condM t12_1
  (pop P (nilS w1_1) fun t14_1 =>
  pop P (Instr.fieldAt 43 t14_1 1) fun t15_1 =>
  rop P (Instr.loadAt 3 t15_1) h_2 fun t16_1 =>
  rop P (Instr.loadAt 41 g4_1) h_2 fun t17_1 =>
  callM P 92 #[t17_1, w1_1] h_2 fun t19_1 h_3 =>
  pop P (Op.unary .not t19_1) fun t20_1 =>
  condM t20_1
  (K (Value.bool false) h_3)
  (callV P with3_1 [t16_1] h_3 fun t23_1 h_4 =>
  pop P (binA .add 3 t11_1 (Value.int IntKind.i64 1)) fun t24_1 =>
  I_1 [t24_1] h_4 ∧ μ_1 [t24_1] h_4 < μ_1 [t11_1] h_2))
  (K (Value.bool true) h_2)
theorem e71 (g0_1 : Value) (w1_1 : Value) (n2_1 : Value) (with3_1 : Value) (h : Heap) (K : Value → Heap → Prop) : wpA Tryd.prog 25 (anOf [(26, [11])]) (bodyOf Tryd.f71) 1 (fun A h => resA Tryd.prog A h K [.tmp 8]) (fun _ _ _ => False) (fun A h => resA Tryd.prog A h K [.tmp 8]) (aargs [g0_1, w1_1, n2_1, with3_1] 0) h = t71 Tryd.prog g0_1 w1_1 n2_1 with3_1 h K := by kernel_rfl
theorem c71 (g0_1 : Value) (w1_1 : Value) (n2_1 : Value) (with3_1 : Value) (h : Heap) (K : Value → Heap → Prop) (H : t71 Tryd.prog g0_1 w1_1 n2_1 with3_1 h K) : callM Tryd.prog 71 #[g0_1, w1_1, n2_1, with3_1] h K :=
  callM_of_wpA mixed (fn := Tryd.f71) Tryd.func71 (c := bodyOf Tryd.f71) rfl (of_decide_eq_true (by kernel_rfl)) (anOf [(26, [11])]) 21 25 (by kernel_rfl) rfl [.tmp 8] (by kernel_rfl) (args := [g0_1, w1_1, n2_1, with3_1]) (by rw [e71]; exact H)
def t72 (P : Program) (from0_1 : Value) (t1_1 : Value) (t2_1 : Value) (h : Heap) (K : Value → Heap → Prop) : Prop :=
  rop P (Instr.loadAt 22 t1_1) h fun t4_1 =>
  pop P (Instr.indexAt 22 t4_1 from0_1) fun t6_1 =>
  rop P (Instr.loadAt 34 t6_1) h fun t7_1 =>
  pop P (Instr.fieldAt 43 t2_1 0) fun t8_1 =>
  rop P (Instr.loadAt 34 t8_1) h fun t9_1 =>
  pop P (Instr.indexAt 34 t9_1 from0_1) fun t11_1 =>
  rop P (Instr.loadAt 3 t11_1) h fun t12_1 =>
  pop P (Instr.indexAt 34 t7_1 t12_1) fun t13_1 =>
  rop P (Instr.loadAt 3 t13_1) h fun t14_1 =>
  pop P (binA .add 3 t14_1 (Value.int IntKind.i64 1)) fun t15_1 =>
  pop P (Instr.indexAt 34 t7_1 t12_1) fun t16_1 =>
  uop P (Instr.storeAt 3 t16_1 t15_1) h fun u_1 h_1 =>
  K (.tuple #[]) h_1
theorem e72 (from0_1 : Value) (t1_1 : Value) (t2_1 : Value) (h : Heap) (K : Value → Heap → Prop) : wpA Tryd.prog 17 (anOf []) (bodyOf Tryd.f72) 1 (fun A h => resA Tryd.prog A h K []) (fun _ _ _ => False) (fun A h => resA Tryd.prog A h K []) (aargs [from0_1, t1_1, t2_1] 0) h = t72 Tryd.prog from0_1 t1_1 t2_1 h K := by kernel_rfl
theorem c72 (from0_1 : Value) (t1_1 : Value) (t2_1 : Value) (h : Heap) (K : Value → Heap → Prop) (H : t72 Tryd.prog from0_1 t1_1 t2_1 h K) : callM Tryd.prog 72 #[from0_1, t1_1, t2_1] h K :=
  callM_of_wpA mixed (fn := Tryd.f72) Tryd.func72 (c := bodyOf Tryd.f72) rfl (of_decide_eq_true (by kernel_rfl)) (anOf []) 14 17 (by kernel_rfl) rfl [] (by kernel_rfl) (args := [from0_1, t1_1, t2_1]) (by rw [e72]; exact H)
def t73 (P : Program) (g0_1 : Value) (w1_1 : Value) (n2_1 : Value) (h : Heap) (K : Value → Heap → Prop) : Prop :=
  eop P (Instr.box 41 g0_1) h fun g3_1 h_1 =>
  eop P (Instr.box 43 w1_1) h_1 fun w4_1 h_2 =>
  rop P (Instr.loadAt 41 g3_1) h_2 fun t7_1 =>
  rop P (Instr.loadAt 43 w4_1) h_2 fun t8_1 =>
  callM P 62 #[t7_1, t8_1] h_2 fun t9_1 h_3 =>
  guardM (asG t9_1 true) true (fun k_1 => k_1 n2_1 h_3) h_3 fun t11_1 h_4 =>
  guardM (asG t9_1 true) true (fun k_2 => callM P 51 #[t11_1, (Value.int IntKind.i64 0), (Value.int IntKind.i64 2000)] h_4 fun t12_1 h_5 =>
  k_2 t12_1 h_5) h_4 fun t12_2 h_6 =>
  pop P (pickS t9_1 t12_2 (Value.bool false)) fun t13_1 =>
  K t13_1 h_6
theorem e73 (g0_1 : Value) (w1_1 : Value) (n2_1 : Value) (h : Heap) (K : Value → Heap → Prop) : wpA Tryd.prog 14 (anOf []) (bodyOf Tryd.f73) 1 (fun A h => resA Tryd.prog A h K [.tmp 6]) (fun _ _ _ => False) (fun A h => resA Tryd.prog A h K [.tmp 6]) (aargs [g0_1, w1_1, n2_1] 0) h = t73 Tryd.prog g0_1 w1_1 n2_1 h K := by kernel_rfl
theorem c73 (g0_1 : Value) (w1_1 : Value) (n2_1 : Value) (h : Heap) (K : Value → Heap → Prop) (H : t73 Tryd.prog g0_1 w1_1 n2_1 h K) : callM Tryd.prog 73 #[g0_1, w1_1, n2_1] h K :=
  callM_of_wpA mixed (fn := Tryd.f73) Tryd.func73 (c := bodyOf Tryd.f73) rfl (of_decide_eq_true (by kernel_rfl)) (anOf []) 11 14 (by kernel_rfl) rfl [.tmp 6] (by kernel_rfl) (args := [g0_1, w1_1, n2_1]) (by rw [e73]; exact H)
def t74 (P : Program) (g0_1 : Value) (w1_1 : Value) (n2_1 : Value) (h : Heap) (K : Value → Heap → Prop) : Prop :=
  eop P (Instr.box 41 g0_1) h fun g3_1 h_1 =>
  eop P (Instr.box 43 w1_1) h_1 fun w4_1 h_2 =>
  eop P (Instr.alloc 96 true (.tuple #[])) h_2 fun t6_1 h_3 =>
  ∃ J_1 : List Value → Heap → Prop, (rop P (Instr.loadAt 43 w4_1) h_3 fun t14_1 =>
  pop P (Instr.fieldAt 43 w4_1 1) fun t15_1 =>
  rop P (Instr.loadAt 3 t15_1) h_3 fun t16_1 =>
  pop P (Instr.fieldAt 41 g3_1 0) fun t18_1 =>
  rop P (Instr.loadAt 22 t18_1) h_3 fun t19_1 =>
  pop P (lenS 22 3 t19_1) fun t20_1 =>
  (eop P (Instr.buildSlice 34 1 #[(0, t16_1)]) h_3 fun t17_1 h_4 =>
  (∀ w : World, w.heap = h_4 → (Instr.loadAt 22 t18_1).run P w = .ok t19_1 w) ∧
  (∀ w : World, w.heap = h_4 → (Instr.loadAt 43 w4_1).run P w = .ok t14_1 w) ∧
  (eop P (Instr.makeSlice 34 t20_1 t20_1) h_4 fun t21_1 h_5 =>
  (∀ w : World, w.heap = h_5 → (Instr.loadAt 22 t18_1).run P w = .ok t19_1 w) ∧
  (∀ w : World, w.heap = h_5 → (Instr.loadAt 43 w4_1).run P w = .ok t14_1 w) ∧
  pop P (Instr.build 96 #[(0, t14_1), (1, t17_1), (2, t21_1)]) fun t22_1 =>
  eop P (Instr.alloc 96 true (.tuple #[])) h_5 fun r8_1 h_6 =>
  (∀ w : World, w.heap = h_6 → (Instr.loadAt 22 t18_1).run P w = .ok t19_1 w) ∧
  (∀ w : World, w.heap = h_6 → (Instr.loadAt 43 w4_1).run P w = .ok t14_1 w) ∧
  uop P (Instr.storeAt 96 r8_1 t22_1) h_6 fun u_1 h_7 =>
  J_1 [r8_1] h_7) ∧
  (eop P (Instr.alloc 96 true (.tuple #[])) h_4 fun r8_2 h_8 =>
  (∀ w : World, w.heap = h_8 → (Instr.loadAt 22 t18_1).run P w = .ok t19_1 w) ∧
  (∀ w : World, w.heap = h_8 → (Instr.loadAt 43 w4_1).run P w = .ok t14_1 w) ∧
  eop P (Instr.makeSlice 34 t20_1 t20_1) h_8 fun t21_2 h_9 =>
  (∀ w : World, w.heap = h_9 → (Instr.loadAt 22 t18_1).run P w = .ok t19_1 w) ∧
  (∀ w : World, w.heap = h_9 → (Instr.loadAt 43 w4_1).run P w = .ok t14_1 w) ∧
  pop P (Instr.build 96 #[(0, t14_1), (1, t17_1), (2, t21_2)]) fun t22_2 =>
  uop P (Instr.storeAt 96 r8_2 t22_2) h_9 fun u_2 h_10 =>
  J_1 [r8_2] h_10)) ∧
  (eop P (Instr.makeSlice 34 t20_1 t20_1) h_3 fun t21_3 h_11 =>
  (∀ w : World, w.heap = h_11 → (Instr.loadAt 22 t18_1).run P w = .ok t19_1 w) ∧
  (∀ w : World, w.heap = h_11 → (Instr.loadAt 3 t15_1).run P w = .ok t16_1 w) ∧
  (∀ w : World, w.heap = h_11 → (Instr.loadAt 43 w4_1).run P w = .ok t14_1 w) ∧
  (eop P (Instr.buildSlice 34 1 #[(0, t16_1)]) h_11 fun t17_2 h_12 =>
  (∀ w : World, w.heap = h_12 → (Instr.loadAt 22 t18_1).run P w = .ok t19_1 w) ∧
  (∀ w : World, w.heap = h_12 → (Instr.loadAt 43 w4_1).run P w = .ok t14_1 w) ∧
  pop P (Instr.build 96 #[(0, t14_1), (1, t17_2), (2, t21_3)]) fun t22_3 =>
  eop P (Instr.alloc 96 true (.tuple #[])) h_12 fun r8_3 h_13 =>
  (∀ w : World, w.heap = h_13 → (Instr.loadAt 22 t18_1).run P w = .ok t19_1 w) ∧
  (∀ w : World, w.heap = h_13 → (Instr.loadAt 43 w4_1).run P w = .ok t14_1 w) ∧
  uop P (Instr.storeAt 96 r8_3 t22_3) h_13 fun u_3 h_14 =>
  J_1 [r8_3] h_14) ∧
  (eop P (Instr.alloc 96 true (.tuple #[])) h_11 fun r8_4 h_15 =>
  (∀ w : World, w.heap = h_15 → (Instr.loadAt 22 t18_1).run P w = .ok t19_1 w) ∧
  (∀ w : World, w.heap = h_15 → (Instr.loadAt 3 t15_1).run P w = .ok t16_1 w) ∧
  (∀ w : World, w.heap = h_15 → (Instr.loadAt 43 w4_1).run P w = .ok t14_1 w) ∧
  eop P (Instr.buildSlice 34 1 #[(0, t16_1)]) h_15 fun t17_3 h_16 =>
  (∀ w : World, w.heap = h_16 → (Instr.loadAt 22 t18_1).run P w = .ok t19_1 w) ∧
  (∀ w : World, w.heap = h_16 → (Instr.loadAt 43 w4_1).run P w = .ok t14_1 w) ∧
  pop P (Instr.build 96 #[(0, t14_1), (1, t17_3), (2, t21_3)]) fun t22_4 =>
  uop P (Instr.storeAt 96 r8_4 t22_4) h_16 fun u_4 h_17 =>
  J_1 [r8_4] h_17)) ∧
  (eop P (Instr.alloc 96 true (.tuple #[])) h_3 fun r8_5 h_18 =>
  (∀ w : World, w.heap = h_18 → (Instr.loadAt 22 t18_1).run P w = .ok t19_1 w) ∧
  (∀ w : World, w.heap = h_18 → (Instr.loadAt 3 t15_1).run P w = .ok t16_1 w) ∧
  (∀ w : World, w.heap = h_18 → (Instr.loadAt 43 w4_1).run P w = .ok t14_1 w) ∧
  (eop P (Instr.buildSlice 34 1 #[(0, t16_1)]) h_18 fun t17_4 h_19 =>
  (∀ w : World, w.heap = h_19 → (Instr.loadAt 22 t18_1).run P w = .ok t19_1 w) ∧
  (∀ w : World, w.heap = h_19 → (Instr.loadAt 43 w4_1).run P w = .ok t14_1 w) ∧
  eop P (Instr.makeSlice 34 t20_1 t20_1) h_19 fun t21_4 h_20 =>
  (∀ w : World, w.heap = h_20 → (Instr.loadAt 22 t18_1).run P w = .ok t19_1 w) ∧
  (∀ w : World, w.heap = h_20 → (Instr.loadAt 43 w4_1).run P w = .ok t14_1 w) ∧
  pop P (Instr.build 96 #[(0, t14_1), (1, t17_4), (2, t21_4)]) fun t22_5 =>
  uop P (Instr.storeAt 96 r8_5 t22_5) h_20 fun u_5 h_21 =>
  J_1 [r8_5] h_21) ∧
  (eop P (Instr.makeSlice 34 t20_1 t20_1) h_18 fun t21_5 h_22 =>
  (∀ w : World, w.heap = h_22 → (Instr.loadAt 22 t18_1).run P w = .ok t19_1 w) ∧
  (∀ w : World, w.heap = h_22 → (Instr.loadAt 3 t15_1).run P w = .ok t16_1 w) ∧
  (∀ w : World, w.heap = h_22 → (Instr.loadAt 43 w4_1).run P w = .ok t14_1 w) ∧
  eop P (Instr.buildSlice 34 1 #[(0, t16_1)]) h_22 fun t17_5 h_23 =>
  (∀ w : World, w.heap = h_23 → (Instr.loadAt 22 t18_1).run P w = .ok t19_1 w) ∧
  (∀ w : World, w.heap = h_23 → (Instr.loadAt 43 w4_1).run P w = .ok t14_1 w) ∧
  pop P (Instr.build 96 #[(0, t14_1), (1, t17_5), (2, t21_5)]) fun t22_6 =>
  uop P (Instr.storeAt 96 r8_5 t22_6) h_23 fun u_6 h_24 =>
  J_1 [r8_5] h_24))) ∧
  ∀ (junk_1 : Nat → Value) (r8_6 : Value) (h_25 : Heap), J_1 [r8_6] h_25 →
  pop P (Instr.fieldAt 41 g3_1 0) fun t23_1 =>
  rop P (Instr.loadAt 22 t23_1) h_25 fun t24_1 =>
  pop P (lenS 22 3 t24_1) fun t25_1 =>
  ∃ (I_1 : List Value → Heap → Prop) (μ_1 : List Value → Heap → Nat), I_1 [(Value.int IntKind.i64 0)] h_25 ∧
  ∀ (junk_2 : Nat → Value) (t26_1 : Value) (h_26 : Heap), I_1 [t26_1] h_26 →
  pop P (binA .lss 3 t26_1 t25_1) fun t27_1 =>
  condM t27_1
  (pop P (Instr.indexAt 22 t24_1 t26_1) fun t28_1 =>
  rop P (Instr.loadAt 34 t28_1) h_26 fun t29_1 =>
  pop P (Instr.fieldAt 96 r8_6 3) fun t30_1 =>
  rop P (Instr.loadAt 22 t30_1) h_26 fun t31_1 =>
  pop P (lenS 34 3 t29_1) fun t33_1 =>
  eop P (Instr.makeSlice 34 t33_1 t33_1) h_26 fun t34_1 h_27 =>
  (∀ w : World, w.heap = h_27 → (Instr.loadAt 22 t30_1).run P w = .ok t31_1 w) ∧
  eop P (Instr.buildSlice 22 1 #[(0, t34_1)]) h_27 fun t35_1 h_28 =>
  (∀ w : World, w.heap = h_28 → (Instr.loadAt 22 t30_1).run P w = .ok t31_1 w) ∧
  eop P (appS 22 22 22 t31_1 t35_1) h_28 fun t36_1 h_29 =>
  pop P (Instr.fieldAt 96 r8_6 3) fun t37_1 =>
  uop P (Instr.storeAt 22 t37_1 t36_1) h_29 fun u_7 h_30 =>
  pop P (binA .add 3 t26_1 (Value.int IntKind.i64 1)) fun t38_1 =>
  I_1 [t38_1] h_30 ∧ μ_1 [t38_1] h_30 < μ_1 [t26_1] h_26)
  (∃ (I_2 : List Value → Heap → Prop) (μ_2 : List Value → Heap → Nat), I_2 [n2_1] h_26 ∧
  ∀ (junk_3 : Nat → Value) (n2_2 : Value) (h_31 : Heap), I_2 [n2_2] h_31 →
  pop P (binA .gtr 3 n2_2 (Value.int IntKind.i64 0)) fun t40_1 =>
  condM t40_1
  (rop P (Instr.loadAt 41 g3_1) h_31 fun t44_1 =>
  pop P (Instr.fieldAt 96 r8_6 0) fun t45_1 =>
  rop P (Instr.loadAt 43 t45_1) h_31 fun t46_1 =>
  callM P 80 #[t44_1, t46_1] h_31 fun t47_1 h_32 =>
  pop P (Instr.extract t47_1 0) fun t48_1 =>
  pop P (Instr.extract t47_1 1) fun t49_1 =>
  eop P (Instr.alloc 43 true (.tuple #[])) h_32 fun next11_1 h_33 =>
  uop P (Instr.storeAt 43 next11_1 t48_1) h_33 fun u_8 h_34 =>
  pop P (Op.unary .not t49_1) fun t51_1 =>
  condM t51_1
  (pop P (Instr.build 96 #[]) fun t52_1 =>
  uop P (Instr.storeAt 96 t6_1 t52_1) h_34 fun u_9 h_35 =>
  rop P (Instr.loadAt 96 t6_1) h_35 fun r_1 =>
  K (.tuple #[r_1, (Value.bool false)]) h_35)
  (pop P (Instr.fieldAt 96 r8_6 3) fun t53_1 =>
  rop P (Instr.loadAt 22 t53_1) h_34 fun t54_1 =>
  pop P (Instr.fieldAt 96 r8_6 0) fun t55_1 =>
  pop P (Instr.fieldAt 43 t55_1 1) fun t56_1 =>
  rop P (Instr.loadAt 3 t56_1) h_34 fun t57_1 =>
  pop P (Instr.indexAt 22 t54_1 t57_1) fun t58_1 =>
  rop P (Instr.loadAt 34 t58_1) h_34 fun t59_1 =>
  pop P (Instr.fieldAt 43 next11_1 0) fun t61_1 =>
  rop P (Instr.loadAt 34 t61_1) h_34 fun t62_1 =>
  pop P (Instr.fieldAt 96 r8_6 0) fun t63_1 =>
  pop P (Instr.fieldAt 43 t63_1 1) fun t64_1 =>
  rop P (Instr.loadAt 3 t64_1) h_34 fun t65_1 =>
  pop P (Instr.indexAt 34 t62_1 t65_1) fun t66_1 =>
  rop P (Instr.loadAt 3 t66_1) h_34 fun t67_1 =>
  pop P (Instr.indexAt 34 t59_1 t67_1) fun t68_1 =>
  rop P (Instr.loadAt 3 t68_1) h_34 fun t69_1 =>
  pop P (binA .add 3 t69_1 (Value.int IntKind.i64 1)) fun t70_1 =>
  pop P (Instr.indexAt 34 t59_1 t67_1) fun t71_1 =>
  uop P (Instr.storeAt 3 t71_1 t70_1) h_34 fun u_10 h_36 =>
  pop P (Instr.fieldAt 96 r8_6 2) fun t72_1 =>
  rop P (Instr.loadAt 34 t72_1) h_36 fun t73_1 =>
  pop P (Instr.fieldAt 43 next11_1 1) fun t74_1 =>
  rop P (Instr.loadAt 3 t74_1) h_36 fun t75_1 =>
  pop P (Instr.indexAt 34 t73_1 t75_1) fun t76_1 =>
  rop P (Instr.loadAt 3 t76_1) h_36 fun t77_1 =>
  pop P (binA .add 3 t77_1 (Value.int IntKind.i64 1)) fun t78_1 =>
  pop P (Instr.indexAt 34 t73_1 t75_1) fun t79_1 =>
  uop P (Instr.storeAt 3 t79_1 t78_1) h_36 fun u_11 h_37 =>
  pop P (Instr.fieldAt 96 r8_6 1) fun t80_1 =>
  rop P (Instr.loadAt 34 t80_1) h_37 fun t81_1 =>
  pop P (Instr.fieldAt 43 next11_1 1) fun t82_1 =>
  rop P (Instr.loadAt 3 t82_1) h_37 fun t83_1 =>
  eop P (Instr.buildSlice 34 1 #[(0, t83_1)]) h_37 fun t84_1 h_38 =>
  eop P (appS 34 34 34 t81_1 t84_1) h_38 fun t85_1 h_39 =>
  pop P (Instr.fieldAt 96 r8_6 1) fun t86_1 =>
  uop P (Instr.storeAt 34 t86_1 t85_1) h_39 fun u_12 h_40 =>
  rop P (Instr.loadAt 43 next11_1) h_40 fun t87_1 =>
  pop P (Instr.fieldAt 96 r8_6 0) fun t88_1 =>
  uop P (Instr.storeAt 43 t88_1 t87_1) h_40 fun u_13 h_41 =>
  pop P (binA .sub 3 n2_2 (Value.int IntKind.i64 1)) fun t42_1 =>
  I_2 [t42_1] h_41 ∧ μ_2 [t42_1] h_41 < μ_2 [n2_2] h_31))
  (rop P (Instr.loadAt 96 r8_6) h_31 fun t89_1 =>
  uop P (Instr.storeAt 96 t6_1 t89_1) h_31 fun u_14 h_42 =>
  rop P (Instr.loadAt 96 t6_1) h_42 fun r_2 =>
  K (.tuple #[r_2, (Value.bool true)]) h_42))
theorem e74 (g0_1 : Value) (w1_1 : Value) (n2_1 : Value) (h : Heap) (K : Value → Heap → Prop) : wpA Tryd.prog 90 (anOf [(3, [8]), (58, [26]), (60, [2])]) (bodyOf Tryd.f74) 1 (fun A h => resA Tryd.prog A h K [.cell 6 96, .tmp 7]) (fun _ _ _ => False) (fun A h => resA Tryd.prog A h K [.cell 6 96, .tmp 7]) (aargs [g0_1, w1_1, n2_1] 0) h = t74 Tryd.prog g0_1 w1_1 n2_1 h K := by kernel_rfl
theorem c74 (g0_1 : Value) (w1_1 : Value) (n2_1 : Value) (h : Heap) (K : Value → Heap → Prop) (H : t74 Tryd.prog g0_1 w1_1 n2_1 h K) : callM Tryd.prog 74 #[g0_1, w1_1, n2_1] h K :=
  callM_of_wpA mixed (fn := Tryd.f74) Tryd.func74 (c := bodyOf Tryd.f74) rfl (of_decide_eq_true (by kernel_rfl)) (anOf [(3, [8]), (58, [26]), (60, [2])]) 87 90 (by kernel_rfl) rfl [.cell 6 96, .tmp 7] (by kernel_rfl) (args := [g0_1, w1_1, n2_1]) (by rw [e74]; exact H)
def t75 (P : Program) (t0_1 : Value) (t1_1 : Value) (t2_1 : Value) (h : Heap) (K : Value → Heap → Prop) : Prop :=
  rop P (Instr.loadAt 34 t1_1) h fun t4_1 =>
  pop P (Instr.fieldAt 43 t2_1 1) fun t5_1 =>
  rop P (Instr.loadAt 3 t5_1) h fun t6_1 =>
  pop P (Instr.indexAt 34 t4_1 t6_1) fun t7_1 =>
  rop P (Instr.loadAt 3 t7_1) h fun t8_1 =>
  pop P (binA .add 3 t8_1 (Value.int IntKind.i64 1)) fun t9_1 =>
  pop P (Instr.indexAt 34 t4_1 t6_1) fun t10_1 =>
  uop P (Instr.storeAt 3 t10_1 t9_1) h fun u_1 h_1 =>
  K (.tuple #[]) h_1
theorem e75 (t0_1 : Value) (t1_1 : Value) (t2_1 : Value) (h : Heap) (K : Value → Heap → Prop) : wpA Tryd.prog 11 (anOf []) (bodyOf Tryd.f75) 1 (fun A h => resA Tryd.prog A h K []) (fun _ _ _ => False) (fun A h => resA Tryd.prog A h K []) (aargs [t0_1, t1_1, t2_1] 0) h = t75 Tryd.prog t0_1 t1_1 t2_1 h K := by kernel_rfl
theorem c75 (t0_1 : Value) (t1_1 : Value) (t2_1 : Value) (h : Heap) (K : Value → Heap → Prop) (H : t75 Tryd.prog t0_1 t1_1 t2_1 h K) : callM Tryd.prog 75 #[t0_1, t1_1, t2_1] h K :=
  callM_of_wpA mixed (fn := Tryd.f75) Tryd.func75 (c := bodyOf Tryd.f75) rfl (of_decide_eq_true (by kernel_rfl)) (anOf []) 8 11 (by kernel_rfl) rfl [] (by kernel_rfl) (args := [t0_1, t1_1, t2_1]) (by rw [e75]; exact H)
def t76 (P : Program) (t0_1 : Value) (h : Heap) (K : Value → Heap → Prop) : Prop :=
  K (.tuple #[]) h
theorem e76 (t0_1 : Value) (h : Heap) (K : Value → Heap → Prop) : wpA Tryd.prog 2 (anOf []) (bodyOf Tryd.f76) 1 (fun A h => resA Tryd.prog A h K []) (fun _ _ _ => False) (fun A h => resA Tryd.prog A h K []) (aargs [t0_1] 0) h = t76 Tryd.prog t0_1 h K := by kernel_rfl
theorem c76 (t0_1 : Value) (h : Heap) (K : Value → Heap → Prop) (H : t76 Tryd.prog t0_1 h K) : callM Tryd.prog 76 #[t0_1] h K :=
  callM_of_wpA mixed (fn := Tryd.f76) Tryd.func76 (c := bodyOf Tryd.f76) rfl (of_decide_eq_true (by kernel_rfl)) (anOf []) 1 2 (by kernel_rfl) rfl [] (by kernel_rfl) (args := [t0_1]) (by rw [e76]; exact H)
def t77 (P : Program) (l0_1 : Value) (h : Heap) (K : Value → Heap → Prop) : Prop :=
  eop P (Instr.buildSlice 34 0 #[]) h fun t3_1 h_1 =>
  eop P (appS 34 34 34 t3_1 l0_1) h_1 fun t5_1 h_2 =>
  K t5_1 h_2
theorem e77 (l0_1 : Value) (h : Heap) (K : Value → Heap → Prop) : wpA Tryd.prog 6 (anOf []) (bodyOf Tryd.f77) 1 (fun A h => resA Tryd.prog A h K [.tmp 2]) (fun _ _ _ => False) (fun A h => resA Tryd.prog A h K [.tmp 2]) (aargs [l0_1] 0) h = t77 Tryd.prog l0_1 h K := by kernel_rfl
theorem c77 (l0_1 : Value) (h : Heap) (K : Value → Heap → Prop) (H : t77 Tryd.prog l0_1 h K) : callM Tryd.prog 77 #[l0_1] h K :=
  callM_of_wpA mixed (fn := Tryd.f77) Tryd.func77 (c := bodyOf Tryd.f77) rfl (of_decide_eq_true (by kernel_rfl)) (anOf []) 5 6 (by kernel_rfl) rfl [.tmp 2] (by kernel_rfl) (args := [l0_1]) (by rw [e77]; exact H)
def t78 (P : Program) (t0_1 : Value) (t1_1 : Value) (t2_1 : Value) (h : Heap) (K : Value → Heap → Prop) : Prop :=
  rop P (Instr.loadAt 34 t1_1) h fun t4_1 =>
  pop P (Instr.fieldAt 43 t2_1 1) fun t5_1 =>
  rop P (Instr.loadAt 3 t5_1) h fun t6_1 =>
  eop P (Instr.buildSlice 34 1 #[(0, t6_1)]) h fun t7_1 h_1 =>
  eop P (appS 34 34 34 t4_1 t7_1) h_1 fun t8_1 h_2 =>
  uop P (Instr.storeAt 34 t1_1 t8_1) h_2 fun u_1 h_3 =>
  K (.tuple #[]) h_3
theorem e78 (t0_1 : Value) (t1_1 : Value) (t2_1 : Value) (h : Heap) (K : Value → Heap → Prop) : wpA Tryd.prog 9 (anOf []) (bodyOf Tryd.f78) 1 (fun A h => resA Tryd.prog A h K []) (fun _ _ _ => False) (fun A h => resA Tryd.prog A h K []) (aargs [t0_1, t1_1, t2_1] 0) h = t78 Tryd.prog t0_1 t1_1 t2_1 h K := by kernel_rfl
theorem c78 (t0_1 : Value) (t1_1 : Value) (t2_1 : Value) (h : Heap) (K : Value → Heap → Prop) (H : t78 Tryd.prog t0_1 t1_1 t2_1 h K) : callM Tryd.prog 78 #[t0_1, t1_1, t2_1] h K :=
  callM_of_wpA mixed (fn := Tryd.f78) Tryd.func78 (c := bodyOf Tryd.f78) rfl (of_decide_eq_true (by kernel_rfl)) (anOf []) 6 9 (by kernel_rfl) rfl [] (by kernel_rfl) (args := [t0_1, t1_1, t2_1]) (by rw [e78]; exact H)
def t79 (P : Program) (code0_1 : Value) (h : Heap) (K : Value → Heap → Prop) : Prop :=
  eop P (Instr.alloc 41 true (.tuple #[])) h fun t2_1 h_1 =>
  eop P (Instr.alloc 43 true (.tuple #[])) h_1 fun t3_1 h_2 =>
  pop P (Instr.build 123 #[(0, code0_1)]) fun t6_1 =>
  eop P (Instr.box 123 t6_1) h_2 fun t7_1 h_3 =>
  callM P 103 #[t7_1] h_3 fun t9_1 h_4 =>
  pop P (Instr.extract t9_1 0) fun t10_1 =>
  pop P (Instr.extract t9_1 1) fun t11_1 =>
  uop P (Instr.storeAt 41 t2_1 t10_1) h_4 fun u_1 h_5 =>
  uop P (Instr.storeAt 43 t3_1 t11_1) h_5 fun u_2 h_6 =>
  rop P (Instr.loadAt 41 t2_1) h_6 fun r_1 =>
  rop P (Instr.loadAt 43 t3_1) h_6 fun r_2 =>
  K (.tuple #[r_1, r_2]) h_6
theorem e79 (code0_1 : Value) (h : Heap) (K : Value → Heap → Prop) : wpA Tryd.prog 12 (anOf []) (bodyOf Tryd.f79) 1 (fun A h => resA Tryd.prog A h K [.cell 2 41, .cell 3 43]) (fun _ _ _ => False) (fun A h => resA Tryd.prog A h K [.cell 2 41, .cell 3 43]) (aargs [code0_1] 0) h = t79 Tryd.prog code0_1 h K := by kernel_rfl
theorem c79 (code0_1 : Value) (h : Heap) (K : Value → Heap → Prop) (H : t79 Tryd.prog code0_1 h K) : callM Tryd.prog 79 #[code0_1] h K :=
  callM_of_wpA mixed (fn := Tryd.f79) Tryd.func79 (c := bodyOf Tryd.f79) rfl (of_decide_eq_true (by kernel_rfl)) (anOf []) 11 12 (by kernel_rfl) rfl [.cell 2 41, .cell 3 43] (by kernel_rfl) (args := [code0_1]) (by rw [e79]; exact H)
def t80 (P : Program) (g0_1 : Value) (w1_1 : Value) (h : Heap) (K : Value → Heap → Prop) : Prop :=
  eop P (Instr.box 41 g0_1) h fun g2_1 h_1 =>
  eop P (Instr.box 43 w1_1) h_1 fun w3_1 h_2 =>
  eop P (Instr.alloc 43 true (.tuple #[])) h_2 fun t4_1 h_3 =>
  pop P (Instr.fieldAt 41 g2_1 0) fun t9_1 =>
  rop P (Instr.loadAt 22 t9_1) h_3 fun t10_1 =>
  pop P (Instr.fieldAt 43 w3_1 1) fun t11_1 =>
  rop P (Instr.loadAt 3 t11_1) h_3 fun t12_1 =>
  pop P (Instr.indexAt 22 t10_1 t12_1) fun t13_1 =>
  rop P (Instr.loadAt 34 t13_1) h_3 fun t14_1 =>
  pop P (lenS 34 3 t14_1) fun t16_1 =>
  pop P (binE .eql 3 (.tmp 16) (.const (Value.int IntKind.i64 0)) t16_1 (Value.int IntKind.i64 0)) fun t17_1 =>
  condM t17_1
  (rop P (Instr.loadAt 43 w3_1) h_3 fun t18_1 =>
  uop P (Instr.storeAt 43 t4_1 t18_1) h_3 fun u_1 h_4 =>
  rop P (Instr.loadAt 43 t4_1) h_4 fun r_1 =>
  K (.tuple #[r_1, (Value.bool false)]) h_4)
  (pop P (Instr.fieldAt 43 w3_1 0) fun t19_1 =>
  rop P (Instr.loadAt 34 t19_1) h_3 fun t20_1 =>
  callM P 77 #[t20_1] h_3 fun t21_1 h_5 =>
  pop P (Instr.build 43 #[(0, t21_1)]) fun t22_1 =>
  eop P (Instr.alloc 43 true (.tuple #[])) h_5 fun out7_1 h_6 =>
  uop P (Instr.storeAt 43 out7_1 t22_1) h_6 fun u_2 h_7 =>
  pop P (Instr.fieldAt 43 w3_1 0) fun t23_1 =>
  rop P (Instr.loadAt 34 t23_1) h_7 fun t24_1 =>
  pop P (Instr.fieldAt 43 w3_1 1) fun t25_1 =>
  rop P (Instr.loadAt 3 t25_1) h_7 fun t26_1 =>
  pop P (Instr.indexAt 34 t24_1 t26_1) fun t27_1 =>
  rop P (Instr.loadAt 3 t27_1) h_7 fun t28_1 =>
  pop P (binA .add 3 t28_1 (Value.int IntKind.i64 1)) fun t29_1 =>
  pop P (lenS 34 3 t14_1) fun t31_1 =>
  pop P (binA .rem 3 t29_1 t31_1) fun t32_1 =>
  pop P (Instr.fieldAt 43 out7_1 0) fun t33_1 =>
  rop P (Instr.loadAt 34 t33_1) h_7 fun t34_1 =>
  pop P (Instr.fieldAt 43 w3_1 1) fun t35_1 =>
  rop P (Instr.loadAt 3 t35_1) h_7 fun t36_1 =>
  pop P (Instr.indexAt 34 t34_1 t36_1) fun t38_1 =>
  uop P (Instr.storeAt 3 t38_1 t32_1) h_7 fun u_3 h_8 =>
  pop P (Instr.indexAt 34 t14_1 t32_1) fun t41_1 =>
  rop P (Instr.loadAt 3 t41_1) h_8 fun t42_1 =>
  pop P (Instr.fieldAt 43 out7_1 1) fun t43_1 =>
  uop P (Instr.storeAt 3 t43_1 t42_1) h_8 fun u_4 h_9 =>
  rop P (Instr.loadAt 43 out7_1) h_9 fun t44_1 =>
  uop P (Instr.storeAt 43 t4_1 t44_1) h_9 fun u_5 h_10 =>
  rop P (Instr.loadAt 43 t4_1) h_10 fun r_2 =>
  K (.tuple #[r_2, (Value.bool true)]) h_10)
theorem e80 (g0_1 : Value) (w1_1 : Value) (h : Heap) (K : Value → Heap → Prop) : wpA Tryd.prog 45 (anOf []) (bodyOf Tryd.f80) 1 (fun A h => resA Tryd.prog A h K [.cell 4 43, .tmp 5]) (fun _ _ _ => False) (fun A h => resA Tryd.prog A h K [.cell 4 43, .tmp 5]) (aargs [g0_1, w1_1] 0) h = t80 Tryd.prog g0_1 w1_1 h K := by kernel_rfl
theorem c80 (g0_1 : Value) (w1_1 : Value) (h : Heap) (K : Value → Heap → Prop) (H : t80 Tryd.prog g0_1 w1_1 h K) : callM Tryd.prog 80 #[g0_1, w1_1] h K :=
  callM_of_wpA mixed (fn := Tryd.f80) Tryd.func80 (c := bodyOf Tryd.f80) rfl (of_decide_eq_true (by kernel_rfl)) (anOf []) 43 45 (by kernel_rfl) rfl [.cell 4 43, .tmp 5] (by kernel_rfl) (args := [g0_1, w1_1]) (by rw [e80]; exact H)
def t81 (P : Program) (r0_1 : Value) (h : Heap) (K : Value → Heap → Prop) : Prop :=
  callM P 55 #[r0_1, (Value.int IntKind.i64 0), (Value.int IntKind.i64 4)] h fun t4_1 h_1 =>
  pop P (Op.unary .not t4_1) fun t5_1 =>
  K t5_1 h_1
theorem e81 (r0_1 : Value) (h : Heap) (K : Value → Heap → Prop) : wpA Tryd.prog 6 (anOf []) (bodyOf Tryd.f81) 1 (fun A h => resA Tryd.prog A h K [.tmp 2]) (fun _ _ _ => False) (fun A h => resA Tryd.prog A h K [.tmp 2]) (aargs [r0_1] 0) h = t81 Tryd.prog r0_1 h K := by kernel_rfl
theorem c81 (r0_1 : Value) (h : Heap) (K : Value → Heap → Prop) (H : t81 Tryd.prog r0_1 h K) : callM Tryd.prog 81 #[r0_1] h K :=
  callM_of_wpA mixed (fn := Tryd.f81) Tryd.func81 (c := bodyOf Tryd.f81) rfl (of_decide_eq_true (by kernel_rfl)) (anOf []) 5 6 (by kernel_rfl) rfl [.tmp 2] (by kernel_rfl) (args := [r0_1]) (by rw [e81]; exact H)
def t82 (P : Program) (w0_1 : Value) (h : Heap) (K : Value → Heap → Prop) : Prop :=
  eop P (Instr.box 43 w0_1) h fun w1_1 h_1 =>
  pop P (Instr.fieldAt 43 w1_1 1) fun t3_1 =>
  rop P (Instr.loadAt 3 t3_1) h_1 fun t4_1 =>
  pop P (Instr.fieldAt 43 w1_1 0) fun t7_1 =>
  rop P (Instr.loadAt 34 t7_1) h_1 fun t8_1 =>
  callM P 96 #[t4_1] h_1 fun t5_1 h_2 =>
  (∀ w : World, w.heap = h_2 → (Instr.loadAt 34 t7_1).run P w = .ok t8_1 w) ∧
  pop P (binA .add 9 t5_1 (Value.string { data := #[58] })) fun t6_1 =>
  callM P 58 #[t8_1] h_2 fun t9_1 h_3 =>
  pop P (binA .add 9 t6_1 t9_1) fun t10_1 =>
  K t10_1 h_3
theorem e82 (w0_1 : Value) (h : Heap) (K : Value → Heap → Prop) : wpA Tryd.prog 11 (anOf []) (bodyOf Tryd.f82) 1 (fun A h => resA Tryd.prog A h K [.tmp 2]) (fun _ _ _ => False) (fun A h => resA Tryd.prog A h K [.tmp 2]) (aargs [w0_1] 0) h = t82 Tryd.prog w0_1 h K := by kernel_rfl
theorem c82 (w0_1 : Value) (h : Heap) (K : Value → Heap → Prop) (H : t82 Tryd.prog w0_1 h K) : callM Tryd.prog 82 #[w0_1] h K :=
  callM_of_wpA mixed (fn := Tryd.f82) Tryd.func82 (c := bodyOf Tryd.f82) rfl (of_decide_eq_true (by kernel_rfl)) (anOf []) 10 11 (by kernel_rfl) rfl [.tmp 2] (by kernel_rfl) (args := [w0_1]) (by rw [e82]; exact H)
def t83 (P : Program) (g0_1 : Value) (p1_1 : Value) (h : Heap) (K : Value → Heap → Prop) : Prop :=
  eop P (Instr.box 41 g0_1) h fun g2_1 h_1 =>
  rop P (Instr.loadAt 41 g2_1) h_1 fun t5_1 =>
  callM P 106 #[t5_1] h_1 fun t6_1 h_2 =>
  guardM (asG t6_1 true) true (fun k_1 => k_1 p1_1 h_2) h_2 fun t8_1 h_3 =>
  guardM (asG t6_1 true) true (fun k_2 => pop P (Instr.fieldAt 41 g2_1 0) fun t9_1 =>
  k_2 t9_1 h_3) h_3 fun t9_2 h_4 =>
  guardM (asG t6_1 true) true (fun k_3 => rop P (Instr.loadAt 22 t9_2) h_4 fun t10_1 =>
  k_3 t10_1 h_4) h_4 fun t10_2 h_5 =>
  guardM (asG t6_1 true) true (fun k_4 => pop P (lenS 22 3 t10_2) fun t11_1 =>
  k_4 t11_1 h_5) h_5 fun t11_2 h_6 =>
  guardM (asG t6_1 true) true (fun k_5 => pop P (binA .sub 3 t11_2 (Value.int IntKind.i64 1)) fun t12_1 =>
  k_5 t12_1 h_6) h_6 fun t12_2 h_7 =>
  guardM (asG t6_1 true) true (fun k_6 => callM P 51 #[t8_1, (Value.int IntKind.i64 0), t12_2] h_7 fun t13_1 h_8 =>
  k_6 t13_1 h_8) h_7 fun t13_2 h_9 =>
  pop P (pickS t6_1 t13_2 (Value.bool false)) fun t14_1 =>
  K t14_1 h_9
theorem e83 (g0_1 : Value) (p1_1 : Value) (h : Heap) (K : Value → Heap → Prop) : wpA Tryd.prog 15 (anOf []) (bodyOf Tryd.f83) 1 (fun A h => resA Tryd.prog A h K [.tmp 4]) (fun _ _ _ => False) (fun A h => resA Tryd.prog A h K [.tmp 4]) (aargs [g0_1, p1_1] 0) h = t83 Tryd.prog g0_1 p1_1 h K := by kernel_rfl
theorem c83 (g0_1 : Value) (p1_1 : Value) (h : Heap) (K : Value → Heap → Prop) (H : t83 Tryd.prog g0_1 p1_1 h K) : callM Tryd.prog 83 #[g0_1, p1_1] h K :=
  callM_of_wpA mixed (fn := Tryd.f83) Tryd.func83 (c := bodyOf Tryd.f83) rfl (of_decide_eq_true (by kernel_rfl)) (anOf []) 13 15 (by kernel_rfl) rfl [.tmp 4] (by kernel_rfl) (args := [g0_1, p1_1]) (by rw [e83]; exact H)
def t87 (P : Program) (g0_1 : Value) (places1_1 : Value) (h : Heap) (K : Value → Heap → Prop) : Prop :=
  eop P (Instr.box 41 g0_1) h fun g2_1 h_1 =>
  rop P (Instr.loadAt 41 g2_1) h_1 fun t5_1 =>
  callM P 109 #[t5_1] h_1 fun t6_1 h_2 =>
  guardM (asG t6_1 true) true (fun k_1 => k_1 places1_1 h_2) h_2 fun t8_1 h_3 =>
  guardM (asG t6_1 true) true (fun k_2 => pop P (Instr.makeFunc (Fn.func 110) #[] #[g2_1]) fun t9_1 =>
  k_2 t9_1 h_3) h_3 fun t9_2 h_4 =>
  guardM (asG t6_1 true) true (fun k_3 => callM P 56 #[t8_1, t9_2] h_4 fun t10_1 h_5 =>
  k_3 t10_1 h_5) h_4 fun t10_2 h_6 =>
  guardM (asG t6_1 true) true (fun k_4 => pop P (Op.unary .not t10_2) fun t11_1 =>
  k_4 t11_1 h_6) h_6 fun t11_2 h_7 =>
  pop P (pickS t6_1 t11_2 (Value.bool false)) fun t12_1 =>
  K t12_1 h_7
theorem e87 (g0_1 : Value) (places1_1 : Value) (h : Heap) (K : Value → Heap → Prop) : wpA Tryd.prog 13 (anOf []) (bodyOf Tryd.f87) 1 (fun A h => resA Tryd.prog A h K [.tmp 4]) (fun _ _ _ => False) (fun A h => resA Tryd.prog A h K [.tmp 4]) (aargs [g0_1, places1_1] 0) h = t87 Tryd.prog g0_1 places1_1 h K := by kernel_rfl
theorem c87 (g0_1 : Value) (places1_1 : Value) (h : Heap) (K : Value → Heap → Prop) (H : t87 Tryd.prog g0_1 places1_1 h K) : callM Tryd.prog 87 #[g0_1, places1_1] h K :=
  callM_of_wpA mixed (fn := Tryd.f87) Tryd.func87 (c := bodyOf Tryd.f87) rfl (of_decide_eq_true (by kernel_rfl)) (anOf []) 11 13 (by kernel_rfl) rfl [.tmp 4] (by kernel_rfl) (args := [g0_1, places1_1]) (by rw [e87]; exact H)
def t92 (P : Program) (g0_1 : Value) (w1_1 : Value) (h : Heap) (K : Value → Heap → Prop) : Prop :=
  eop P (Instr.box 41 g0_1) h fun g2_1 h_1 =>
  pop P (Instr.fieldAt 41 g2_1 0) fun t6_1 =>
  rop P (Instr.loadAt 22 t6_1) h_1 fun t7_1 =>
  pop P (nilS w1_1) fun t9_1 =>
  pop P (Instr.fieldAt 43 t9_1 1) fun t10_1 =>
  rop P (Instr.loadAt 3 t10_1) h_1 fun t11_1 =>
  pop P (Instr.indexAt 22 t7_1 t11_1) fun t12_1 =>
  rop P (Instr.loadAt 34 t12_1) h_1 fun t13_1 =>
  pop P (lenS 34 3 t13_1) fun t15_1 =>
  pop P (binE .eql 3 (.tmp 15) (.const (Value.int IntKind.i64 0)) t15_1 (Value.int IntKind.i64 0)) fun t16_1 =>
  condM t16_1
  (K (Value.bool false) h_1)
  (pop P (nilS w1_1) fun t18_1 =>
  pop P (Instr.fieldAt 43 t18_1 0) fun t19_1 =>
  rop P (Instr.loadAt 34 t19_1) h_1 fun t20_1 =>
  pop P (nilS w1_1) fun t22_1 =>
  pop P (Instr.fieldAt 43 t22_1 1) fun t23_1 =>
  rop P (Instr.loadAt 3 t23_1) h_1 fun t24_1 =>
  pop P (nilS w1_1) fun t26_1 =>
  pop P (Instr.fieldAt 43 t26_1 0) fun t27_1 =>
  rop P (Instr.loadAt 34 t27_1) h_1 fun t28_1 =>
  pop P (nilS w1_1) fun t30_1 =>
  pop P (Instr.fieldAt 43 t30_1 1) fun t31_1 =>
  rop P (Instr.loadAt 3 t31_1) h_1 fun t32_1 =>
  pop P (Instr.indexAt 34 t28_1 t32_1) fun t33_1 =>
  rop P (Instr.loadAt 3 t33_1) h_1 fun t34_1 =>
  pop P (binA .add 3 t34_1 (Value.int IntKind.i64 1)) fun t35_1 =>
  pop P (lenS 34 3 t13_1) fun t37_1 =>
  pop P (binA .rem 3 t35_1 t37_1) fun t38_1 =>
  pop P (Instr.indexAt 34 t20_1 t24_1) fun t39_1 =>
  uop P (Instr.storeAt 3 t39_1 t38_1) h_1 fun u_1 h_2 =>
  pop P (nilS w1_1) fun t43_1 =>
  pop P (Instr.fieldAt 43 t43_1 0) fun t44_1 =>
  rop P (Instr.loadAt 34 t44_1) h_2 fun t45_1 =>
  pop P (nilS w1_1) fun t47_1 =>
  pop P (Instr.fieldAt 43 t47_1 1) fun t48_1 =>
  rop P (Instr.loadAt 3 t48_1) h_2 fun t49_1 =>
  pop P (Instr.indexAt 34 t45_1 t49_1) fun t50_1 =>
  rop P (Instr.loadAt 3 t50_1) h_2 fun t51_1 =>
  pop P (Instr.indexAt 34 t13_1 t51_1) fun t52_1 =>
  rop P (Instr.loadAt 3 t52_1) h_2 fun t53_1 =>
  pop P (nilS w1_1) fun t54_1 =>
  pop P (Instr.fieldAt 43 t54_1 1) fun t55_1 =>
  uop P (Instr.storeAt 3 t55_1 t53_1) h_2 fun u_2 h_3 =>
  K (Value.bool true) h_3)
theorem e92 (g0_1 : Value) (w1_1 : Value) (h : Heap) (K : Value → Heap → Prop) : wpA Tryd.prog 56 (anOf []) (bodyOf Tryd.f92) 1 (fun A h => resA Tryd.prog A h K [.tmp 4]) (fun _ _ _ => False) (fun A h => resA Tryd.prog A h K [.tmp 4]) (aargs [g0_1, w1_1] 0) h = t92 Tryd.prog g0_1 w1_1 h K := by kernel_rfl
theorem c92 (g0_1 : Value) (w1_1 : Value) (h : Heap) (K : Value → Heap → Prop) (H : t92 Tryd.prog g0_1 w1_1 h K) : callM Tryd.prog 92 #[g0_1, w1_1] h K :=
  callM_of_wpA mixed (fn := Tryd.f92) Tryd.func92 (c := bodyOf Tryd.f92) rfl (of_decide_eq_true (by kernel_rfl)) (anOf []) 54 56 (by kernel_rfl) rfl [.tmp 4] (by kernel_rfl) (args := [g0_1, w1_1]) (by rw [e92]; exact H)
def t95 (P : Program) (s0_1 : Value) (f1_1 : Value) (h : Heap) (K : Value → Heap → Prop) : Prop :=
  pop P (lenS 34 3 s0_1) fun t7_1 =>
  ∃ (I_1 : List Value → Heap → Prop) (μ_1 : List Value → Heap → Nat), I_1 [(Value.int IntKind.i64 0)] h ∧
  ∀ (junk_1 : Nat → Value) (t8_1 : Value) (h_1 : Heap), I_1 [t8_1] h_1 →
  pop P (binA .lss 3 t8_1 t7_1) fun t9_1 =>
  condM t9_1
  (pop P (Instr.indexAt 34 s0_1 t8_1) fun t14_1 =>
  rop P (Instr.loadAt 3 t14_1) h_1 fun t15_1 =>
  callV P f1_1 [t15_1] h_1 fun t16_1 h_2 =>
  condM t16_1
  (K t8_1 h_2)
  (pop P (binA .add 3 t8_1 (Value.int IntKind.i64 1)) fun t18_1 =>
  I_1 [t18_1] h_2 ∧ μ_1 [t18_1] h_2 < μ_1 [t8_1] h_1))
  (K (Value.int IntKind.i64 (-1)) h_1)
theorem e95 (s0_1 : Value) (f1_1 : Value) (h : Heap) (K : Value → Heap → Prop) : wpA Tryd.prog 19 (anOf [(26, [8])]) (bodyOf Tryd.f95) 1 (fun A h => resA Tryd.prog A h K [.tmp 4]) (fun _ _ _ => False) (fun A h => resA Tryd.prog A h K [.tmp 4]) (aargs [s0_1, f1_1] 0) h = t95 Tryd.prog s0_1 f1_1 h K := by kernel_rfl
theorem c95 (s0_1 : Value) (f1_1 : Value) (h : Heap) (K : Value → Heap → Prop) (H : t95 Tryd.prog s0_1 f1_1 h K) : callM Tryd.prog 95 #[s0_1, f1_1] h K :=
  callM_of_wpA mixed (fn := Tryd.f95) Tryd.func95 (c := bodyOf Tryd.f95) rfl (of_decide_eq_true (by kernel_rfl)) (anOf [(26, [8])]) 17 19 (by kernel_rfl) rfl [.tmp 4] (by kernel_rfl) (args := [s0_1, f1_1]) (by rw [e95]; exact H)
def t100 (P : Program) (a0_1 : Value) (b1_1 : Value) (h : Heap) (K : Value → Heap → Prop) : Prop :=
  pop P (binA .gtr 3 a0_1 b1_1) fun t7_1 =>
  condM t7_1
  (K a0_1 h)
  (K b1_1 h)
theorem e100 (a0_1 : Value) (b1_1 : Value) (h : Heap) (K : Value → Heap → Prop) : wpA Tryd.prog 10 (anOf []) (bodyOf Tryd.f100) 1 (fun A h => resA Tryd.prog A h K [.tmp 4]) (fun _ _ _ => False) (fun A h => resA Tryd.prog A h K [.tmp 4]) (aargs [a0_1, b1_1] 0) h = t100 Tryd.prog a0_1 b1_1 h K := by kernel_rfl
theorem c100 (a0_1 : Value) (b1_1 : Value) (h : Heap) (K : Value → Heap → Prop) (H : t100 Tryd.prog a0_1 b1_1 h K) : callM Tryd.prog 100 #[a0_1, b1_1] h K :=
  callM_of_wpA mixed (fn := Tryd.f100) Tryd.func100 (c := bodyOf Tryd.f100) rfl (of_decide_eq_true (by kernel_rfl)) (anOf []) 8 10 (by kernel_rfl) rfl [.tmp 4] (by kernel_rfl) (args := [a0_1, b1_1]) (by rw [e100]; exact H)
def t103 (P : Program) (c0_1 : Value) (h : Heap) (K : Value → Heap → Prop) : Prop :=
  eop P (Instr.alloc 41 true (.tuple #[])) h fun t2_1 h_1 =>
  eop P (Instr.alloc 43 true (.tuple #[])) h_1 fun t3_1 h_2 =>
  callM P 117 #[c0_1] h_2 fun t7_1 h_3 =>
  eop P (Instr.alloc 41 true (.tuple #[])) h_3 fun g4_1 h_4 =>
  uop P (Instr.storeAt 41 g4_1 t7_1) h_4 fun u_1 h_5 =>
  rop P (Instr.loadAt 41 g4_1) h_5 fun t8_1 =>
  callM P 106 #[t8_1] h_5 fun t9_1 h_6 =>
  pop P (Op.unary .not t9_1) fun t10_1 =>
  condM t10_1
  (rop P (Instr.loadAt 41 g4_1) h_6 fun t11_1 =>
  pop P (Instr.build 43 #[]) fun t12_1 =>
  uop P (Instr.storeAt 41 t2_1 t11_1) h_6 fun u_2 h_7 =>
  uop P (Instr.storeAt 43 t3_1 t12_1) h_7 fun u_3 h_8 =>
  rop P (Instr.loadAt 41 t2_1) h_8 fun r_1 =>
  rop P (Instr.loadAt 43 t3_1) h_8 fun r_2 =>
  K (.tuple #[r_1, r_2]) h_8)
  (rop P (Instr.loadAt 41 g4_1) h_6 fun t14_1 =>
  callM P 118 #[c0_1, t14_1] h_6 fun t15_1 h_9 =>
  eop P (Instr.alloc 43 true (.tuple #[])) h_9 fun w5_1 h_10 =>
  uop P (Instr.storeAt 43 w5_1 t15_1) h_10 fun u_4 h_11 =>
  ∃ J_1 : List Value → Heap → Prop, (callM P 119 #[c0_1, (Value.int IntKind.i64 16)] h_11 fun t17_1 h_12 =>
  pop P (binE .eql 3 (.tmp 17) (.const (Value.int IntKind.i64 0)) t17_1 (Value.int IntKind.i64 0)) fun t19_1 =>
  condM t19_1
  (pop P (Instr.fieldAt 41 g4_1 0) fun t21_1 =>
  rop P (Instr.loadAt 22 t21_1) h_12 fun t22_1 =>
  pop P (lenS 22 3 t22_1) fun t23_1 =>
  eop P (Instr.buildSlice 34 3 #[(0, (Value.int IntKind.i64 (-1))), (1, t23_1), (2, (Value.int IntKind.i64 4611686018427387904))]) h_12 fun t24_1 h_13 =>
  callM P 120 #[c0_1, t24_1] h_13 fun t25_1 h_14 =>
  pop P (Instr.fieldAt 43 w5_1 1) fun t26_1 =>
  uop P (Instr.storeAt 3 t26_1 t25_1) h_14 fun u_5 h_15 =>
  J_1 [] h_15)
  (pop P (binE .eql 3 (.tmp 17) (.const (Value.int IntKind.i64 1)) t17_1 (Value.int IntKind.i64 1)) fun t28_1 =>
  condM t28_1
  (pop P (Instr.fieldAt 43 w5_1 0) fun t29_1 =>
  rop P (Instr.loadAt 34 t29_1) h_12 fun t30_1 =>
  pop P (Instr.fieldAt 43 w5_1 0) fun t32_1 =>
  rop P (Instr.loadAt 34 t32_1) h_12 fun t33_1 =>
  pop P (lenS 34 3 t33_1) fun t34_1 =>
  (callM P 119 #[c0_1, t34_1] h_12 fun t35_1 h_16 =>
  (∀ w : World, w.heap = h_16 → (Instr.loadAt 34 t32_1).run P w = .ok t33_1 w) ∧
  (∀ w : World, w.heap = h_16 → (Instr.loadAt 34 t29_1).run P w = .ok t30_1 w) ∧
  eop P (Instr.buildSlice 34 3 #[(0, (Value.int IntKind.i64 (-1))), (1, (Value.int IntKind.i64 4)), (2, (Value.int IntKind.i64 5))]) h_16 fun t37_1 h_17 =>
  (∀ w : World, w.heap = h_17 → (Instr.loadAt 34 t32_1).run P w = .ok t33_1 w) ∧
  (∀ w : World, w.heap = h_17 → (Instr.loadAt 34 t29_1).run P w = .ok t30_1 w) ∧
  callM P 120 #[c0_1, t37_1] h_17 fun t38_1 h_18 =>
  (∀ w : World, w.heap = h_18 → (Instr.loadAt 34 t32_1).run P w = .ok t33_1 w) ∧
  (∀ w : World, w.heap = h_18 → (Instr.loadAt 34 t29_1).run P w = .ok t30_1 w) ∧
  pop P (Instr.indexAt 34 t30_1 t35_1) fun t39_1 =>
  uop P (Instr.storeAt 3 t39_1 t38_1) h_18 fun u_6 h_19 =>
  J_1 [] h_19) ∧
  (eop P (Instr.buildSlice 34 3 #[(0, (Value.int IntKind.i64 (-1))), (1, (Value.int IntKind.i64 4)), (2, (Value.int IntKind.i64 5))]) h_12 fun t37_2 h_20 =>
  (∀ w : World, w.heap = h_20 → (Instr.loadAt 34 t32_1).run P w = .ok t33_1 w) ∧
  (∀ w : World, w.heap = h_20 → (Instr.loadAt 34 t29_1).run P w = .ok t30_1 w) ∧
  callM P 119 #[c0_1, t34_1] h_20 fun t35_2 h_21 =>
  (∀ w : World, w.heap = h_21 → (Instr.loadAt 34 t32_1).run P w = .ok t33_1 w) ∧
  (∀ w : World, w.heap = h_21 → (Instr.loadAt 34 t29_1).run P w = .ok t30_1 w) ∧
  callM P 120 #[c0_1, t37_2] h_21 fun t38_2 h_22 =>
  (∀ w : World, w.heap = h_22 → (Instr.loadAt 34 t32_1).run P w = .ok t33_1 w) ∧
  (∀ w : World, w.heap = h_22 → (Instr.loadAt 34 t29_1).run P w = .ok t30_1 w) ∧
  pop P (Instr.indexAt 34 t30_1 t35_2) fun t39_2 =>
  uop P (Instr.storeAt 3 t39_2 t38_2) h_22 fun u_7 h_23 =>
  J_1 [] h_23))
  (pop P (binE .eql 3 (.tmp 17) (.const (Value.int IntKind.i64 2)) t17_1 (Value.int IntKind.i64 2)) fun t41_1 =>
  condM t41_1
  (pop P (Instr.fieldAt 43 w5_1 0) fun t42_1 =>
  rop P (Instr.loadAt 34 t42_1) h_12 fun t43_1 =>
  eop P (Instr.buildSlice 34 1 #[(0, (Value.int IntKind.i64 0))]) h_12 fun t44_1 h_24 =>
  eop P (appS 34 34 34 t43_1 t44_1) h_24 fun t45_1 h_25 =>
  pop P (Instr.fieldAt 43 w5_1 0) fun t46_1 =>
  uop P (Instr.storeAt 34 t46_1 t45_1) h_25 fun u_8 h_26 =>
  J_1 [] h_26)
  (J_1 [] h_12)))) ∧
  ∀ (junk_1 : Nat → Value) (h_27 : Heap), J_1 [] h_27 →
  rop P (Instr.loadAt 41 g4_1) h_27 fun t47_1 =>
  rop P (Instr.loadAt 43 w5_1) h_27 fun t48_1 =>
  uop P (Instr.storeAt 41 t2_1 t47_1) h_27 fun u_9 h_28 =>
  (∀ w : World, w.heap = h_28 → (Instr.loadAt 43 w5_1).run P w = .ok t48_1 w) ∧
  uop P (Instr.storeAt 43 t3_1 t48_1) h_28 fun u_10 h_29 =>
  rop P (Instr.loadAt 41 t2_1) h_29 fun r_3 =>
  rop P (Instr.loadAt 43 t3_1) h_29 fun r_4 =>
  K (.tuple #[r_3, r_4]) h_29)
theorem e103 (c0_1 : Value) (h : Heap) (K : Value → Heap → Prop) : wpA Tryd.prog 49 (anOf [(31, [])]) (bodyOf Tryd.f103) 1 (fun A h => resA Tryd.prog A h K [.cell 2 41, .cell 3 43]) (fun _ _ _ => False) (fun A h => resA Tryd.prog A h K [.cell 2 41, .cell 3 43]) (aargs [c0_1] 0) h = t103 Tryd.prog c0_1 h K := by kernel_rfl
theorem c103 (c0_1 : Value) (h : Heap) (K : Value → Heap → Prop) (H : t103 Tryd.prog c0_1 h K) : callM Tryd.prog 103 #[c0_1] h K :=
  callM_of_wpA mixed (fn := Tryd.f103) Tryd.func103 (c := bodyOf Tryd.f103) rfl (of_decide_eq_true (by kernel_rfl)) (anOf [(31, [])]) 48 49 (by kernel_rfl) rfl [.cell 2 41, .cell 3 43] (by kernel_rfl) (args := [c0_1]) (by rw [e103]; exact H)
def t104 (P : Program) (c0_1 : Value) (h : Heap) (K : Value → Heap → Prop) : Prop :=
  callM P 121 #[c0_1, (Value.int IntKind.i64 12)] h fun t4_1 h_1 =>
  condM t4_1
  (eop P (Instr.buildSlice 34 6 #[(0, (Value.int IntKind.i64 (-1))), (1, (Value.int IntKind.i64 0)), (2, (Value.int IntKind.i64 200)), (3, (Value.int IntKind.i64 201)), (4, (Value.int IntKind.i64 2000)), (5, (Value.int IntKind.i64 2001))]) h_1 fun t6_1 h_2 =>
  callM P 120 #[c0_1, t6_1] h_2 fun t7_1 h_3 =>
  K t7_1 h_3)
  (callM P 119 #[c0_1, (Value.int IntKind.i64 40)] h_1 fun t9_1 h_4 =>
  K t9_1 h_4)
theorem e104 (c0_1 : Value) (h : Heap) (K : Value → Heap → Prop) : wpA Tryd.prog 10 (anOf []) (bodyOf Tryd.f104) 1 (fun A h => resA Tryd.prog A h K [.tmp 2]) (fun _ _ _ => False) (fun A h => resA Tryd.prog A h K [.tmp 2]) (aargs [c0_1] 0) h = t104 Tryd.prog c0_1 h K := by kernel_rfl
theorem c104 (c0_1 : Value) (h : Heap) (K : Value → Heap → Prop) (H : t104 Tryd.prog c0_1 h K) : callM Tryd.prog 104 #[c0_1] h K :=
  callM_of_wpA mixed (fn := Tryd.f104) Tryd.func104 (c := bodyOf Tryd.f104) rfl (of_decide_eq_true (by kernel_rfl)) (anOf []) 9 10 (by kernel_rfl) rfl [.tmp 2] (by kernel_rfl) (args := [c0_1]) (by rw [e104]; exact H)
def t105 (P : Program) (s0_1 : Value) (h : Heap) (K : Value → Heap → Prop) : Prop :=
  pop P (binE .eql 34 (.tmp 3) (.const (Value.slice none 0 0)) s0_1 (Value.slice none 0 0)) fun t4_1 =>
  condM t4_1
  (K (Value.slice none 0 0) h)
  (eop P (Instr.buildSlice 34 0 #[]) h fun t5_1 h_1 =>
  eop P (appS 34 34 34 t5_1 s0_1) h_1 fun t7_1 h_2 =>
  K t7_1 h_2)
theorem e105 (s0_1 : Value) (h : Heap) (K : Value → Heap → Prop) : wpA Tryd.prog 8 (anOf []) (bodyOf Tryd.f105) 1 (fun A h => resA Tryd.prog A h K [.tmp 2]) (fun _ _ _ => False) (fun A h => resA Tryd.prog A h K [.tmp 2]) (aargs [s0_1] 0) h = t105 Tryd.prog s0_1 h K := by kernel_rfl
theorem c105 (s0_1 : Value) (h : Heap) (K : Value → Heap → Prop) (H : t105 Tryd.prog s0_1 h K) : callM Tryd.prog 105 #[s0_1] h K :=
  callM_of_wpA mixed (fn := Tryd.f105) Tryd.func105 (c := bodyOf Tryd.f105) rfl (of_decide_eq_true (by kernel_rfl)) (anOf []) 7 8 (by kernel_rfl) rfl [.tmp 2] (by kernel_rfl) (args := [s0_1]) (by rw [e105]; exact H)
def t106 (P : Program) (g0_1 : Value) (h : Heap) (K : Value → Heap → Prop) : Prop :=
  eop P (Instr.box 41 g0_1) h fun g1_1 h_1 =>
  pop P (Instr.fieldAt 41 g1_1 0) fun t6_1 =>
  rop P (Instr.loadAt 22 t6_1) h_1 fun t7_1 =>
  pop P (lenS 22 3 t7_1) fun t8_1 =>
  callM P 51 #[t8_1, (Value.int IntKind.i64 1), (Value.int IntKind.i64 8)] h_1 fun t10_1 h_2 =>
  pop P (Op.unary .not t10_1) fun t11_1 =>
  condM t11_1
  (K (Value.bool false) h_2)
  (pop P (Instr.fieldAt 41 g1_1 0) fun t12_1 =>
  rop P (Instr.loadAt 22 t12_1) h_2 fun t13_1 =>
  pop P (lenS 22 3 t13_1) fun t14_1 =>
  ∃ (I_1 : List Value → Heap → Prop) (μ_1 : List Value → Heap → Nat), I_1 [(Value.int IntKind.i64 0)] h_2 ∧
  ∀ (junk_1 : Nat → Value) (t15_1 : Value) (h_3 : Heap), I_1 [t15_1] h_3 →
  pop P (binA .lss 3 t15_1 t14_1) fun t16_1 =>
  condM t16_1
  (pop P (Instr.indexAt 22 t13_1 t15_1) fun t17_1 =>
  rop P (Instr.loadAt 34 t17_1) h_3 fun t18_1 =>
  pop P (lenS 34 3 t18_1) fun t20_1 =>
  pop P (binA .gtr 3 t20_1 (Value.int IntKind.i64 5)) fun t21_1 =>
  guardM (asG t21_1 false) false (fun k_1 => k_1 t18_1 h_3) h_3 fun t23_1 h_4 =>
  guardM (asG t21_1 false) false (fun k_2 => k_2 t8_1 h_4) h_4 fun t24_1 h_5 =>
  guardM (asG t21_1 false) false (fun k_3 => pop P (binA .sub 3 t24_1 (Value.int IntKind.i64 1)) fun t25_1 =>
  k_3 t25_1 h_5) h_5 fun t25_2 h_6 =>
  guardM (asG t21_1 false) false (fun k_4 => callM P 52 #[t23_1, (Value.int IntKind.i64 0), t25_2] h_6 fun t26_1 h_7 =>
  k_4 t26_1 h_7) h_6 fun t26_2 h_8 =>
  guardM (asG t21_1 false) false (fun k_5 => pop P (Op.unary .not t26_2) fun t27_1 =>
  k_5 t27_1 h_8) h_8 fun t27_2 h_9 =>
  pop P (pickS t21_1 (Value.bool true) t27_2) fun t28_1 =>
  condM t28_1
  (K (Value.bool false) h_9)
  (pop P (binA .add 3 t15_1 (Value.int IntKind.i64 1)) fun t29_1 =>
  I_1 [t29_1] h_9 ∧ μ_1 [t29_1] h_9 < μ_1 [t15_1] h_3))
  (K (Value.bool true) h_3))
theorem e106 (g0_1 : Value) (h : Heap) (K : Value → Heap → Prop) : wpA Tryd.prog 30 (anOf [(122, [15])]) (bodyOf Tryd.f106) 1 (fun A h => resA Tryd.prog A h K [.tmp 2]) (fun _ _ _ => False) (fun A h => resA Tryd.prog A h K [.tmp 2]) (aargs [g0_1] 0) h = t106 Tryd.prog g0_1 h K := by kernel_rfl
theorem c106 (g0_1 : Value) (h : Heap) (K : Value → Heap → Prop) (H : t106 Tryd.prog g0_1 h K) : callM Tryd.prog 106 #[g0_1] h K :=
  callM_of_wpA mixed (fn := Tryd.f106) Tryd.func106 (c := bodyOf Tryd.f106) rfl (of_decide_eq_true (by kernel_rfl)) (anOf [(122, [15])]) 29 30 (by kernel_rfl) rfl [.tmp 2] (by kernel_rfl) (args := [g0_1]) (by rw [e106]; exact H)
def t109 (P : Program) (g0_1 : Value) (h : Heap) (K : Value → Heap → Prop) : Prop :=
  eop P (Instr.box 41 g0_1) h fun g1_1 h_1 =>
  pop P (Instr.fieldAt 41 g1_1 0) fun t6_1 =>
  rop P (Instr.loadAt 22 t6_1) h_1 fun t7_1 =>
  pop P (lenS 22 3 t7_1) fun t8_1 =>
  eop P (Instr.alloc 3 true (.tuple #[])) h_1 fun n3_1 h_2 =>
  uop P (Instr.storeAt 3 n3_1 t8_1) h_2 fun u_1 h_3 =>
  rop P (Instr.loadAt 3 n3_1) h_3 fun t9_1 =>
  callM P 55 #[t9_1, (Value.int IntKind.i64 1), (Value.int IntKind.i64 8)] h_3 fun t10_1 h_4 =>
  pop P (Op.unary .not t10_1) fun t11_1 =>
  condM t11_1
  (K (Value.bool false) h_4)
  (pop P (Instr.fieldAt 41 g1_1 0) fun t12_1 =>
  rop P (Instr.loadAt 22 t12_1) h_4 fun t13_1 =>
  pop P (lenS 22 3 t13_1) fun t14_1 =>
  ∃ (I_1 : List Value → Heap → Prop) (μ_1 : List Value → Heap → Nat), I_1 [(Value.int IntKind.i64 0)] h_4 ∧
  ∀ (junk_1 : Nat → Value) (t15_1 : Value) (h_5 : Heap), I_1 [t15_1] h_5 →
  pop P (binA .lss 3 t15_1 t14_1) fun t16_1 =>
  condM t16_1
  (pop P (Instr.indexAt 22 t13_1 t15_1) fun t17_1 =>
  rop P (Instr.loadAt 34 t17_1) h_5 fun t18_1 =>
  pop P (lenS 34 3 t18_1) fun t20_1 =>
  pop P (binA .gtr 3 t20_1 (Value.int IntKind.i64 5)) fun t21_1 =>
  guardM (asG t21_1 false) false (fun k_1 => k_1 t18_1 h_5) h_5 fun t23_1 h_6 =>
  guardM (asG t21_1 false) false (fun k_2 => pop P (Instr.makeFunc (Fn.func 123) #[] #[n3_1]) fun t24_1 =>
  k_2 t24_1 h_6) h_6 fun t24_2 h_7 =>
  guardM (asG t21_1 false) false (fun k_3 => callM P 56 #[t23_1, t24_2] h_7 fun t25_1 h_8 =>
  k_3 t25_1 h_8) h_7 fun t25_2 h_9 =>
  pop P (pickS t21_1 (Value.bool true) t25_2) fun t26_1 =>
  condM t26_1
  (K (Value.bool false) h_9)
  (pop P (binA .add 3 t15_1 (Value.int IntKind.i64 1)) fun t27_1 =>
  I_1 [t27_1] h_9 ∧ μ_1 [t27_1] h_9 < μ_1 [t15_1] h_5))
  (K (Value.bool true) h_5))
theorem e109 (g0_1 : Value) (h : Heap) (K : Value → Heap → Prop) : wpA Tryd.prog 28 (anOf [(122, [15])]) (bodyOf Tryd.f109) 1 (fun A h => resA Tryd.prog A h K [.tmp 2]) (fun _ _ _ => False) (fun A h => resA Tryd.prog A h K [.tmp 2]) (aargs [g0_1] 0) h = t109 Tryd.prog g0_1 h K := by kernel_rfl
theorem c109 (g0_1 : Value) (h : Heap) (K : Value → Heap → Prop) (H : t109 Tryd.prog g0_1 h K) : callM Tryd.prog 109 #[g0_1] h K :=
  callM_of_wpA mixed (fn := Tryd.f109) Tryd.func109 (c := bodyOf Tryd.f109) rfl (of_decide_eq_true (by kernel_rfl)) (anOf [(122, [15])]) 27 28 (by kernel_rfl) rfl [.tmp 2] (by kernel_rfl) (args := [g0_1]) (by rw [e109]; exact H)
def t110 (P : Program) (p0_1 : Value) (t1_1 : Value) (h : Heap) (K : Value → Heap → Prop) : Prop :=
  pop P (Instr.fieldAt 41 t1_1 0) fun t5_1 =>
  rop P (Instr.loadAt 22 t5_1) h fun t6_1 =>
  pop P (lenS 22 3 t6_1) fun t7_1 =>
  pop P (binA .sub 3 t7_1 (Value.int IntKind.i64 1)) fun t8_1 =>
  callM P 55 #[p0_1, (Value.int IntKind.i64 0), t8_1] h fun t9_1 h_1 =>
  pop P (Op.unary .not t9_1) fun t10_1 =>
  K t10_1 h_1
theorem e110 (p0_1 : Value) (t1_1 : Value) (h : Heap) (K : Value → Heap → Prop) : wpA Tryd.prog 11 (anOf []) (bodyOf Tryd.f110) 1 (fun A h => resA Tryd.prog A h K [.tmp 3]) (fun _ _ _ => False) (fun A h => resA Tryd.prog A h K [.tmp 3]) (aargs [p0_1, t1_1] 0) h = t110 Tryd.prog p0_1 t1_1 h K := by kernel_rfl
theorem c110 (p0_1 : Value) (t1_1 : Value) (h : Heap) (K : Value → Heap → Prop) (H : t110 Tryd.prog p0_1 t1_1 h K) : callM Tryd.prog 110 #[p0_1, t1_1] h K :=
  callM_of_wpA mixed (fn := Tryd.f110) Tryd.func110 (c := bodyOf Tryd.f110) rfl (of_decide_eq_true (by kernel_rfl)) (anOf []) 9 11 (by kernel_rfl) rfl [.tmp 3] (by kernel_rfl) (args := [p0_1, t1_1]) (by rw [e110]; exact H)
def t117 (P : Program) (c0_1 : Value) (h : Heap) (K : Value → Heap → Prop) : Prop :=
  eop P (Instr.alloc 41 true (.tuple #[])) h fun t2_1 h_1 =>
  callM P 128 #[c0_1, (Value.int IntKind.i64 6)] h_1 fun t5_1 h_2 =>
  eop P (Instr.alloc 41 true (.tuple #[])) h_2 fun g3_1 h_3 =>
  uop P (Instr.storeAt 41 g3_1 t5_1) h_3 fun u_1 h_4 =>
  callM P 119 #[c0_1, (Value.int IntKind.i64 16)] h_4 fun t7_1 h_5 =>
  pop P (binE .eql 3 (.tmp 7) (.const (Value.int IntKind.i64 0)) t7_1 (Value.int IntKind.i64 0)) fun t9_1 =>
  condM t9_1
  (pop P (Instr.fieldAt 41 g3_1 0) fun t10_1 =>
  rop P (Instr.loadAt 22 t10_1) h_5 fun t11_1 =>
  pop P (Instr.fieldAt 41 g3_1 0) fun t12_1 =>
  rop P (Instr.loadAt 22 t12_1) h_5 fun t13_1 =>
  pop P (Instr.indexAt 22 t13_1 (Value.int IntKind.i64 0)) fun t14_1 =>
  rop P (Instr.loadAt 34 t14_1) h_5 fun t15_1 =>
  pop P (Instr.fieldAt 41 g3_1 0) fun t17_1 =>
  rop P (Instr.loadAt 22 t17_1) h_5 fun t18_1 =>
  pop P (lenS 22 3 t18_1) fun t19_1 =>
  eop P (Instr.buildSlice 34 3 #[(0, (Value.int IntKind.i64 (-1))), (1, t19_1), (2, (Value.int IntKind.i64 4611686018427387904))]) h_5 fun t20_1 h_6 =>
  (∀ w : World, w.heap = h_6 → (Instr.loadAt 22 t17_1).run P w = .ok t18_1 w) ∧
  (∀ w : World, w.heap = h_6 → (Instr.loadAt 34 t14_1).run P w = .ok t15_1 w) ∧
  (∀ w : World, w.heap = h_6 → (Instr.loadAt 22 t12_1).run P w = .ok t13_1 w) ∧
  (∀ w : World, w.heap = h_6 → (Instr.loadAt 22 t10_1).run P w = .ok t11_1 w) ∧
  callM P 120 #[c0_1, t20_1] h_6 fun t21_1 h_7 =>
  (∀ w : World, w.heap = h_7 → (Instr.loadAt 22 t17_1).run P w = .ok t18_1 w) ∧
  (∀ w : World, w.heap = h_7 → (Instr.loadAt 34 t14_1).run P w = .ok t15_1 w) ∧
  (∀ w : World, w.heap = h_7 → (Instr.loadAt 22 t12_1).run P w = .ok t13_1 w) ∧
  (∀ w : World, w.heap = h_7 → (Instr.loadAt 22 t10_1).run P w = .ok t11_1 w) ∧
  eop P (Instr.buildSlice 34 1 #[(0, t21_1)]) h_7 fun t22_1 h_8 =>
  (∀ w : World, w.heap = h_8 → (Instr.loadAt 22 t17_1).run P w = .ok t18_1 w) ∧
  (∀ w : World, w.heap = h_8 → (Instr.loadAt 34 t14_1).run P w = .ok t15_1 w) ∧
  (∀ w : World, w.heap = h_8 → (Instr.loadAt 22 t12_1).run P w = .ok t13_1 w) ∧
  (∀ w : World, w.heap = h_8 → (Instr.loadAt 22 t10_1).run P w = .ok t11_1 w) ∧
  eop P (appS 34 34 34 t15_1 t22_1) h_8 fun t23_1 h_9 =>
  (∀ w : World, w.heap = h_9 → (Instr.loadAt 22 t17_1).run P w = .ok t18_1 w) ∧
  (∀ w : World, w.heap = h_9 → (Instr.loadAt 22 t12_1).run P w = .ok t13_1 w) ∧
  (∀ w : World, w.heap = h_9 → (Instr.loadAt 22 t10_1).run P w = .ok t11_1 w) ∧
  pop P (Instr.indexAt 22 t11_1 (Value.int IntKind.i64 0)) fun t24_1 =>
  uop P (Instr.storeAt 34 t24_1 t23_1) h_9 fun u_2 h_10 =>
  rop P (Instr.loadAt 41 g3_1) h_10 fun t52_1 =>
  uop P (Instr.storeAt 41 t2_1 t52_1) h_10 fun u_3 h_11 =>
  rop P (Instr.loadAt 41 t2_1) h_11 fun r_1 =>
  K r_1 h_11)
  (pop P (binE .eql 3 (.tmp 7) (.const (Value.int IntKind.i64 1)) t7_1 (Value.int IntKind.i64 1)) fun t26_1 =>
  condM t26_1
  (pop P (Instr.fieldAt 41 g3_1 0) fun t27_1 =>
  rop P (Instr.loadAt 22 t27_1) h_5 fun t28_1 =>
  callM P 119 #[c0_1, (Value.int IntKind.i64 2)] h_5 fun t30_1 h_12 =>
  (∀ w : World, w.heap = h_12 → (Instr.loadAt 22 t27_1).run P w = .ok t28_1 w) ∧
  pop P (binA .add 3 (Value.int IntKind.i64 5) t30_1) fun t31_1 =>
  eop P (Instr.makeSlice 34 t31_1 t31_1) h_12 fun t32_1 h_13 =>
  (∀ w : World, w.heap = h_13 → (Instr.loadAt 22 t27_1).run P w = .ok t28_1 w) ∧
  pop P (Instr.indexAt 22 t28_1 (Value.int IntKind.i64 0)) fun t33_1 =>
  uop P (Instr.storeAt 34 t33_1 t32_1) h_13 fun u_4 h_14 =>
  rop P (Instr.loadAt 41 g3_1) h_14 fun t52_2 =>
  uop P (Instr.storeAt 41 t2_1 t52_2) h_14 fun u_5 h_15 =>
  rop P (Instr.loadAt 41 t2_1) h_15 fun r_2 =>
  K r_2 h_15)
  (pop P (binE .eql 3 (.tmp 7) (.const (Value.int IntKind.i64 2)) t7_1 (Value.int IntKind.i64 2)) fun t35_1 =>
  condM t35_1
  (∃ (I_1 : List Value → Heap → Prop) (μ_1 : List Value → Heap → Nat), I_1 [] h_5 ∧
  ∀ (junk_1 : Nat → Value) (h_16 : Heap), I_1 [] h_16 →
  pop P (Instr.fieldAt 41 g3_1 0) fun t36_1 =>
  rop P (Instr.loadAt 22 t36_1) h_16 fun t37_1 =>
  pop P (lenS 22 3 t37_1) fun t38_1 =>
  callM P 119 #[c0_1, (Value.int IntKind.i64 2)] h_16 fun t40_1 h_17 =>
  (∀ w : World, w.heap = h_17 → (Instr.loadAt 22 t36_1).run P w = .ok t37_1 w) ∧
  pop P (binA .add 3 (Value.int IntKind.i64 8) t40_1) fun t41_1 =>
  pop P (binA .lss 3 t38_1 t41_1) fun t42_1 =>
  condM t42_1
  (pop P (Instr.fieldAt 41 g3_1 0) fun t43_1 =>
  rop P (Instr.loadAt 22 t43_1) h_17 fun t44_1 =>
  eop P (Instr.buildSlice 34 1 #[(0, (Value.int IntKind.i64 0))]) h_17 fun t45_1 h_18 =>
  eop P (Instr.buildSlice 22 1 #[(0, t45_1)]) h_18 fun t46_1 h_19 =>
  eop P (appS 22 22 22 t44_1 t46_1) h_19 fun t47_1 h_20 =>
  pop P (Instr.fieldAt 41 g3_1 0) fun t48_1 =>
  uop P (Instr.storeAt 22 t48_1 t47_1) h_20 fun u_6 h_21 =>
  I_1 [] h_21 ∧ μ_1 [] h_21 < μ_1 [] h_16)
  (rop P (Instr.loadAt 41 g3_1) h_17 fun t52_3 =>
  uop P (Instr.storeAt 41 t2_1 t52_3) h_17 fun u_7 h_22 =>
  rop P (Instr.loadAt 41 t2_1) h_22 fun r_3 =>
  K r_3 h_22))
  (pop P (binE .eql 3 (.tmp 7) (.const (Value.int IntKind.i64 3)) t7_1 (Value.int IntKind.i64 3)) fun t50_1 =>
  condM t50_1
  (pop P (Instr.build 41 #[]) fun t51_1 =>
  uop P (Instr.storeAt 41 g3_1 t51_1) h_5 fun u_8 h_23 =>
  rop P (Instr.loadAt 41 g3_1) h_23 fun t52_4 =>
  uop P (Instr.storeAt 41 t2_1 t52_4) h_23 fun u_9 h_24 =>
  rop P (Instr.loadAt 41 t2_1) h_24 fun r_4 =>
  K r_4 h_24)
  (rop P (Instr.loadAt 41 g3_1) h_5 fun t52_5 =>
  uop P (Instr.storeAt 41 t2_1 t52_5) h_5 fun u_10 h_25 =>
  rop P (Instr.loadAt 41 t2_1) h_25 fun r_5 =>
  K r_5 h_25))))
theorem e117 (c0_1 : Value) (h : Heap) (K : Value → Heap → Prop) : wpA Tryd.prog 53 (anOf [(7548, [])]) (bodyOf Tryd.f117) 1 (fun A h => resA Tryd.prog A h K [.cell 2 41]) (fun _ _ _ => False) (fun A h => resA Tryd.prog A h K [.cell 2 41]) (aargs [c0_1] 0) h = t117 Tryd.prog c0_1 h K := by kernel_rfl
theorem c117 (c0_1 : Value) (h : Heap) (K : Value → Heap → Prop) (H : t117 Tryd.prog c0_1 h K) : callM Tryd.prog 117 #[c0_1] h K :=
  callM_of_wpA mixed (fn := Tryd.f117) Tryd.func117 (c := bodyOf Tryd.f117) rfl (of_decide_eq_true (by kernel_rfl)) (anOf [(7548, [])]) 52 53 (by kernel_rfl) rfl [.cell 2 41] (by kernel_rfl) (args := [c0_1]) (by rw [e117]; exact H)
def t118 (P : Program) (c0_1 : Value) (g1_1 : Value) (h : Heap) (K : Value → Heap → Prop) : Prop :=
  eop P (Instr.box 41 g1_1) h fun g3_1 h_1 =>
  eop P (Instr.alloc 43 true (.tuple #[])) h_1 fun t4_1 h_2 =>
  pop P (Instr.fieldAt 41 g3_1 0) fun t10_1 =>
  rop P (Instr.loadAt 22 t10_1) h_2 fun t11_1 =>
  pop P (lenS 22 3 t11_1) fun t12_1 =>
  callM P 119 #[c0_1, t12_1] h_2 fun t13_1 h_3 =>
  pop P (Instr.build 43 #[(1, t13_1)]) fun t14_1 =>
  eop P (Instr.alloc 43 true (.tuple #[])) h_3 fun w5_1 h_4 =>
  uop P (Instr.storeAt 43 w5_1 t14_1) h_4 fun u_1 h_5 =>
  pop P (Instr.fieldAt 41 g3_1 0) fun t15_1 =>
  rop P (Instr.loadAt 22 t15_1) h_5 fun t16_1 =>
  pop P (lenS 22 3 t16_1) fun t17_1 =>
  ∃ (I_1 : List Value → Heap → Prop) (μ_1 : List Value → Heap → Nat), I_1 [(Value.int IntKind.i64 0)] h_5 ∧
  ∀ (junk_1 : Nat → Value) (t18_1 : Value) (h_6 : Heap), I_1 [t18_1] h_6 →
  pop P (binA .lss 3 t18_1 t17_1) fun t19_1 =>
  condM t19_1
  (pop P (Instr.indexAt 22 t16_1 t18_1) fun t20_1 =>
  rop P (Instr.loadAt 34 t20_1) h_6 fun t21_1 =>
  ∃ J_1 : List Value → Heap → Prop, (pop P (lenS 34 3 t21_1) fun t23_1 =>
  pop P (binA .gtr 3 t23_1 (Value.int IntKind.i64 0)) fun t24_1 =>
  condM t24_1
  (pop P (lenS 34 3 t21_1) fun t27_1 =>
  callM P 119 #[c0_1, t27_1] h_6 fun t28_1 h_7 =>
  J_1 [t28_1] h_7)
  (J_1 [(Value.int IntKind.i64 0)] h_6)) ∧
  ∀ (junk_2 : Nat → Value) (k8_1 : Value) (h_8 : Heap), J_1 [k8_1] h_8 →
  pop P (Instr.fieldAt 43 w5_1 0) fun t29_1 =>
  rop P (Instr.loadAt 34 t29_1) h_8 fun t30_1 =>
  eop P (Instr.buildSlice 34 1 #[(0, k8_1)]) h_8 fun t32_1 h_9 =>
  eop P (appS 34 34 34 t30_1 t32_1) h_9 fun t33_1 h_10 =>
  pop P (Instr.fieldAt 43 w5_1 0) fun t34_1 =>
  uop P (Instr.storeAt 34 t34_1 t33_1) h_10 fun u_2 h_11 =>
  pop P (binA .add 3 t18_1 (Value.int IntKind.i64 1)) fun t35_1 =>
  I_1 [t35_1] h_11 ∧ μ_1 [t35_1] h_11 < μ_1 [t18_1] h_6)
  (rop P (Instr.loadAt 43 w5_1) h_6 fun t36_1 =>
  uop P (Instr.storeAt 43 t4_1 t36_1) h_6 fun u_3 h_12 =>
  rop P (Instr.loadAt 43 t4_1) h_12 fun r_1 =>
  K r_1 h_12)
theorem e118 (c0_1 : Value) (g1_1 : Value) (h : Heap) (K : Value → Heap → Prop) : wpA Tryd.prog 37 (anOf [(58, [18]), (7475, [8])]) (bodyOf Tryd.f118) 1 (fun A h => resA Tryd.prog A h K [.cell 4 43]) (fun _ _ _ => False) (fun A h => resA Tryd.prog A h K [.cell 4 43]) (aargs [c0_1, g1_1] 0) h = t118 Tryd.prog c0_1 g1_1 h K := by kernel_rfl
theorem c118 (c0_1 : Value) (g1_1 : Value) (h : Heap) (K : Value → Heap → Prop) (H : t118 Tryd.prog c0_1 g1_1 h K) : callM Tryd.prog 118 #[c0_1, g1_1] h K :=
  callM_of_wpA mixed (fn := Tryd.f118) Tryd.func118 (c := bodyOf Tryd.f118) rfl (of_decide_eq_true (by kernel_rfl)) (anOf [(58, [18]), (7475, [8])]) 35 37 (by kernel_rfl) rfl [.cell 4 43] (by kernel_rfl) (args := [c0_1, g1_1]) (by rw [e118]; exact H)
def t119 (P : Program) (c0_1 : Value) (n1_1 : Value) (h : Heap) (K : Value → Heap → Prop) : Prop :=
  pop P (binA .leq 3 n1_1 (Value.int IntKind.i64 1)) fun t7_1 =>
  condM t7_1
  (K (Value.int IntKind.i64 0) h)
  (callM P 129 #[c0_1] h fun t9_1 h_1 =>
  ∃ J_1 : List Value → Heap → Prop, (pop P (binA .gtr 3 n1_1 (Value.int IntKind.i64 200)) fun t11_1 =>
  condM t11_1
  (pop P (binA .mul 3 t9_1 (Value.int IntKind.i64 256)) fun t13_1 =>
  callM P 129 #[c0_1] h_1 fun t15_1 h_2 =>
  pop P (binA .add 3 t13_1 t15_1) fun t16_1 =>
  J_1 [t16_1] h_2)
  (J_1 [t9_1] h_1)) ∧
  ∀ (junk_1 : Nat → Value) (x5_1 : Value) (h_3 : Heap), J_1 [x5_1] h_3 →
  pop P (binA .rem 3 x5_1 n1_1) fun t19_1 =>
  K t19_1 h_3)
theorem e119 (c0_1 : Value) (n1_1 : Value) (h : Heap) (K : Value → Heap → Prop) : wpA Tryd.prog 20 (anOf [(15, [5])]) (bodyOf Tryd.f119) 1 (fun A h => resA Tryd.prog A h K [.tmp 4]) (fun _ _ _ => False) (fun A h => resA Tryd.prog A h K [.tmp 4]) (aargs [c0_1, n1_1] 0) h = t119 Tryd.prog c0_1 n1_1 h K := by kernel_rfl
theorem c119 (c0_1 : Value) (n1_1 : Value) (h : Heap) (K : Value → Heap → Prop) (H : t119 Tryd.prog c0_1 n1_1 h K) : callM Tryd.prog 119 #[c0_1, n1_1] h K :=
  callM_of_wpA mixed (fn := Tryd.f119) Tryd.func119 (c := bodyOf Tryd.f119) rfl (of_decide_eq_true (by kernel_rfl)) (anOf [(15, [5])]) 18 20 (by kernel_rfl) rfl [.tmp 4] (by kernel_rfl) (args := [c0_1, n1_1]) (by rw [e119]; exact H)
def t120 (P : Program) (c0_1 : Value) (list1_1 : Value) (h : Heap) (K : Value → Heap → Prop) : Prop :=
  pop P (lenS 34 3 list1_1) fun t8_1 =>
  callM P 119 #[c0_1, t8_1] h fun t9_1 h_1 =>
  pop P (Instr.indexAt 34 list1_1 t9_1) fun t10_1 =>
  rop P (Instr.loadAt 3 t10_1) h_1 fun t11_1 =>
  K t11_1 h_1
theorem e120 (c0_1 : Value) (list1_1 : Value) (h : Heap) (K : Value → Heap → Prop) : wpA Tryd.prog 12 (anOf []) (bodyOf Tryd.f120) 1 (fun A h => resA Tryd.prog A h K [.tmp 4]) (fun _ _ _ => False) (fun A h => resA Tryd.prog A h K [.tmp 4]) (aargs [c0_1, list1_1] 0) h = t120 Tryd.prog c0_1 list1_1 h K := by kernel_rfl
theorem c120 (c0_1 : Value) (list1_1 : Value) (h : Heap) (K : Value → Heap → Prop) (H : t120 Tryd.prog c0_1 list1_1 h K) : callM Tryd.prog 120 #[c0_1, list1_1] h K :=
  callM_of_wpA mixed (fn := Tryd.f120) Tryd.func120 (c := bodyOf Tryd.f120) rfl (of_decide_eq_true (by kernel_rfl)) (anOf []) 10 12 (by kernel_rfl) rfl [.tmp 4] (by kernel_rfl) (args := [c0_1, list1_1]) (by rw [e120]; exact H)
def t121 (P : Program) (c0_1 : Value) (n1_1 : Value) (h : Heap) (K : Value → Heap → Prop) : Prop :=
  callM P 119 #[c0_1, n1_1] h fun t7_1 h_1 =>
  pop P (binE .eql 3 (.tmp 7) (.const (Value.int IntKind.i64 0)) t7_1 (Value.int IntKind.i64 0)) fun t8_1 =>
  K t8_1 h_1
theorem e121 (c0_1 : Value) (n1_1 : Value) (h : Heap) (K : Value → Heap → Prop) : wpA Tryd.prog 9 (anOf []) (bodyOf Tryd.f121) 1 (fun A h => resA Tryd.prog A h K [.tmp 4]) (fun _ _ _ => False) (fun A h => resA Tryd.prog A h K [.tmp 4]) (aargs [c0_1, n1_1] 0) h = t121 Tryd.prog c0_1 n1_1 h K := by kernel_rfl
theorem c121 (c0_1 : Value) (n1_1 : Value) (h : Heap) (K : Value → Heap → Prop) (H : t121 Tryd.prog c0_1 n1_1 h K) : callM Tryd.prog 121 #[c0_1, n1_1] h K :=
  callM_of_wpA mixed (fn := Tryd.f121) Tryd.func121 (c := bodyOf Tryd.f121) rfl (of_decide_eq_true (by kernel_rfl)) (anOf []) 7 9 (by kernel_rfl) rfl [.tmp 4] (by kernel_rfl) (args := [c0_1, n1_1]) (by rw [e121]; exact H)
def t123 (P : Program) (q0_1 : Value) (t1_1 : Value) (h : Heap) (K : Value → Heap → Prop) : Prop :=
  rop P (Instr.loadAt 3 t1_1) h fun t5_1 =>
  pop P (binA .sub 3 t5_1 (Value.int IntKind.i64 1)) fun t6_1 =>
  callM P 55 #[q0_1, (Value.int IntKind.i64 0), t6_1] h fun t7_1 h_1 =>
  pop P (Op.unary .not t7_1) fun t8_1 =>
  K t8_1 h_1
theorem e123 (q0_1 : Value) (t1_1 : Value) (h : Heap) (K : Value → Heap → Prop) : wpA Tryd.prog 9 (anOf []) (bodyOf Tryd.f123) 1 (fun A h => resA Tryd.prog A h K [.tmp 3]) (fun _ _ _ => False) (fun A h => resA Tryd.prog A h K [.tmp 3]) (aargs [q0_1, t1_1] 0) h = t123 Tryd.prog q0_1 t1_1 h K := by kernel_rfl
theorem c123 (q0_1 : Value) (t1_1 : Value) (h : Heap) (K : Value → Heap → Prop) (H : t123 Tryd.prog q0_1 t1_1 h K) : callM Tryd.prog 123 #[q0_1, t1_1] h K :=
  callM_of_wpA mixed (fn := Tryd.f123) Tryd.func123 (c := bodyOf Tryd.f123) rfl (of_decide_eq_true (by kernel_rfl)) (anOf []) 7 9 (by kernel_rfl) rfl [.tmp 3] (by kernel_rfl) (args := [q0_1, t1_1]) (by rw [e123]; exact H)
def t128 (P : Program) (c0_1 : Value) (most1_1 : Value) (h : Heap) (K : Value → Heap → Prop) : Prop :=
  eop P (Instr.alloc 41 true (.tuple #[])) h fun t4_1 h_1 =>
  callM P 119 #[c0_1, most1_1] h_1 fun t13_1 h_2 =>
  pop P (binA .add 3 (Value.int IntKind.i64 1) t13_1) fun t14_1 =>
  callM P 121 #[c0_1, (Value.int IntKind.i64 4)] h_2 fun t16_1 h_3 =>
  condM t16_1
  (callM P 121 #[c0_1, (Value.int IntKind.i64 2)] h_3 fun t19_1 h_4 =>
  callM P 135 #[t14_1, t19_1] h_4 fun t20_1 h_5 =>
  uop P (Instr.storeAt 41 t4_1 t20_1) h_5 fun u_1 h_6 =>
  rop P (Instr.loadAt 41 t4_1) h_6 fun r_1 =>
  K r_1 h_6)
  (pop P (Instr.build 41 #[]) fun t21_1 =>
  eop P (Instr.alloc 41 true (.tuple #[])) h_3 fun g6_1 h_7 =>
  uop P (Instr.storeAt 41 g6_1 t21_1) h_7 fun u_2 h_8 =>
  ∃ (I_1 : List Value → Heap → Prop) (μ_1 : List Value → Heap → Nat), I_1 [(Value.int IntKind.i64 0)] h_8 ∧
  ∀ (junk_1 : Nat → Value) (p7_1 : Value) (h_9 : Heap), I_1 [p7_1] h_9 →
  pop P (binA .lss 3 p7_1 t14_1) fun t24_1 =>
  condM t24_1
  (callM P 119 #[c0_1, (Value.int IntKind.i64 3)] h_9 fun t28_1 h_10 =>
  pop P (binA .add 3 (Value.int IntKind.i64 1) t28_1) fun t29_1 =>
  ∃ (I_2 : List Value → Heap → Prop) (μ_2 : List Value → Heap → Nat), I_2 [(Value.slice none 0 0), t29_1] h_10 ∧
  ∀ (junk_2 : Nat → Value) (list8_1 : Value) (k9_1 : Value) (h_11 : Heap), I_2 [list8_1, k9_1] h_11 →
  pop P (binA .gtr 3 k9_1 (Value.int IntKind.i64 0)) fun t31_1 =>
  condM t31_1
  (callM P 119 #[c0_1, t14_1] h_11 fun t37_1 h_12 =>
  eop P (Instr.buildSlice 34 1 #[(0, t37_1)]) h_12 fun t38_1 h_13 =>
  eop P (appS 34 34 34 list8_1 t38_1) h_13 fun t39_1 h_14 =>
  pop P (binA .sub 3 k9_1 (Value.int IntKind.i64 1)) fun t33_1 =>
  I_2 [t39_1, t33_1] h_14 ∧ μ_2 [t39_1, t33_1] h_14 < μ_2 [list8_1, k9_1] h_11)
  (∃ J_1 : List Value → Heap → Prop, (callM P 121 #[c0_1, (Value.int IntKind.i64 8)] h_11 fun t41_1 h_15 =>
  condM t41_1
  (J_1 [(Value.slice none 0 0)] h_15)
  (J_1 [list8_1] h_15)) ∧
  ∀ (junk_3 : Nat → Value) (list8_2 : Value) (h_16 : Heap), J_1 [list8_2] h_16 →
  pop P (Instr.fieldAt 41 g6_1 0) fun t42_1 =>
  rop P (Instr.loadAt 22 t42_1) h_16 fun t43_1 =>
  eop P (Instr.buildSlice 22 1 #[(0, list8_2)]) h_16 fun t45_1 h_17 =>
  eop P (appS 22 22 22 t43_1 t45_1) h_17 fun t46_1 h_18 =>
  pop P (Instr.fieldAt 41 g6_1 0) fun t47_1 =>
  uop P (Instr.storeAt 22 t47_1 t46_1) h_18 fun u_3 h_19 =>
  pop P (binA .add 3 p7_1 (Value.int IntKind.i64 1)) fun t26_1 =>
  I_1 [t26_1] h_19 ∧ μ_1 [t26_1] h_19 < μ_1 [p7_1] h_9))
  (callM P 121 #[c0_1, (Value.int IntKind.i64 2)] h_9 fun t49_1 h_20 =>
  condM t49_1
  (pop P (Instr.fieldAt 41 g6_1 0) fun t50_1 =>
  rop P (Instr.loadAt 22 t50_1) h_20 fun t51_1 =>
  pop P (lenS 22 3 t51_1) fun t52_1 =>
  ∃ (I_3 : List Value → Heap → Prop) (μ_3 : List Value → Heap → Nat), I_3 [(Value.int IntKind.i64 0)] h_20 ∧
  ∀ (junk_4 : Nat → Value) (t53_1 : Value) (h_21 : Heap), I_3 [t53_1] h_21 →
  pop P (binA .lss 3 t53_1 t52_1) fun t54_1 =>
  condM t54_1
  (pop P (Instr.fieldAt 41 g6_1 0) fun t56_1 =>
  rop P (Instr.loadAt 22 t56_1) h_21 fun t57_1 =>
  pop P (Instr.fieldAt 41 g6_1 0) fun t59_1 =>
  rop P (Instr.loadAt 22 t59_1) h_21 fun t60_1 =>
  pop P (Instr.indexAt 22 t60_1 t53_1) fun t62_1 =>
  rop P (Instr.loadAt 34 t62_1) h_21 fun t63_1 =>
  pop P (binA .add 3 t53_1 (Value.int IntKind.i64 1)) fun t65_1 =>
  pop P (binA .rem 3 t65_1 t14_1) fun t67_1 =>
  eop P (Instr.buildSlice 34 1 #[(0, t67_1)]) h_21 fun t68_1 h_22 =>
  (∀ w : World, w.heap = h_22 → (Instr.loadAt 34 t62_1).run P w = .ok t63_1 w) ∧
  (∀ w : World, w.heap = h_22 → (Instr.loadAt 22 t59_1).run P w = .ok t60_1 w) ∧
  (∀ w : World, w.heap = h_22 → (Instr.loadAt 22 t56_1).run P w = .ok t57_1 w) ∧
  eop P (appS 34 34 34 t63_1 t68_1) h_22 fun t69_1 h_23 =>
  (∀ w : World, w.heap = h_23 → (Instr.loadAt 22 t59_1).run P w = .ok t60_1 w) ∧
  (∀ w : World, w.heap = h_23 → (Instr.loadAt 22 t56_1).run P w = .ok t57_1 w) ∧
  pop P (Instr.indexAt 22 t57_1 t53_1) fun t70_1 =>
  uop P (Instr.storeAt 34 t70_1 t69_1) h_23 fun u_4 h_24 =>
  pop P (binA .add 3 t53_1 (Value.int IntKind.i64 1)) fun t71_1 =>
  I_3 [t71_1] h_24 ∧ μ_3 [t71_1] h_24 < μ_3 [t53_1] h_21)
  (rop P (Instr.loadAt 41 g6_1) h_21 fun t72_1 =>
  uop P (Instr.storeAt 41 t4_1 t72_1) h_21 fun u_5 h_25 =>
  rop P (Instr.loadAt 41 t4_1) h_25 fun r_2 =>
  K r_2 h_25))
  (rop P (Instr.loadAt 41 g6_1) h_20 fun t72_2 =>
  uop P (Instr.storeAt 41 t4_1 t72_2) h_20 fun u_6 h_26 =>
  rop P (Instr.loadAt 41 t4_1) h_26 fun r_3 =>
  K r_3 h_26)))
theorem e128 (c0_1 : Value) (most1_1 : Value) (h : Heap) (K : Value → Heap → Prop) : wpA Tryd.prog 73 (anOf [(250, [7]), (2026, [53]), (16019, [8]), (64074, [8, 9])]) (bodyOf Tryd.f128) 1 (fun A h => resA Tryd.prog A h K [.cell 4 41]) (fun _ _ _ => False) (fun A h => resA Tryd.prog A h K [.cell 4 41]) (aargs [c0_1, most1_1] 0) h = t128 Tryd.prog c0_1 most1_1 h K := by kernel_rfl
theorem c128 (c0_1 : Value) (most1_1 : Value) (h : Heap) (K : Value → Heap → Prop) (H : t128 Tryd.prog c0_1 most1_1 h K) : callM Tryd.prog 128 #[c0_1, most1_1] h K :=
  callM_of_wpA mixed (fn := Tryd.f128) Tryd.func128 (c := bodyOf Tryd.f128) rfl (of_decide_eq_true (by kernel_rfl)) (anOf [(250, [7]), (2026, [53]), (16019, [8]), (64074, [8, 9])]) 71 73 (by kernel_rfl) rfl [.cell 4 41] (by kernel_rfl) (args := [c0_1, most1_1]) (by rw [e128]; exact H)
def t129 (P : Program) (c0_1 : Value) (h : Heap) (K : Value → Heap → Prop) : Prop :=
  ∃ J_1 : List Value → Heap → Prop, (pop P (nilS c0_1) fun t5_1 =>
  pop P (Instr.fieldAt 123 t5_1 1) fun t6_1 =>
  rop P (Instr.loadAt 3 t6_1) h fun t7_1 =>
  pop P (nilS c0_1) fun t9_1 =>
  pop P (Instr.fieldAt 123 t9_1 0) fun t10_1 =>
  rop P (Instr.loadAt 48 t10_1) h fun t11_1 =>
  pop P (lenS 48 3 t11_1) fun t12_1 =>
  pop P (binA .lss 3 t7_1 t12_1) fun t13_1 =>
  condM t13_1
  (pop P (nilS c0_1) fun t15_1 =>
  pop P (Instr.fieldAt 123 t15_1 0) fun t16_1 =>
  rop P (Instr.loadAt 48 t16_1) h fun t17_1 =>
  pop P (nilS c0_1) fun t19_1 =>
  pop P (Instr.fieldAt 123 t19_1 1) fun t20_1 =>
  rop P (Instr.loadAt 3 t20_1) h fun t21_1 =>
  pop P (Instr.indexAt 48 t17_1 t21_1) fun t22_1 =>
  rop P (Instr.loadAt 5 t22_1) h fun t23_1 =>
  rop P (convert 5 3 t23_1) h fun t24_1 =>
  J_1 [t24_1] h)
  (J_1 [(Value.int IntKind.i64 0)] h)) ∧
  ∀ (junk_1 : Nat → Value) (b3_1 : Value) (h_1 : Heap), J_1 [b3_1] h_1 →
  pop P (nilS c0_1) fun t26_1 =>
  pop P (Instr.fieldAt 123 t26_1 1) fun t27_1 =>
  rop P (Instr.loadAt 3 t27_1) h_1 fun t28_1 =>
  pop P (binA .add 3 t28_1 (Value.int IntKind.i64 1)) fun t29_1 =>
  pop P (nilS c0_1) fun t30_1 =>
  pop P (Instr.fieldAt 123 t30_1 1) fun t31_1 =>
  uop P (Instr.storeAt 3 t31_1 t29_1) h_1 fun u_1 h_2 =>
  pop P (nilS c0_1) fun t34_1 =>
  pop P (Instr.fieldAt 123 t34_1 2) fun t35_1 =>
  rop P (Instr.loadAt 121 t35_1) h_2 fun t36_1 =>
  pop P (binA .mul 121 t36_1 (Value.int IntKind.u64 6364136223846793005)) fun t37_1 =>
  rop P (convert 3 121 b3_1) h_2 fun t39_1 =>
  pop P (binA .add 121 t37_1 t39_1) fun t40_1 =>
  pop P (binA .add 121 t40_1 (Value.int IntKind.u64 1442695040888963407)) fun t41_1 =>
  pop P (nilS c0_1) fun t42_1 =>
  pop P (Instr.fieldAt 123 t42_1 2) fun t43_1 =>
  uop P (Instr.storeAt 121 t43_1 t41_1) h_2 fun u_2 h_3 =>
  pop P (nilS c0_1) fun t45_1 =>
  pop P (Instr.fieldAt 123 t45_1 1) fun t46_1 =>
  rop P (Instr.loadAt 3 t46_1) h_3 fun t47_1 =>
  pop P (nilS c0_1) fun t49_1 =>
  pop P (Instr.fieldAt 123 t49_1 0) fun t50_1 =>
  rop P (Instr.loadAt 48 t50_1) h_3 fun t51_1 =>
  pop P (lenS 48 3 t51_1) fun t52_1 =>
  pop P (binA .leq 3 t47_1 t52_1) fun t53_1 =>
  condM t53_1
  (K b3_1 h_3)
  (pop P (nilS c0_1) fun t56_1 =>
  pop P (Instr.fieldAt 123 t56_1 2) fun t57_1 =>
  rop P (Instr.loadAt 121 t57_1) h_3 fun t58_1 =>
  pop P (binA .shr 121 t58_1 (Value.int IntKind.u64 40)) fun t59_1 =>
  pop P (binA .and 121 t59_1 (Value.int IntKind.u64 255)) fun t60_1 =>
  rop P (convert 121 3 t60_1) h_3 fun t61_1 =>
  K t61_1 h_3)
theorem e129 (c0_1 : Value) (h : Heap) (K : Value → Heap → Prop) : wpA Tryd.prog 62 (anOf [(7, [3])]) (bodyOf Tryd.f129) 1 (fun A h => resA Tryd.prog A h K [.tmp 2]) (fun _ _ _ => False) (fun A h => resA Tryd.prog A h K [.tmp 2]) (aargs [c0_1] 0) h = t129 Tryd.prog c0_1 h K := by kernel_rfl
theorem c129 (c0_1 : Value) (h : Heap) (K : Value → Heap → Prop) (H : t129 Tryd.prog c0_1 h K) : callM Tryd.prog 129 #[c0_1] h K :=
  callM_of_wpA mixed (fn := Tryd.f129) Tryd.func129 (c := bodyOf Tryd.f129) rfl (of_decide_eq_true (by kernel_rfl)) (anOf [(7, [3])]) 61 62 (by kernel_rfl) rfl [.tmp 2] (by kernel_rfl) (args := [c0_1]) (by rw [e129]; exact H)
def t135 (P : Program) (n0_1 : Value) (both1_1 : Value) (h : Heap) (K : Value → Heap → Prop) : Prop :=
  eop P (Instr.alloc 41 true (.tuple #[])) h fun t4_1 h_1 =>
  pop P (Instr.build 41 #[]) fun t8_1 =>
  eop P (Instr.alloc 41 true (.tuple #[])) h_1 fun g5_1 h_2 =>
  uop P (Instr.storeAt 41 g5_1 t8_1) h_2 fun u_1 h_3 =>
  ∃ (I_1 : List Value → Heap → Prop) (μ_1 : List Value → Heap → Nat), I_1 [(Value.int IntKind.i64 0)] h_3 ∧
  ∀ (junk_1 : Nat → Value) (p6_1 : Value) (h_4 : Heap), I_1 [p6_1] h_4 →
  pop P (binA .lss 3 p6_1 n0_1) fun t11_1 =>
  condM t11_1
  (pop P (binA .add 3 p6_1 (Value.int IntKind.i64 1)) fun t15_1 =>
  pop P (binA .rem 3 t15_1 n0_1) fun t17_1 =>
  eop P (Instr.buildSlice 34 1 #[(0, t17_1)]) h_4 fun t18_1 h_5 =>
  ∃ J_1 : List Value → Heap → Prop, (condM both1_1
  (pop P (binA .add 3 p6_1 n0_1) fun t23_1 =>
  pop P (binA .sub 3 t23_1 (Value.int IntKind.i64 1)) fun t24_1 =>
  pop P (binA .rem 3 t24_1 n0_1) fun t26_1 =>
  eop P (Instr.buildSlice 34 1 #[(0, t26_1)]) h_5 fun t27_1 h_6 =>
  eop P (appS 34 34 34 t18_1 t27_1) h_6 fun t28_1 h_7 =>
  J_1 [t28_1] h_7)
  (J_1 [t18_1] h_5)) ∧
  ∀ (junk_2 : Nat → Value) (list7_1 : Value) (h_8 : Heap), J_1 [list7_1] h_8 →
  pop P (Instr.fieldAt 41 g5_1 0) fun t29_1 =>
  rop P (Instr.loadAt 22 t29_1) h_8 fun t30_1 =>
  eop P (Instr.buildSlice 22 1 #[(0, list7_1)]) h_8 fun t32_1 h_9 =>
  eop P (appS 22 22 22 t30_1 t32_1) h_9 fun t33_1 h_10 =>
  pop P (Instr.fieldAt 41 g5_1 0) fun t34_1 =>
  uop P (Instr.storeAt 22 t34_1 t33_1) h_10 fun u_2 h_11 =>
  pop P (binA .add 3 p6_1 (Value.int IntKind.i64 1)) fun t13_1 =>
  I_1 [t13_1] h_11 ∧ μ_1 [t13_1] h_11 < μ_1 [p6_1] h_4)
  (rop P (Instr.loadAt 41 g5_1) h_4 fun t35_1 =>
  uop P (Instr.storeAt 41 t4_1 t35_1) h_4 fun u_3 h_12 =>
  rop P (Instr.loadAt 41 t4_1) h_12 fun r_1 =>
  K r_1 h_12)
theorem e135 (n0_1 : Value) (both1_1 : Value) (h : Heap) (K : Value → Heap → Prop) : wpA Tryd.prog 36 (anOf [(58, [6]), (1865, [7])]) (bodyOf Tryd.f135) 1 (fun A h => resA Tryd.prog A h K [.cell 4 41]) (fun _ _ _ => False) (fun A h => resA Tryd.prog A h K [.cell 4 41]) (aargs [n0_1, both1_1] 0) h = t135 Tryd.prog n0_1 both1_1 h K := by kernel_rfl
theorem c135 (n0_1 : Value) (both1_1 : Value) (h : Heap) (K : Value → Heap → Prop) (H : t135 Tryd.prog n0_1 both1_1 h K) : callM Tryd.prog 135 #[n0_1, both1_1] h K :=
  callM_of_wpA mixed (fn := Tryd.f135) Tryd.func135 (c := bodyOf Tryd.f135) rfl (of_decide_eq_true (by kernel_rfl)) (anOf [(58, [6]), (1865, [7])]) 34 36 (by kernel_rfl) rfl [.cell 4 41] (by kernel_rfl) (args := [n0_1, both1_1]) (by rw [e135]; exact H)
end Go.Proofs.YtkjkfjkapbpgiaaDoor
