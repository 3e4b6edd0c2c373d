import Derived.Test.YtkjkfjkapbpgiaaProg
import Derived.Test.YtkjkfjkapbpgiaaM1
set_option linter.unusedVariables false
namespace Go.Proofs.Ytkjkfjkapbpgiaa
open Go Go.Mx
theorem mixed : Try.prog.follows .mixedOrders = true := by kernel_rfl
def t5 (P : Program) (code0_1 : Value) (more1_1 : Value) (h : Heap) (K : Value → Heap → Prop) : Prop :=
  callM P 23 #[code0_1, more1_1] h fun t58_1 h_1 =>
  condM t58_1
  (K (Value.bool true) h_1)
  (callM P 24 #[code0_1] h_1 fun t61_1 h_2 =>
  pop P (Instr.extract t61_1 0) fun t62_1 =>
  pop P (Instr.extract t61_1 1) fun t63_1 =>
  pop P (Instr.extract t61_1 2) fun t64_1 =>
  eop P (Instr.alloc 32 true (.tuple #[])) h_2 fun g5_1 h_3 =>
  uop P (Instr.storeAt 32 g5_1 t62_1) h_3 fun u_1 h_4 =>
  rop P (Instr.loadAt 32 g5_1) h_4 fun t66_1 =>
  callM P 25 #[t66_1, t63_1, t64_1] h_4 fun t69_1 h_5 =>
  pop P (Instr.extract t69_1 0) fun t70_1 =>
  pop P (Instr.extract t69_1 1) fun t71_1 =>
  rop P (Instr.loadAt 32 g5_1) h_5 fun t73_1 =>
  callM P 26 #[t73_1, t63_1, t64_1] h_5 fun t76_1 h_6 =>
  pop P (Instr.extract t76_1 0) fun t77_1 =>
  pop P (Instr.extract t76_1 1) fun t78_1 =>
  rop P (Instr.loadAt 32 g5_1) h_6 fun t80_1 =>
  callM P 27 #[t80_1, t63_1] h_6 fun t82_1 h_7 =>
  pop P (Instr.extract t82_1 0) fun t83_1 =>
  pop P (Instr.extract t82_1 1) fun t84_1 =>
  rop P (Instr.loadAt 32 g5_1) h_7 fun t86_1 =>
  callM P 28 #[t86_1, t63_1] h_7 fun t88_1 h_8 =>
  pop P (Instr.extract t88_1 0) fun t89_1 =>
  pop P (Instr.extract t88_1 1) fun t90_1 =>
  pop P (binE .neq 4 (.tmp 91) (.tmp 92) t71_1 t78_1) fun t93_1 =>
  guardM (asG t93_1 false) false (fun k_1 => k_1 t70_1 h_8) h_8 fun t95_1 h_9 =>
  guardM (asG t93_1 false) false (fun k_2 => k_2 t77_1 h_9) h_9 fun t96_1 h_10 =>
  guardM (asG t93_1 false) false (fun k_3 => pop P (binE .neq 3 (.tmp 95) (.tmp 96) t95_1 t96_1) fun t97_1 =>
  k_3 t97_1 h_10) h_10 fun t97_2 h_11 =>
  pop P (pickS t93_1 (Value.bool true) t97_2) fun t98_1 =>
  guardM (asG t98_1 false) false (fun k_4 => k_4 t84_1 h_11) h_11 fun t100_1 h_12 =>
  guardM (asG t98_1 false) false (fun k_5 => k_5 t90_1 h_12) h_12 fun t101_1 h_13 =>
  guardM (asG t98_1 false) false (fun k_6 => pop P (binE .neq 4 (.tmp 100) (.tmp 101) t100_1 t101_1) fun t102_1 =>
  k_6 t102_1 h_13) h_13 fun t102_2 h_14 =>
  pop P (pickS t98_1 (Value.bool true) t102_2) fun t103_1 =>
  guardM (asG t103_1 false) false (fun k_7 => k_7 t83_1 h_14) h_14 fun t105_1 h_15 =>
  guardM (asG t103_1 false) false (fun k_8 => k_8 t89_1 h_15) h_15 fun t106_1 h_16 =>
  guardM (asG t103_1 false) false (fun k_9 => callM P 29 #[t105_1, t106_1] h_16 fun t107_1 h_17 =>
  k_9 t107_1 h_17) h_16 fun t107_2 h_18 =>
  guardM (asG t103_1 false) false (fun k_10 => pop P (Op.unary .not t107_2) fun t108_1 =>
  k_10 t108_1 h_18) h_18 fun t108_2 h_19 =>
  pop P (pickS t103_1 (Value.bool true) t108_2) fun t109_1 =>
  condM t109_1
  (K (Value.bool false) h_19)
  (guardM (asG t84_1 true) true (fun k_11 => rop P (Instr.loadAt 32 g5_1) h_19 fun t112_1 =>
  k_11 t112_1 h_19) h_19 fun t112_2 h_20 =>
  guardM (asG t84_1 true) true (fun k_12 => callM P 30 #[t112_2] h_20 fun t113_1 h_21 =>
  k_12 t113_1 h_21) h_20 fun t113_2 h_22 =>
  pop P (pickS t84_1 t113_2 (Value.bool false)) fun t114_1 =>
  guardM (asG t114_1 true) true (fun k_13 => k_13 t64_1 h_22) h_22 fun t116_1 h_23 =>
  guardM (asG t114_1 true) true (fun k_14 => pop P (binA .geq 3 t116_1 (Value.int IntKind.i64 0)) fun t117_1 =>
  k_14 t117_1 h_23) h_23 fun t117_2 h_24 =>
  pop P (pickS t114_1 t117_2 (Value.bool false)) fun t118_1 =>
  guardM (asG t118_1 true) true (fun k_15 => k_15 t64_1 h_24) h_24 fun t120_1 h_25 =>
  guardM (asG t118_1 true) true (fun k_16 => pop P (Instr.fieldAt 32 g5_1 0) fun t121_1 =>
  k_16 t121_1 h_25) h_25 fun t121_2 h_26 =>
  guardM (asG t118_1 true) true (fun k_17 => rop P (Instr.loadAt 22 t121_2) h_26 fun t122_1 =>
  k_17 t122_1 h_26) h_26 fun t122_2 h_27 =>
  guardM (asG t118_1 true) true (fun k_18 => pop P (lenS 22 3 t122_2) fun t123_1 =>
  k_18 t123_1 h_27) h_27 fun t123_2 h_28 =>
  guardM (asG t118_1 true) true (fun k_19 => pop P (binA .lss 3 t120_1 t123_2) fun t124_1 =>
  k_19 t124_1 h_28) h_28 fun t124_2 h_29 =>
  pop P (pickS t118_1 t124_2 (Value.bool false)) fun t125_1 =>
  guardM (asG t125_1 true) true (fun k_20 => k_20 t71_1 h_29) h_29 fun t127_1 h_30 =>
  guardM (asG t125_1 true) true (fun k_21 => k_21 t83_1 h_30) h_30 fun t128_1 h_31 =>
  guardM (asG t125_1 true) true (fun k_22 => k_22 t64_1 h_31) h_31 fun t129_1 h_32 =>
  guardM (asG t125_1 true) true (fun k_23 => callM P 31 #[t128_1, t129_1] h_32 fun t130_1 h_33 =>
  k_23 t130_1 h_33) h_32 fun t130_2 h_34 =>
  guardM (asG t125_1 true) true (fun k_24 => pop P (binE .neq 4 (.tmp 127) (.tmp 130) t127_1 t130_2) fun t131_1 =>
  k_24 t131_1 h_34) h_34 fun t131_2 h_35 =>
  pop P (pickS t125_1 t131_2 (Value.bool false)) fun t132_1 =>
  condM t132_1
  (K (Value.bool false) h_35)
  (guardM (asG t71_1 true) true (fun k_25 => k_25 t70_1 h_35) h_35 fun t135_1 h_36 =>
  guardM (asG t71_1 true) true (fun k_26 => pop P (binA .lss 3 t135_1 (Value.int IntKind.i64 0)) fun t136_1 =>
  k_26 t136_1 h_36) h_36 fun t136_2 h_37 =>
  guardM (asG t71_1 true) true (fun k_27 => k_27 t136_2 h_37) h_37 fun t137_1 h_38 =>
  guardM (asG t137_1 false) false (fun k_28 => k_28 t70_1 h_38) h_38 fun t138_1 h_39 =>
  guardM (asG t137_1 false) false (fun k_29 => pop P (Instr.fieldAt 32 g5_1 0) fun t139_1 =>
  k_29 t139_1 h_39) h_39 fun t139_2 h_40 =>
  guardM (asG t137_1 false) false (fun k_30 => rop P (Instr.loadAt 22 t139_2) h_40 fun t140_1 =>
  k_30 t140_1 h_40) h_40 fun t140_2 h_41 =>
  guardM (asG t137_1 false) false (fun k_31 => pop P (lenS 22 3 t140_2) fun t141_1 =>
  k_31 t141_1 h_41) h_41 fun t141_2 h_42 =>
  guardM (asG t137_1 false) false (fun k_32 => pop P (binA .geq 3 t138_1 t141_2) fun t142_1 =>
  k_32 t142_1 h_42) h_42 fun t142_2 h_43 =>
  guardM (asG t71_1 true) true (fun k_33 => pop P (pickS t137_1 (Value.bool true) t142_2) fun t143_1 =>
  k_33 t143_1 h_43) h_43 fun t143_2 h_44 =>
  guardM (asG t71_1 true) true (fun k_34 => k_34 t143_2 h_44) h_44 fun t144_1 h_45 =>
  guardM (asG t144_1 false) false (fun k_35 => k_35 t70_1 h_45) h_45 fun t145_1 h_46 =>
  guardM (asG t144_1 false) false (fun k_36 => pop P (binE .eql 3 (.tmp 145) (.const (Value.int IntKind.i64 0)) t145_1 (Value.int IntKind.i64 0)) fun t146_1 =>
  k_36 t146_1 h_46) h_46 fun t146_2 h_47 =>
  guardM (asG t144_1 false) false (fun k_37 => k_37 t63_1 h_47) h_47 fun t147_1 h_48 =>
  guardM (asG t144_1 false) false (fun k_38 => k_38 t64_1 h_48) h_48 fun t148_1 h_49 =>
  guardM (asG t144_1 false) false (fun k_39 => pop P (binE .eql 3 (.tmp 147) (.tmp 148) t147_1 t148_1) fun t149_1 =>
  k_39 t149_1 h_49) h_49 fun t149_2 h_50 =>
  guardM (asG t144_1 false) false (fun k_40 => pop P (binE .neq 4 (.tmp 146) (.tmp 149) t146_2 t149_2) fun t150_1 =>
  k_40 t150_1 h_50) h_50 fun t150_2 h_51 =>
  guardM (asG t71_1 true) true (fun k_41 => pop P (pickS t144_1 (Value.bool true) t150_2) fun t151_1 =>
  k_41 t151_1 h_51) h_51 fun t151_2 h_52 =>
  pop P (pickS t71_1 t151_2 (Value.bool false)) fun t152_1 =>
  condM t152_1
  (K (Value.bool false) h_52)
  (callM P 32 #[more1_1] h_52 fun t154_1 h_53 =>
  eop P (Instr.alloc 32 true (.tuple #[])) h_53 fun h16_1 h_54 =>
  uop P (Instr.storeAt 32 h16_1 t154_1) h_54 fun u_2 h_55 =>
  rop P (Instr.loadAt 32 h16_1) h_55 fun t156_1 =>
  callM P 33 #[t156_1] h_55 fun t157_1 h_56 =>
  pop P (Instr.extract t157_1 0) fun t158_1 =>
  pop P (Instr.extract t157_1 1) fun t159_1 =>
  rop P (Instr.loadAt 32 h16_1) h_56 fun t161_1 =>
  callM P 34 #[t161_1] h_56 fun t162_1 h_57 =>
  pop P (Instr.extract t162_1 0) fun t163_1 =>
  pop P (Instr.extract t162_1 1) fun t164_1 =>
  rop P (Instr.loadAt 32 h16_1) h_57 fun t166_1 =>
  callM P 35 #[t166_1] h_57 fun t167_1 h_58 =>
  pop P (Instr.extract t167_1 0) fun t168_1 =>
  pop P (Instr.extract t167_1 1) fun t169_1 =>
  rop P (Instr.loadAt 32 h16_1) h_58 fun t171_1 =>
  callM P 36 #[t171_1] h_58 fun t172_1 h_59 =>
  pop P (Instr.extract t172_1 0) fun t173_1 =>
  pop P (Instr.extract t172_1 1) fun t174_1 =>
  pop P (binE .neq 4 (.tmp 175) (.tmp 176) t159_1 t164_1) fun t177_1 =>
  guardM (asG t177_1 false) false (fun k_42 => k_42 t158_1 h_59) h_59 fun t179_1 h_60 =>
  guardM (asG t177_1 false) false (fun k_43 => k_43 t163_1 h_60) h_60 fun t180_1 h_61 =>
  guardM (asG t177_1 false) false (fun k_44 => callM P 37 #[t179_1, t180_1] h_61 fun t181_1 h_62 =>
  k_44 t181_1 h_62) h_61 fun t181_2 h_63 =>
  guardM (asG t177_1 false) false (fun k_45 => pop P (Op.unary .not t181_2) fun t182_1 =>
  k_45 t182_1 h_63) h_63 fun t182_2 h_64 =>
  pop P (pickS t177_1 (Value.bool true) t182_2) fun t183_1 =>
  guardM (asG t183_1 false) false (fun k_46 => k_46 t169_1 h_64) h_64 fun t185_1 h_65 =>
  guardM (asG t183_1 false) false (fun k_47 => k_47 t174_1 h_65) h_65 fun t186_1 h_66 =>
  guardM (asG t183_1 false) false (fun k_48 => pop P (binE .neq 4 (.tmp 185) (.tmp 186) t185_1 t186_1) fun t187_1 =>
  k_48 t187_1 h_66) h_66 fun t187_2 h_67 =>
  pop P (pickS t183_1 (Value.bool true) t187_2) fun t188_1 =>
  guardM (asG t188_1 false) false (fun k_49 => k_49 t168_1 h_67) h_67 fun t190_1 h_68 =>
  guardM (asG t188_1 false) false (fun k_50 => k_50 t173_1 h_68) h_68 fun t191_1 h_69 =>
  guardM (asG t188_1 false) false (fun k_51 => pop P (binE .neq 4 (.tmp 190) (.tmp 191) t190_1 t191_1) fun t192_1 =>
  k_51 t192_1 h_69) h_69 fun t192_2 h_70 =>
  pop P (pickS t188_1 (Value.bool true) t192_2) fun t193_1 =>
  guardM (asG t193_1 false) false (fun k_52 => k_52 t169_1 h_70) h_70 fun t195_1 h_71 =>
  guardM (asG t193_1 false) false (fun k_53 => k_53 t159_1 h_71) h_71 fun t196_1 h_72 =>
  guardM (asG t193_1 false) false (fun k_54 => pop P (binE .neq 4 (.tmp 195) (.tmp 196) t195_1 t196_1) fun t197_1 =>
  k_54 t197_1 h_72) h_72 fun t197_2 h_73 =>
  pop P (pickS t193_1 (Value.bool true) t197_2) fun t198_1 =>
  condM t198_1
  (K (Value.bool false) h_73)
  (∃ J_1 : List Value → Heap → Prop, (condM t159_1
  (pop P (lenS 22 3 t158_1) fun t201_1 =>
  ∃ (I_1 : List Value → Heap → Prop) (μ_1 : List Value → Heap → Nat), I_1 [(Value.int IntKind.i64 0), (Value.int IntKind.i64 0)] h_73 ∧
  ∀ (junk_1 : Nat → Value) (count25_1 : Value) (t202_1 : Value) (h_74 : Heap), I_1 [count25_1, t202_1] h_74 →
  pop P (binA .lss 3 t202_1 t201_1) fun t203_1 =>
  condM t203_1
  (pop P (Instr.indexAt 22 t158_1 t202_1) fun t205_1 =>
  rop P (Instr.loadAt 27 t205_1) h_74 fun t206_1 =>
  pop P (lenS 27 3 t206_1) fun t209_1 =>
  pop P (binA .add 3 count25_1 t209_1) fun t210_1 =>
  pop P (binA .gtr 3 t202_1 (Value.int IntKind.i64 0)) fun t212_1 =>
  guardM (asG t212_1 true) true (fun k_55 => k_55 t158_1 h_74) h_74 fun t214_1 h_75 =>
  guardM (asG t212_1 true) true (fun k_56 => k_56 t202_1 h_75) h_75 fun t215_1 h_76 =>
  guardM (asG t212_1 true) true (fun k_57 => pop P (binA .sub 3 t215_1 (Value.int IntKind.i64 1)) fun t216_1 =>
  k_57 t216_1 h_76) h_76 fun t216_2 h_77 =>
  guardM (asG t212_1 true) true (fun k_58 => pop P (Instr.indexAt 22 t214_1 t216_2) fun t217_1 =>
  k_58 t217_1 h_77) h_77 fun t217_2 h_78 =>
  guardM (asG t212_1 true) true (fun k_59 => rop P (Instr.loadAt 27 t217_2) h_78 fun t218_1 =>
  k_59 t218_1 h_78) h_78 fun t218_2 h_79 =>
  guardM (asG t212_1 true) true (fun k_60 => pop P (Instr.indexAt 27 t218_2 (Value.int IntKind.i64 0)) fun t219_1 =>
  k_60 t219_1 h_79) h_79 fun t219_2 h_80 =>
  guardM (asG t212_1 true) true (fun k_61 => rop P (Instr.loadAt 3 t219_2) h_80 fun t220_1 =>
  k_61 t220_1 h_80) h_80 fun t220_2 h_81 =>
  guardM (asG t212_1 true) true (fun k_62 => k_62 t206_1 h_81) h_81 fun t221_1 h_82 =>
  guardM (asG t212_1 true) true (fun k_63 => pop P (Instr.indexAt 27 t221_1 (Value.int IntKind.i64 0)) fun t222_1 =>
  k_63 t222_1 h_82) h_82 fun t222_2 h_83 =>
  guardM (asG t212_1 true) true (fun k_64 => rop P (Instr.loadAt 3 t222_2) h_83 fun t223_1 =>
  k_64 t223_1 h_83) h_83 fun t223_2 h_84 =>
  guardM (asG t212_1 true) true (fun k_65 => pop P (binA .geq 3 t220_2 t223_2) fun t224_1 =>
  k_65 t224_1 h_84) h_84 fun t224_2 h_85 =>
  pop P (pickS t212_1 t224_2 (Value.bool false)) fun t225_1 =>
  condM t225_1
  (K (Value.bool false) h_85)
  (pop P (lenS 27 3 t206_1) fun t227_1 =>
  ∃ (I_2 : List Value → Heap → Prop) (μ_2 : List Value → Heap → Nat), I_2 [(Value.int IntKind.i64 0)] h_85 ∧
  ∀ (junk_2 : Nat → Value) (t228_1 : Value) (h_86 : Heap), I_2 [t228_1] h_86 →
  pop P (binA .lss 3 t228_1 t227_1) fun t229_1 =>
  condM t229_1
  (pop P (Instr.indexAt 27 t206_1 t228_1) fun t230_1 =>
  rop P (Instr.loadAt 3 t230_1) h_86 fun t231_1 =>
  pop P (lenS 27 3 t206_1) fun t233_1 =>
  ∃ (I_3 : List Value → Heap → Prop) (μ_3 : List Value → Heap → Nat), I_3 [(Value.int IntKind.i64 0)] h_86 ∧
  ∀ (junk_3 : Nat → Value) (t234_1 : Value) (h_87 : Heap), I_3 [t234_1] h_87 →
  pop P (binA .lss 3 t234_1 t233_1) fun t235_1 =>
  condM t235_1
  (pop P (Instr.indexAt 27 t206_1 t234_1) fun t236_1 =>
  rop P (Instr.loadAt 3 t236_1) h_87 fun t237_1 =>
  rop P (Instr.loadAt 32 h16_1) h_87 fun t239_1 =>
  callM P 25 #[t239_1, t231_1, t237_1] h_87 fun t242_1 h_88 =>
  pop P (Instr.extract t242_1 0) fun t243_1 =>
  pop P (Instr.extract t242_1 1) fun t244_1 =>
  pop P (Op.unary .not t244_1) fun t246_1 =>
  condM t246_1
  (K (Value.bool false) h_88)
  (pop P (binA .add 3 t234_1 (Value.int IntKind.i64 1)) fun t247_1 =>
  I_3 [t247_1] h_88 ∧ μ_3 [t247_1] h_88 < μ_3 [t234_1] h_87))
  (pop P (binA .add 3 t228_1 (Value.int IntKind.i64 1)) fun t248_1 =>
  I_2 [t248_1] h_87 ∧ μ_2 [t248_1] h_87 < μ_2 [t228_1] h_86))
  (pop P (binA .add 3 t202_1 (Value.int IntKind.i64 1)) fun t249_1 =>
  I_1 [t210_1, t249_1] h_86 ∧ μ_1 [t210_1, t249_1] h_86 < μ_1 [count25_1, t202_1] h_74)))
  (pop P (Instr.fieldAt 32 h16_1 0) fun t251_1 =>
  rop P (Instr.loadAt 22 t251_1) h_74 fun t252_1 =>
  pop P (lenS 22 3 t252_1) fun t253_1 =>
  pop P (binE .neq 3 (.tmp 250) (.tmp 253) count25_1 t253_1) fun t254_1 =>
  guardM (asG t254_1 false) false (fun k_66 => k_66 t168_1 h_74) h_74 fun t256_1 h_89 =>
  guardM (asG t254_1 false) false (fun k_67 => k_67 t158_1 h_89) h_89 fun t257_1 h_90 =>
  guardM (asG t254_1 false) false (fun k_68 => pop P (lenS 22 3 t257_1) fun t258_1 =>
  k_68 t258_1 h_90) h_90 fun t258_2 h_91 =>
  guardM (asG t254_1 false) false (fun k_69 => pop P (binE .eql 3 (.tmp 258) (.const (Value.int IntKind.i64 1)) t258_2 (Value.int IntKind.i64 1)) fun t259_1 =>
  k_69 t259_1 h_91) h_91 fun t259_2 h_92 =>
  guardM (asG t254_1 false) false (fun k_70 => pop P (binE .neq 4 (.tmp 256) (.tmp 259) t256_1 t259_2) fun t260_1 =>
  k_70 t260_1 h_92) h_92 fun t260_2 h_93 =>
  pop P (pickS t254_1 (Value.bool true) t260_2) fun t261_1 =>
  condM t261_1
  (K (Value.bool false) h_93)
  (J_1 [] h_93)))
  (J_1 [] h_73)) ∧
  ∀ (junk_4 : Nat → Value) (h_94 : Heap), J_1 [] h_94 →
  callM P 38 #[more1_1] h_94 fun t264_1 h_95 =>
  pop P (Instr.extract t264_1 0) fun t265_1 =>
  pop P (Instr.extract t264_1 1) fun t266_1 =>
  eop P (Instr.alloc 32 true (.tuple #[])) h_95 fun x34_1 h_96 =>
  uop P (Instr.storeAt 32 x34_1 t265_1) h_96 fun u_3 h_97 =>
  rop P (Instr.loadAt 32 x34_1) h_97 fun t268_1 =>
  callM P 39 #[t268_1, t266_1] h_97 fun t270_1 h_98 =>
  pop P (Instr.extract t270_1 0) fun t271_1 =>
  pop P (Instr.extract t270_1 1) fun t272_1 =>
  eop P (Instr.alloc 32 true (.tuple #[])) h_98 fun renamed36_1 h_99 =>
  uop P (Instr.storeAt 32 renamed36_1 t271_1) h_99 fun u_4 h_100 =>
  rop P (Instr.loadAt 32 x34_1) h_100 fun t274_1 =>
  callM P 40 #[t274_1, t266_1] h_100 fun t276_1 h_101 =>
  pop P (Instr.extract t276_1 0) fun t277_1 =>
  pop P (Instr.extract t276_1 1) fun t278_1 =>
  eop P (Instr.alloc 32 true (.tuple #[])) h_101 fun list38_1 h_102 =>
  uop P (Instr.storeAt 32 list38_1 t277_1) h_102 fun u_5 h_103 =>
  pop P (binE .neq 4 (.tmp 279) (.tmp 280) t272_1 t278_1) fun t281_1 =>
  guardM (asG t281_1 false) false (fun k_71 => rop P (Instr.loadAt 32 renamed36_1) h_103 fun t283_1 =>
  k_71 t283_1 h_103) h_103 fun t283_2 h_104 =>
  guardM (asG t281_1 false) false (fun k_72 => rop P (Instr.loadAt 32 list38_1) h_104 fun t284_1 =>
  k_72 t284_1 h_104) h_104 fun t284_2 h_105 =>
  guardM (asG t281_1 false) false (fun k_73 => callM P 41 #[t283_2, t284_2] h_105 fun t285_1 h_106 =>
  k_73 t285_1 h_106) h_105 fun t285_2 h_107 =>
  guardM (asG t281_1 false) false (fun k_74 => pop P (Op.unary .not t285_2) fun t286_1 =>
  k_74 t286_1 h_107) h_107 fun t286_2 h_108 =>
  pop P (pickS t281_1 (Value.bool true) t286_2) fun t287_1 =>
  condM t287_1
  (K (Value.bool false) h_108)
  (∃ J_2 : List Value → Heap → Prop, (condM t272_1
  (pop P (Instr.fieldAt 32 x34_1 0) fun t289_1 =>
  rop P (Instr.loadAt 22 t289_1) h_108 fun t290_1 =>
  pop P (lenS 22 3 t290_1) fun t291_1 =>
  ∃ (I_4 : List Value → Heap → Prop) (μ_4 : List Value → Heap → Nat), I_4 [(Value.int IntKind.i64 0)] h_108 ∧
  ∀ (junk_5 : Nat → Value) (t292_1 : Value) (h_109 : Heap), I_4 [t292_1] h_109 →
  pop P (binA .lss 3 t292_1 t291_1) fun t293_1 =>
  condM t293_1
  (pop P (Instr.fieldAt 32 x34_1 0) fun t295_1 =>
  rop P (Instr.loadAt 22 t295_1) h_109 fun t296_1 =>
  pop P (lenS 22 3 t296_1) fun t297_1 =>
  ∃ (I_5 : List Value → Heap → Prop) (μ_5 : List Value → Heap → Nat), I_5 [(Value.int IntKind.i64 0)] h_109 ∧
  ∀ (junk_6 : Nat → Value) (t298_1 : Value) (h_110 : Heap), I_5 [t298_1] h_110 →
  pop P (binA .lss 3 t298_1 t297_1) fun t299_1 =>
  condM t299_1
  (rop P (Instr.loadAt 32 x34_1) h_110 fun t302_1 =>
  callM P 25 #[t302_1, t292_1, t298_1] h_110 fun t305_1 h_111 =>
  pop P (Instr.extract t305_1 0) fun t306_1 =>
  pop P (Instr.extract t305_1 1) fun t307_1 =>
  rop P (Instr.loadAt 32 renamed36_1) h_111 fun t309_1 =>
  pop P (Instr.indexAt 27 t266_1 t292_1) fun t312_1 =>
  rop P (Instr.loadAt 3 t312_1) h_111 fun t313_1 =>
  pop P (Instr.indexAt 27 t266_1 t298_1) fun t316_1 =>
  rop P (Instr.loadAt 3 t316_1) h_111 fun t317_1 =>
  callM P 25 #[t309_1, t313_1, t317_1] h_111 fun t318_1 h_112 =>
  pop P (Instr.extract t318_1 0) fun t319_1 =>
  pop P (Instr.extract t318_1 1) fun t320_1 =>
  pop P (binE .neq 4 (.tmp 321) (.tmp 322) t307_1 t320_1) fun t323_1 =>
  guardM (asG t323_1 false) false (fun k_75 => k_75 t306_1 h_112) h_112 fun t325_1 h_113 =>
  guardM (asG t323_1 false) false (fun k_76 => k_76 t319_1 h_113) h_113 fun t326_1 h_114 =>
  guardM (asG t323_1 false) false (fun k_77 => pop P (binE .neq 3 (.tmp 325) (.tmp 326) t325_1 t326_1) fun t327_1 =>
  k_77 t327_1 h_114) h_114 fun t327_2 h_115 =>
  pop P (pickS t323_1 (Value.bool true) t327_2) fun t328_1 =>
  condM t328_1
  (K (Value.bool false) h_115)
  (pop P (binA .add 3 t298_1 (Value.int IntKind.i64 1)) fun t329_1 =>
  I_5 [t329_1] h_115 ∧ μ_5 [t329_1] h_115 < μ_5 [t298_1] h_110))
  (pop P (binA .add 3 t292_1 (Value.int IntKind.i64 1)) fun t330_1 =>
  I_4 [t330_1] h_110 ∧ μ_4 [t330_1] h_110 < μ_4 [t292_1] h_109))
  (J_2 [] h_109))
  (J_2 [] h_108)) ∧
  ∀ (junk_7 : Nat → Value) (h_116 : Heap), J_2 [] h_116 →
  callM P 42 #[more1_1] h_116 fun t333_1 h_117 =>
  pop P (Instr.extract t333_1 0) fun t334_1 =>
  pop P (Instr.extract t333_1 1) fun t335_1 =>
  eop P (Instr.alloc 32 true (.tuple #[])) h_117 fun y46_1 h_118 =>
  uop P (Instr.storeAt 32 y46_1 t334_1) h_118 fun u_6 h_119 =>
  rop P (Instr.loadAt 32 y46_1) h_119 fun t337_1 =>
  callM P 43 #[t337_1, t335_1] h_119 fun t339_1 h_120 =>
  pop P (Instr.extract t339_1 0) fun t340_1 =>
  pop P (Instr.extract t339_1 1) fun t341_1 =>
  rop P (Instr.loadAt 32 y46_1) h_120 fun t343_1 =>
  callM P 44 #[t343_1, t335_1] h_120 fun t345_1 h_121 =>
  pop P (Instr.extract t345_1 0) fun t346_1 =>
  pop P (Instr.extract t345_1 1) fun t347_1 =>
  pop P (binE .neq 4 (.tmp 348) (.tmp 349) t341_1 t347_1) fun t350_1 =>
  guardM (asG t350_1 false) false (fun k_78 => k_78 t340_1 h_121) h_121 fun t352_1 h_122 =>
  guardM (asG t350_1 false) false (fun k_79 => k_79 t346_1 h_122) h_122 fun t353_1 h_123 =>
  guardM (asG t350_1 false) false (fun k_80 => pop P (binE .neq 4 (.tmp 352) (.tmp 353) t352_1 t353_1) fun t354_1 =>
  k_80 t354_1 h_123) h_123 fun t354_2 h_124 =>
  pop P (pickS t350_1 (Value.bool true) t354_2) fun t355_1 =>
  condM t355_1
  (K (Value.bool false) h_124)
  (condM t341_1
  (pop P (Instr.fieldAt 32 y46_1 0) fun t357_1 =>
  rop P (Instr.loadAt 22 t357_1) h_124 fun t358_1 =>
  pop P (lenS 22 3 t358_1) fun t359_1 =>
  ∃ (I_6 : List Value → Heap → Prop) (μ_6 : List Value → Heap → Nat), I_6 [(Value.bool true), (Value.int IntKind.i64 0)] h_124 ∧
  ∀ (junk_8 : Nat → Value) (all52_1 : Value) (t360_1 : Value) (h_125 : Heap), I_6 [all52_1, t360_1] h_125 →
  pop P (binA .lss 3 t360_1 t359_1) fun t361_1 =>
  condM t361_1
  (rop P (Instr.loadAt 32 y46_1) h_125 fun t364_1 =>
  callM P 25 #[t364_1, t360_1, t335_1] h_125 fun t367_1 h_126 =>
  pop P (Instr.extract t367_1 0) fun t368_1 =>
  pop P (Instr.extract t367_1 1) fun t369_1 =>
  guardM (asG all52_1 true) true (fun k_81 => k_81 t369_1 h_126) h_126 fun t372_1 h_127 =>
  pop P (pickS all52_1 t372_1 (Value.bool false)) fun t373_1 =>
  pop P (binA .add 3 t360_1 (Value.int IntKind.i64 1)) fun t374_1 =>
  I_6 [t373_1, t374_1] h_127 ∧ μ_6 [t373_1, t374_1] h_127 < μ_6 [all52_1, t360_1] h_125)
  (pop P (binE .eql 4 (.tmp 375) (.tmp 376) all52_1 t340_1) fun t377_1 =>
  K t377_1 h_125))
  (K (Value.bool true) h_124))))))))
theorem e5 (code0_1 : Value) (more1_1 : Value) (h : Heap) (K : Value → Heap → Prop) : wpA Try.prog 378 (anOf [(131071, []), (4194303, []), (16777130, [25, 202]), (134217706, [292]), (17179781534, [228]), (17179869098, [52, 360]), (34359732838, [298]), (4398024072806, [234])]) (bodyOf Try.f5) 1 (fun A h => resA Try.prog A h K [.tmp 4]) (fun _ _ _ => False) (fun A h => resA Try.prog A h K [.tmp 4]) (aargs [code0_1, more1_1] 0) h = t5 Try.prog code0_1 more1_1 h K := by kernel_rfl
theorem c5 (code0_1 : Value) (more1_1 : Value) (h : Heap) (K : Value → Heap → Prop) (H : t5 Try.prog code0_1 more1_1 h K) : callM Try.prog 5 #[code0_1, more1_1] h K :=
  callM_of_wpA mixed (fn := Try.f5) Try.func5 (c := bodyOf Try.f5) rfl (of_decide_eq_true (by kernel_rfl)) (anOf [(131071, []), (4194303, []), (16777130, [25, 202]), (134217706, [292]), (17179781534, [228]), (17179869098, [52, 360]), (34359732838, [298]), (4398024072806, [234])]) 376 378 (by kernel_rfl) rfl [.tmp 4] (by kernel_rfl) (args := [code0_1, more1_1]) (by rw [e5]; exact H)
def t23 (P : Program) (code0_1 : Value) (more1_1 : Value) (h : Heap) (K : Value → Heap → Prop) : Prop :=
  pop P (lenS 46 3 code0_1) fun t6_1 =>
  pop P (binA .gtr 3 t6_1 (Value.int IntKind.i64 1048576)) fun t7_1 =>
  guardM (asG t7_1 false) false (fun k_1 => k_1 more1_1 h) h fun t9_1 h_1 =>
  guardM (asG t7_1 false) false (fun k_2 => pop P (lenS 46 3 t9_1) fun t10_1 =>
  k_2 t10_1 h_1) h_1 fun t10_2 h_2 =>
  guardM (asG t7_1 false) false (fun k_3 => k_3 code0_1 h_2) h_2 fun t11_1 h_3 =>
  guardM (asG t7_1 false) false (fun k_4 => pop P (lenS 46 3 t11_1) fun t12_1 =>
  k_4 t12_1 h_3) h_3 fun t12_2 h_4 =>
  guardM (asG t7_1 false) false (fun k_5 => pop P (binA .sub 3 (Value.int IntKind.i64 1048576) t12_2) fun t13_1 =>
  k_5 t13_1 h_4) h_4 fun t13_2 h_5 =>
  guardM (asG t7_1 false) false (fun k_6 => pop P (binA .gtr 3 t10_2 t13_2) fun t14_1 =>
  k_6 t14_1 h_5) h_5 fun t14_2 h_6 =>
  pop P (pickS t7_1 (Value.bool true) t14_2) fun t15_1 =>
  K t15_1 h_6
theorem e23 (code0_1 : Value) (more1_1 : Value) (h : Heap) (K : Value → Heap → Prop) : wpA Try.prog 16 (anOf []) (bodyOf Try.f23) 1 (fun A h => resA Try.prog A h K [.tmp 4]) (fun _ _ _ => False) (fun A h => resA Try.prog A h K [.tmp 4]) (aargs [code0_1, more1_1] 0) h = t23 Try.prog code0_1 more1_1 h K := by kernel_rfl
theorem c23 (code0_1 : Value) (more1_1 : Value) (h : Heap) (K : Value → Heap → Prop) (H : t23 Try.prog code0_1 more1_1 h K) : callM Try.prog 23 #[code0_1, more1_1] h K :=
  callM_of_wpA mixed (fn := Try.f23) Try.func23 (c := bodyOf Try.f23) rfl (of_decide_eq_true (by kernel_rfl)) (anOf []) 14 16 (by kernel_rfl) rfl [.tmp 4] (by kernel_rfl) (args := [code0_1, more1_1]) (by rw [e23]; exact H)
def t24 (P : Program) (code0_1 : Value) (h : Heap) (K : Value → Heap → Prop) : Prop :=
  eop P (Instr.alloc 32 true (.tuple #[])) h fun t2_1 h_1 =>
  pop P (Instr.build 86 #[(0, code0_1)]) fun t8_1 =>
  eop P (Instr.box 86 t8_1) h_1 fun t9_1 h_2 =>
  callM P 63 #[t9_1] h_2 fun t11_1 h_3 =>
  eop P (Instr.alloc 32 true (.tuple #[])) h_3 fun g6_1 h_4 =>
  uop P (Instr.storeAt 32 g6_1 t11_1) h_4 fun u_1 h_5 =>
  rop P (Instr.loadAt 32 g6_1) h_5 fun t12_1 =>
  rop P (Instr.loadAt 32 g6_1) h_5 fun t14_1 =>
  rop P (Instr.loadAt 32 g6_1) h_5 fun t17_1 =>
  callM P 64 #[t9_1, t14_1] h_5 fun t15_1 h_6 =>
  (∀ w : World, w.heap = h_6 → (Instr.loadAt 32 g6_1).run P w = .ok t17_1 w) ∧
  (∀ w : World, w.heap = h_6 → (Instr.loadAt 32 g6_1).run P w = .ok t12_1 w) ∧
  callM P 64 #[t9_1, t17_1] h_6 fun t18_1 h_7 =>
  (∀ w : World, w.heap = h_7 → (Instr.loadAt 32 g6_1).run P w = .ok t12_1 w) ∧
  uop P (Instr.storeAt 32 t2_1 t12_1) h_7 fun u_2 h_8 =>
  rop P (Instr.loadAt 32 t2_1) h_8 fun r_1 =>
  K (.tuple #[r_1, t15_1, t18_1]) h_8
theorem e24 (code0_1 : Value) (h : Heap) (K : Value → Heap → Prop) : wpA Try.prog 19 (anOf []) (bodyOf Try.f24) 1 (fun A h => resA Try.prog A h K [.cell 2 32, .tmp 3, .tmp 4]) (fun _ _ _ => False) (fun A h => resA Try.prog A h K [.cell 2 32, .tmp 3, .tmp 4]) (aargs [code0_1] 0) h = t24 Try.prog code0_1 h K := by kernel_rfl
theorem c24 (code0_1 : Value) (h : Heap) (K : Value → Heap → Prop) (H : t24 Try.prog code0_1 h K) : callM Try.prog 24 #[code0_1] h K :=
  callM_of_wpA mixed (fn := Try.f24) Try.func24 (c := bodyOf Try.f24) rfl (of_decide_eq_true (by kernel_rfl)) (anOf []) 18 19 (by kernel_rfl) rfl [.cell 2 32, .tmp 3, .tmp 4] (by kernel_rfl) (args := [code0_1]) (by rw [e24]; exact H)
def t25 (P : Program) (g0_1 : Value) (p1_1 : Value) (q2_1 : Value) (h : Heap) (K : Value → Heap → Prop) : Prop :=
  eop P (Instr.box 32 g0_1) h fun g3_1 h_1 =>
  rop P (Instr.loadAt 32 g3_1) h_1 fun t8_1 =>
  eop P (Instr.buildSlice 27 2 #[(0, p1_1), (1, q2_1)]) h_1 fun t11_1 h_2 =>
  callM P 65 #[t8_1, t11_1] h_2 fun t12_1 h_3 =>
  pop P (Op.unary .not t12_1) fun t13_1 =>
  guardM (asG t13_1 false) false (fun k_1 => rop P (Instr.loadAt 32 g3_1) h_3 fun t15_1 =>
  k_1 t15_1 h_3) h_3 fun t15_2 h_4 =>
  guardM (asG t13_1 false) false (fun k_2 => k_2 p1_1 h_4) h_4 fun t16_1 h_5 =>
  guardM (asG t13_1 false) false (fun k_3 => callM P 66 #[t15_2, t16_1] h_5 fun t17_1 h_6 =>
  k_3 t17_1 h_6) h_5 fun t17_2 h_7 =>
  guardM (asG t13_1 false) false (fun k_4 => k_4 q2_1 h_7) h_7 fun t18_1 h_8 =>
  guardM (asG t13_1 false) false (fun k_5 => pop P (Instr.indexAt 27 t17_2 t18_1) fun t19_1 =>
  k_5 t19_1 h_8) h_8 fun t19_2 h_9 =>
  guardM (asG t13_1 false) false (fun k_6 => rop P (Instr.loadAt 3 t19_2) h_9 fun t20_1 =>
  k_6 t20_1 h_9) h_9 fun t20_2 h_10 =>
  guardM (asG t13_1 false) false (fun k_7 => pop P (binA .lss 3 t20_2 (Value.int IntKind.i64 0)) fun t21_1 =>
  k_7 t21_1 h_10) h_10 fun t21_2 h_11 =>
  pop P (pickS t13_1 (Value.bool true) t21_2) fun t22_1 =>
  condM t22_1
  (K (.tuple #[(Value.int IntKind.i64 0), (Value.bool false)]) h_11)
  (rop P (Instr.loadAt 32 g3_1) h_11 fun t23_1 =>
  callM P 66 #[t23_1, p1_1] h_11 fun t25_1 h_12 =>
  pop P (Instr.indexAt 27 t25_1 q2_1) fun t27_1 =>
  rop P (Instr.loadAt 3 t27_1) h_12 fun t28_1 =>
  K (.tuple #[t28_1, (Value.bool true)]) h_12)
theorem e25 (g0_1 : Value) (p1_1 : Value) (q2_1 : Value) (h : Heap) (K : Value → Heap → Prop) : wpA Try.prog 29 (anOf []) (bodyOf Try.f25) 1 (fun A h => resA Try.prog A h K [.tmp 6, .tmp 7]) (fun _ _ _ => False) (fun A h => resA Try.prog A h K [.tmp 6, .tmp 7]) (aargs [g0_1, p1_1, q2_1] 0) h = t25 Try.prog g0_1 p1_1 q2_1 h K := by kernel_rfl
theorem c25 (g0_1 : Value) (p1_1 : Value) (q2_1 : Value) (h : Heap) (K : Value → Heap → Prop) (H : t25 Try.prog g0_1 p1_1 q2_1 h K) : callM Try.prog 25 #[g0_1, p1_1, q2_1] h K :=
  callM_of_wpA mixed (fn := Try.f25) Try.func25 (c := bodyOf Try.f25) rfl (of_decide_eq_true (by kernel_rfl)) (anOf []) 26 29 (by kernel_rfl) rfl [.tmp 6, .tmp 7] (by kernel_rfl) (args := [g0_1, p1_1, q2_1]) (by rw [e25]; exact H)
def t26 (P : Program) (g0_1 : Value) (p1_1 : Value) (q2_1 : Value) (h : Heap) (K : Value → Heap → Prop) : Prop :=
  eop P (Instr.box 32 g0_1) h fun g3_1 h_1 =>
  rop P (Instr.loadAt 32 g3_1) h_1 fun t8_1 =>
  callM P 67 #[t8_1, p1_1] h_1 fun t10_1 h_2 =>
  pop P (Op.unary .not t10_1) fun t11_1 =>
  guardM (asG t11_1 false) false (fun k_1 => rop P (Instr.loadAt 32 g3_1) h_2 fun t13_1 =>
  k_1 t13_1 h_2) h_2 fun t13_2 h_3 =>
  guardM (asG t11_1 false) false (fun k_2 => k_2 q2_1 h_3) h_3 fun t14_1 h_4 =>
  guardM (asG t11_1 false) false (fun k_3 => callM P 67 #[t13_2, t14_1] h_4 fun t15_1 h_5 =>
  k_3 t15_1 h_5) h_4 fun t15_2 h_6 =>
  guardM (asG t11_1 false) false (fun k_4 => pop P (Op.unary .not t15_2) fun t16_1 =>
  k_4 t16_1 h_6) h_6 fun t16_2 h_7 =>
  pop P (pickS t11_1 (Value.bool true) t16_2) fun t17_1 =>
  guardM (asG t17_1 false) false (fun k_5 => rop P (Instr.loadAt 32 g3_1) h_7 fun t19_1 =>
  k_5 t19_1 h_7) h_7 fun t19_2 h_8 =>
  guardM (asG t17_1 false) false (fun k_6 => k_6 p1_1 h_8) h_8 fun t20_1 h_9 =>
  guardM (asG t17_1 false) false (fun k_7 => callM P 68 #[t19_2, t20_1] h_9 fun t21_1 h_10 =>
  k_7 t21_1 h_10) h_9 fun t21_2 h_11 =>
  guardM (asG t17_1 false) false (fun k_8 => k_8 q2_1 h_11) h_11 fun t22_1 h_12 =>
  guardM (asG t17_1 false) false (fun k_9 => pop P (Instr.indexAt 27 t21_2 t22_1) fun t23_1 =>
  k_9 t23_1 h_12) h_12 fun t23_2 h_13 =>
  guardM (asG t17_1 false) false (fun k_10 => rop P (Instr.loadAt 3 t23_2) h_13 fun t24_1 =>
  k_10 t24_1 h_13) h_13 fun t24_2 h_14 =>
  guardM (asG t17_1 false) false (fun k_11 => pop P (binA .lss 3 t24_2 (Value.int IntKind.i64 0)) fun t25_1 =>
  k_11 t25_1 h_14) h_14 fun t25_2 h_15 =>
  pop P (pickS t17_1 (Value.bool true) t25_2) fun t26_1 =>
  condM t26_1
  (K (.tuple #[(Value.int IntKind.i64 0), (Value.bool false)]) h_15)
  (rop P (Instr.loadAt 32 g3_1) h_15 fun t27_1 =>
  callM P 68 #[t27_1, p1_1] h_15 fun t29_1 h_16 =>
  pop P (Instr.indexAt 27 t29_1 q2_1) fun t31_1 =>
  rop P (Instr.loadAt 3 t31_1) h_16 fun t32_1 =>
  K (.tuple #[t32_1, (Value.bool true)]) h_16)
theorem e26 (g0_1 : Value) (p1_1 : Value) (q2_1 : Value) (h : Heap) (K : Value → Heap → Prop) : wpA Try.prog 33 (anOf []) (bodyOf Try.f26) 1 (fun A h => resA Try.prog A h K [.tmp 6, .tmp 7]) (fun _ _ _ => False) (fun A h => resA Try.prog A h K [.tmp 6, .tmp 7]) (aargs [g0_1, p1_1, q2_1] 0) h = t26 Try.prog g0_1 p1_1 q2_1 h K := by kernel_rfl
theorem c26 (g0_1 : Value) (p1_1 : Value) (q2_1 : Value) (h : Heap) (K : Value → Heap → Prop) (H : t26 Try.prog g0_1 p1_1 q2_1 h K) : callM Try.prog 26 #[g0_1, p1_1, q2_1] h K :=
  callM_of_wpA mixed (fn := Try.f26) Try.func26 (c := bodyOf Try.f26) rfl (of_decide_eq_true (by kernel_rfl)) (anOf []) 30 33 (by kernel_rfl) rfl [.tmp 6, .tmp 7] (by kernel_rfl) (args := [g0_1, p1_1, q2_1]) (by rw [e26]; exact H)
def t27 (P : Program) (g0_1 : Value) (p1_1 : Value) (h : Heap) (K : Value → Heap → Prop) : Prop :=
  eop P (Instr.box 32 g0_1) h fun g2_1 h_1 =>
  rop P (Instr.loadAt 32 g2_1) h_1 fun t6_1 =>
  eop P (Instr.buildSlice 27 1 #[(0, p1_1)]) h_1 fun t8_1 h_2 =>
  callM P 65 #[t6_1, t8_1] h_2 fun t9_1 h_3 =>
  pop P (Op.unary .not t9_1) fun t10_1 =>
  condM t10_1
  (K (.tuple #[(Value.slice none 0 0), (Value.bool false)]) h_3)
  (rop P (Instr.loadAt 32 g2_1) h_3 fun t11_1 =>
  callM P 69 #[t11_1, p1_1] h_3 fun t13_1 h_4 =>
  K (.tuple #[t13_1, (Value.bool true)]) h_4)
theorem e27 (g0_1 : Value) (p1_1 : Value) (h : Heap) (K : Value → Heap → Prop) : wpA Try.prog 14 (anOf []) (bodyOf Try.f27) 1 (fun A h => resA Try.prog A h K [.tmp 4, .tmp 5]) (fun _ _ _ => False) (fun A h => resA Try.prog A h K [.tmp 4, .tmp 5]) (aargs [g0_1, p1_1] 0) h = t27 Try.prog g0_1 p1_1 h K := by kernel_rfl
theorem c27 (g0_1 : Value) (p1_1 : Value) (h : Heap) (K : Value → Heap → Prop) (H : t27 Try.prog g0_1 p1_1 h K) : callM Try.prog 27 #[g0_1, p1_1] h K :=
  callM_of_wpA mixed (fn := Try.f27) Try.func27 (c := bodyOf Try.f27) rfl (of_decide_eq_true (by kernel_rfl)) (anOf []) 12 14 (by kernel_rfl) rfl [.tmp 4, .tmp 5] (by kernel_rfl) (args := [g0_1, p1_1]) (by rw [e27]; exact H)
def t28 (P : Program) (g0_1 : Value) (p1_1 : Value) (h : Heap) (K : Value → Heap → Prop) : Prop :=
  eop P (Instr.box 32 g0_1) h fun g2_1 h_1 =>
  rop P (Instr.loadAt 32 g2_1) h_1 fun t6_1 =>
  callM P 67 #[t6_1, p1_1] h_1 fun t8_1 h_2 =>
  pop P (Op.unary .not t8_1) fun t9_1 =>
  condM t9_1
  (K (.tuple #[(Value.slice none 0 0), (Value.bool false)]) h_2)
  (rop P (Instr.loadAt 32 g2_1) h_2 fun t10_1 =>
  callM P 70 #[t10_1, p1_1] h_2 fun t12_1 h_3 =>
  K (.tuple #[t12_1, (Value.bool true)]) h_3)
theorem e28 (g0_1 : Value) (p1_1 : Value) (h : Heap) (K : Value → Heap → Prop) : wpA Try.prog 13 (anOf []) (bodyOf Try.f28) 1 (fun A h => resA Try.prog A h K [.tmp 4, .tmp 5]) (fun _ _ _ => False) (fun A h => resA Try.prog A h K [.tmp 4, .tmp 5]) (aargs [g0_1, p1_1] 0) h = t28 Try.prog g0_1 p1_1 h K := by kernel_rfl
theorem c28 (g0_1 : Value) (p1_1 : Value) (h : Heap) (K : Value → Heap → Prop) (H : t28 Try.prog g0_1 p1_1 h K) : callM Try.prog 28 #[g0_1, p1_1] h K :=
  callM_of_wpA mixed (fn := Try.f28) Try.func28 (c := bodyOf Try.f28) rfl (of_decide_eq_true (by kernel_rfl)) (anOf []) 11 13 (by kernel_rfl) rfl [.tmp 4, .tmp 5] (by kernel_rfl) (args := [g0_1, p1_1]) (by rw [e28]; exact H)
def t29 (P : Program) (a0_1 : Value) (b1_1 : Value) (h : Heap) (K : Value → Heap → Prop) : Prop :=
  pop P (lenS 27 3 a0_1) fun t7_1 =>
  pop P (lenS 27 3 b1_1) fun t9_1 =>
  pop P (binE .neq 3 (.tmp 7) (.tmp 9) t7_1 t9_1) fun t10_1 =>
  condM t10_1
  (K (Value.bool false) h)
  (pop P (lenS 27 3 a0_1) fun t12_1 =>
  ∃ (I_1 : List Value → Heap → Prop) (μ_1 : List Value → Heap → Nat), I_1 [(Value.int IntKind.i64 0)] h ∧
  ∀ (junk_1 : Nat → Value) (t13_1 : Value) (h_1 : Heap), I_1 [t13_1] h_1 →
  pop P (binA .lss 3 t13_1 t12_1) fun t14_1 =>
  condM t14_1
  (pop P (Instr.indexAt 27 a0_1 t13_1) fun t18_1 =>
  rop P (Instr.loadAt 3 t18_1) h_1 fun t19_1 =>
  pop P (Instr.indexAt 27 b1_1 t13_1) fun t22_1 =>
  rop P (Instr.loadAt 3 t22_1) h_1 fun t23_1 =>
  pop P (binE .neq 3 (.tmp 19) (.tmp 23) t19_1 t23_1) fun t24_1 =>
  condM t24_1
  (K (Value.bool false) h_1)
  (pop P (binA .add 3 t13_1 (Value.int IntKind.i64 1)) fun t25_1 =>
  I_1 [t25_1] h_1 ∧ μ_1 [t25_1] h_1 < μ_1 [t13_1] h_1))
  (K (Value.bool true) h_1))
theorem e29 (a0_1 : Value) (b1_1 : Value) (h : Heap) (K : Value → Heap → Prop) : wpA Try.prog 26 (anOf [(58, [13])]) (bodyOf Try.f29) 1 (fun A h => resA Try.prog A h K [.tmp 4]) (fun _ _ _ => False) (fun A h => resA Try.prog A h K [.tmp 4]) (aargs [a0_1, b1_1] 0) h = t29 Try.prog a0_1 b1_1 h K := by kernel_rfl
theorem c29 (a0_1 : Value) (b1_1 : Value) (h : Heap) (K : Value → Heap → Prop) (H : t29 Try.prog a0_1 b1_1 h K) : callM Try.prog 29 #[a0_1, b1_1] h K :=
  callM_of_wpA mixed (fn := Try.f29) Try.func29 (c := bodyOf Try.f29) rfl (of_decide_eq_true (by kernel_rfl)) (anOf [(58, [13])]) 24 26 (by kernel_rfl) rfl [.tmp 4] (by kernel_rfl) (args := [a0_1, b1_1]) (by rw [e29]; exact H)
def t30 (P : Program) (g0_1 : Value) (h : Heap) (K : Value → Heap → Prop) : Prop :=
  eop P (Instr.box 32 g0_1) h fun g1_1 h_1 =>
  rop P (Instr.loadAt 32 g1_1) h_1 fun t3_1 =>
  callM P 56 #[t3_1] h_1 fun t4_1 h_2 =>
  K t4_1 h_2
theorem e30 (g0_1 : Value) (h : Heap) (K : Value → Heap → Prop) : wpA Try.prog 5 (anOf []) (bodyOf Try.f30) 1 (fun A h => resA Try.prog A h K [.tmp 2]) (fun _ _ _ => False) (fun A h => resA Try.prog A h K [.tmp 2]) (aargs [g0_1] 0) h = t30 Try.prog g0_1 h K := by kernel_rfl
theorem c30 (g0_1 : Value) (h : Heap) (K : Value → Heap → Prop) (H : t30 Try.prog g0_1 h K) : callM Try.prog 30 #[g0_1] h K :=
  callM_of_wpA mixed (fn := Try.f30) Try.func30 (c := bodyOf Try.f30) rfl (of_decide_eq_true (by kernel_rfl)) (anOf []) 4 5 (by kernel_rfl) rfl [.tmp 2] (by kernel_rfl) (args := [g0_1]) (by rw [e30]; exact H)
def t31 (P : Program) (a0_1 : Value) (n1_1 : Value) (h : Heap) (K : Value → Heap → Prop) : Prop :=
  pop P (lenS 27 3 a0_1) fun t8_1 =>
  ∃ (I_1 : List Value → Heap → Prop) (μ_1 : List Value → Heap → Nat), I_1 [(Value.int IntKind.i64 0)] h ∧
  ∀ (junk_1 : Nat → Value) (t9_1 : Value) (h_1 : Heap), I_1 [t9_1] h_1 →
  pop P (binA .lss 3 t9_1 t8_1) fun t10_1 =>
  condM t10_1
  (pop P (Instr.indexAt 27 a0_1 t9_1) fun t11_1 =>
  rop P (Instr.loadAt 3 t11_1) h_1 fun t12_1 =>
  pop P (binE .eql 3 (.tmp 13) (.tmp 14) t12_1 n1_1) fun t15_1 =>
  condM t15_1
  (K (Value.bool true) h_1)
  (pop P (binA .add 3 t9_1 (Value.int IntKind.i64 1)) fun t16_1 =>
  I_1 [t16_1] h_1 ∧ μ_1 [t16_1] h_1 < μ_1 [t9_1] h_1))
  (K (Value.bool false) h_1)
theorem e31 (a0_1 : Value) (n1_1 : Value) (h : Heap) (K : Value → Heap → Prop) : wpA Try.prog 17 (anOf [(26, [9])]) (bodyOf Try.f31) 1 (fun A h => resA Try.prog A h K [.tmp 4]) (fun _ _ _ => False) (fun A h => resA Try.prog A h K [.tmp 4]) (aargs [a0_1, n1_1] 0) h = t31 Try.prog a0_1 n1_1 h K := by kernel_rfl
theorem c31 (a0_1 : Value) (n1_1 : Value) (h : Heap) (K : Value → Heap → Prop) (H : t31 Try.prog a0_1 n1_1 h K) : callM Try.prog 31 #[a0_1, n1_1] h K :=
  callM_of_wpA mixed (fn := Try.f31) Try.func31 (c := bodyOf Try.f31) rfl (of_decide_eq_true (by kernel_rfl)) (anOf [(26, [9])]) 15 17 (by kernel_rfl) rfl [.tmp 4] (by kernel_rfl) (args := [a0_1, n1_1]) (by rw [e31]; exact H)
def t32 (P : Program) (code0_1 : Value) (h : Heap) (K : Value → Heap → Prop) : Prop :=
  eop P (Instr.alloc 32 true (.tuple #[])) h fun t2_1 h_1 =>
  callM P 71 #[code0_1] h_1 fun t4_1 h_2 =>
  uop P (Instr.storeAt 32 t2_1 t4_1) h_2 fun u_1 h_3 =>
  rop P (Instr.loadAt 32 t2_1) h_3 fun r_1 =>
  K r_1 h_3
theorem e32 (code0_1 : Value) (h : Heap) (K : Value → Heap → Prop) : wpA Try.prog 5 (anOf []) (bodyOf Try.f32) 1 (fun A h => resA Try.prog A h K [.cell 2 32]) (fun _ _ _ => False) (fun A h => resA Try.prog A h K [.cell 2 32]) (aargs [code0_1] 0) h = t32 Try.prog code0_1 h K := by kernel_rfl
theorem c32 (code0_1 : Value) (h : Heap) (K : Value → Heap → Prop) (H : t32 Try.prog code0_1 h K) : callM Try.prog 32 #[code0_1] h K :=
  callM_of_wpA mixed (fn := Try.f32) Try.func32 (c := bodyOf Try.f32) rfl (of_decide_eq_true (by kernel_rfl)) (anOf []) 4 5 (by kernel_rfl) rfl [.cell 2 32] (by kernel_rfl) (args := [code0_1]) (by rw [e32]; exact H)
def t33 (P : Program) (g0_1 : Value) (h : Heap) (K : Value → Heap → Prop) : Prop :=
  eop P (Instr.box 32 g0_1) h fun g1_1 h_1 =>
  rop P (Instr.loadAt 32 g1_1) h_1 fun t10_1 =>
  callM P 56 #[t10_1] h_1 fun t11_1 h_2 =>
  pop P (Op.unary .not t11_1) fun t12_1 =>
  condM t12_1
  (K (.tuple #[(Value.slice none 0 0), (Value.bool false)]) h_2)
  (∃ J_1 : List Value → Heap → Prop, (pop P (Instr.fieldAt 32 g1_1 0) fun t14_1 =>
  rop P (Instr.loadAt 22 t14_1) h_2 fun t15_1 =>
  pop P (lenS 22 3 t15_1) fun t16_1 =>
  (eop P (Instr.buildSlice 22 0 #[]) h_2 fun t13_1 h_3 =>
  (∀ w : World, w.heap = h_3 → (Instr.loadAt 22 t14_1).run P w = .ok t15_1 w) ∧
  eop P (Instr.makeSlice 93 t16_1 t16_1) h_3 fun t17_1 h_4 =>
  (∀ w : World, w.heap = h_4 → (Instr.loadAt 22 t14_1).run P w = .ok t15_1 w) ∧
  J_1 [t13_1, t17_1] h_4) ∧
  (eop P (Instr.makeSlice 93 t16_1 t16_1) h_2 fun t17_2 h_5 =>
  (∀ w : World, w.heap = h_5 → (Instr.loadAt 22 t14_1).run P w = .ok t15_1 w) ∧
  eop P (Instr.buildSlice 22 0 #[]) h_5 fun t13_2 h_6 =>
  (∀ w : World, w.heap = h_6 → (Instr.loadAt 22 t14_1).run P w = .ok t15_1 w) ∧
  J_1 [t13_2, t17_2] h_6)) ∧
  ∀ (junk_1 : Nat → Value) (out4_1 : Value) (met5_1 : Value) (h_7 : Heap), J_1 [out4_1, met5_1] h_7 →
  pop P (Instr.fieldAt 32 g1_1 0) fun t18_1 =>
  rop P (Instr.loadAt 22 t18_1) h_7 fun t19_1 =>
  pop P (lenS 22 3 t19_1) fun t20_1 =>
  ∃ (I_1 : List Value → Heap → Prop) (μ_1 : List Value → Heap → Nat), I_1 [out4_1, (Value.int IntKind.i64 0)] h_7 ∧
  ∀ (junk_2 : Nat → Value) (out4_2 : Value) (t21_1 : Value) (h_8 : Heap), I_1 [out4_2, t21_1] h_8 →
  pop P (binA .lss 3 t21_1 t20_1) fun t22_1 =>
  condM t22_1
  (pop P (Instr.indexAt 93 met5_1 t21_1) fun t26_1 =>
  rop P (Instr.loadAt 4 t26_1) h_8 fun t27_1 =>
  condM t27_1
  (pop P (binA .add 3 t21_1 (Value.int IntKind.i64 1)) fun t54_1 =>
  I_1 [out4_2, t54_1] h_8 ∧ μ_1 [out4_2, t54_1] h_8 < μ_1 [out4_2, t21_1] h_8)
  (eop P (Instr.buildSlice 27 0 #[]) h_8 fun t28_1 h_9 =>
  rop P (Instr.loadAt 32 g1_1) h_9 fun t29_1 =>
  callM P 69 #[t29_1, t21_1] h_9 fun t31_1 h_10 =>
  pop P (lenS 27 3 t31_1) fun t32_1 =>
  ∃ (I_2 : List Value → Heap → Prop) (μ_2 : List Value → Heap → Nat), I_2 [t28_1, (Value.int IntKind.i64 0)] h_10 ∧
  ∀ (junk_3 : Nat → Value) (part7_1 : Value) (t33_1 : Value) (h_11 : Heap), I_2 [part7_1, t33_1] h_11 →
  pop P (binA .lss 3 t33_1 t32_1) fun t34_1 =>
  condM t34_1
  (pop P (Instr.indexAt 27 t31_1 t33_1) fun t35_1 =>
  rop P (Instr.loadAt 3 t35_1) h_11 fun t36_1 =>
  rop P (Instr.loadAt 32 g1_1) h_11 fun t37_1 =>
  callM P 69 #[t37_1, t36_1] h_11 fun t39_1 h_12 =>
  callM P 72 #[t39_1, t21_1] h_12 fun t41_1 h_13 =>
  condM t41_1
  (eop P (Instr.buildSlice 27 1 #[(0, t36_1)]) h_13 fun t46_1 h_14 =>
  eop P (appS 27 27 27 part7_1 t46_1) h_14 fun t47_1 h_15 =>
  pop P (Instr.indexAt 93 met5_1 t36_1) fun t48_1 =>
  uop P (Instr.storeAt 4 t48_1 (Value.bool true)) h_15 fun u_1 h_16 =>
  pop P (binA .add 3 t33_1 (Value.int IntKind.i64 1)) fun t49_1 =>
  I_2 [t47_1, t49_1] h_16 ∧ μ_2 [t47_1, t49_1] h_16 < μ_2 [part7_1, t33_1] h_11)
  (pop P (binA .add 3 t33_1 (Value.int IntKind.i64 1)) fun t49_2 =>
  I_2 [part7_1, t49_2] h_13 ∧ μ_2 [part7_1, t49_2] h_13 < μ_2 [part7_1, t33_1] h_11))
  (eop P (Instr.buildSlice 22 1 #[(0, part7_1)]) h_11 fun t52_1 h_17 =>
  eop P (appS 22 22 22 out4_2 t52_1) h_17 fun t53_1 h_18 =>
  pop P (binA .add 3 t21_1 (Value.int IntKind.i64 1)) fun t54_2 =>
  I_1 [t53_1, t54_2] h_18 ∧ μ_1 [t53_1, t54_2] h_18 < μ_1 [out4_2, t21_1] h_8)))
  (K (.tuple #[out4_2, (Value.bool true)]) h_8))
theorem e33 (g0_1 : Value) (h : Heap) (K : Value → Heap → Prop) : wpA Try.prog 56 (anOf [(7, [4, 5]), (122, [4, 21]), (250682, [7, 33])]) (bodyOf Try.f33) 1 (fun A h => resA Try.prog A h K [.tmp 2, .tmp 3]) (fun _ _ _ => False) (fun A h => resA Try.prog A h K [.tmp 2, .tmp 3]) (aargs [g0_1] 0) h = t33 Try.prog g0_1 h K := by kernel_rfl
theorem c33 (g0_1 : Value) (h : Heap) (K : Value → Heap → Prop) (H : t33 Try.prog g0_1 h K) : callM Try.prog 33 #[g0_1] h K :=
  callM_of_wpA mixed (fn := Try.f33) Try.func33 (c := bodyOf Try.f33) rfl (of_decide_eq_true (by kernel_rfl)) (anOf [(7, [4, 5]), (122, [4, 21]), (250682, [7, 33])]) 55 56 (by kernel_rfl) rfl [.tmp 2, .tmp 3] (by kernel_rfl) (args := [g0_1]) (by rw [e33]; exact H)
def t34 (P : Program) (g0_1 : Value) (h : Heap) (K : Value → Heap → Prop) : Prop :=
  eop P (Instr.box 32 g0_1) h fun g1_1 h_1 =>
  rop P (Instr.loadAt 32 g1_1) h_1 fun t10_1 =>
  callM P 73 #[t10_1] h_1 fun t11_1 h_2 =>
  pop P (Op.unary .not t11_1) fun t12_1 =>
  condM t12_1
  (K (.tuple #[(Value.slice none 0 0), (Value.bool false)]) h_2)
  (pop P (Instr.fieldAt 32 g1_1 0) fun t13_1 =>
  rop P (Instr.loadAt 22 t13_1) h_2 fun t14_1 =>
  pop P (lenS 22 3 t14_1) fun t15_1 =>
  eop P (Instr.makeSlice 93 t15_1 t15_1) h_2 fun t16_1 h_3 =>
  pop P (Instr.fieldAt 32 g1_1 0) fun t17_1 =>
  rop P (Instr.loadAt 22 t17_1) h_3 fun t18_1 =>
  pop P (lenS 22 3 t18_1) fun t19_1 =>
  ∃ (I_1 : List Value → Heap → Prop) (μ_1 : List Value → Heap → Nat), I_1 [(Value.slice none 0 0), (Value.int IntKind.i64 0)] h_3 ∧
  ∀ (junk_1 : Nat → Value) (out4_1 : Value) (t20_1 : Value) (h_4 : Heap), I_1 [out4_1, t20_1] h_4 →
  pop P (binA .lss 3 t20_1 t19_1) fun t21_1 =>
  condM t21_1
  (pop P (Instr.indexAt 93 t16_1 t20_1) fun t25_1 =>
  rop P (Instr.loadAt 4 t25_1) h_4 fun t26_1 =>
  condM t26_1
  (pop P (binA .add 3 t20_1 (Value.int IntKind.i64 1)) fun t52_1 =>
  I_1 [out4_1, t52_1] h_4 ∧ μ_1 [out4_1, t52_1] h_4 < μ_1 [out4_1, t20_1] h_4)
  (rop P (Instr.loadAt 32 g1_1) h_4 fun t27_1 =>
  callM P 70 #[t27_1, t20_1] h_4 fun t29_1 h_5 =>
  pop P (lenS 27 3 t29_1) fun t30_1 =>
  ∃ (I_2 : List Value → Heap → Prop) (μ_2 : List Value → Heap → Nat), I_2 [(Value.slice none 0 0), (Value.int IntKind.i64 0)] h_5 ∧
  ∀ (junk_2 : Nat → Value) (part7_1 : Value) (t31_1 : Value) (h_6 : Heap), I_2 [part7_1, t31_1] h_6 →
  pop P (binA .lss 3 t31_1 t30_1) fun t32_1 =>
  condM t32_1
  (pop P (Instr.indexAt 27 t29_1 t31_1) fun t33_1 =>
  rop P (Instr.loadAt 3 t33_1) h_6 fun t34_1 =>
  rop P (Instr.loadAt 32 g1_1) h_6 fun t35_1 =>
  callM P 70 #[t35_1, t34_1] h_6 fun t37_1 h_7 =>
  callM P 74 #[t37_1, t20_1] h_7 fun t39_1 h_8 =>
  condM t39_1
  (eop P (Instr.buildSlice 27 1 #[(0, t34_1)]) h_8 fun t42_1 h_9 =>
  eop P (appS 27 27 27 part7_1 t42_1) h_9 fun t43_1 h_10 =>
  pop P (Instr.indexAt 93 t16_1 t34_1) fun t46_1 =>
  uop P (Instr.storeAt 4 t46_1 (Value.bool true)) h_10 fun u_1 h_11 =>
  pop P (binA .add 3 t31_1 (Value.int IntKind.i64 1)) fun t47_1 =>
  I_2 [t43_1, t47_1] h_11 ∧ μ_2 [t43_1, t47_1] h_11 < μ_2 [part7_1, t31_1] h_6)
  (pop P (binA .add 3 t31_1 (Value.int IntKind.i64 1)) fun t47_2 =>
  I_2 [part7_1, t47_2] h_8 ∧ μ_2 [part7_1, t47_2] h_8 < μ_2 [part7_1, t31_1] h_6))
  (eop P (Instr.buildSlice 22 1 #[(0, part7_1)]) h_6 fun t50_1 h_12 =>
  eop P (appS 22 22 22 out4_1 t50_1) h_12 fun t51_1 h_13 =>
  pop P (binA .add 3 t20_1 (Value.int IntKind.i64 1)) fun t52_2 =>
  I_1 [t51_1, t52_2] h_13 ∧ μ_1 [t51_1, t52_2] h_13 < μ_1 [out4_1, t20_1] h_4)))
  (K (.tuple #[out4_1, (Value.bool true)]) h_4))
theorem e34 (g0_1 : Value) (h : Heap) (K : Value → Heap → Prop) : wpA Try.prog 54 (anOf [(250, [4, 20]), (512826, [7, 31])]) (bodyOf Try.f34) 1 (fun A h => resA Try.prog A h K [.tmp 2, .tmp 3]) (fun _ _ _ => False) (fun A h => resA Try.prog A h K [.tmp 2, .tmp 3]) (aargs [g0_1] 0) h = t34 Try.prog g0_1 h K := by kernel_rfl
theorem c34 (g0_1 : Value) (h : Heap) (K : Value → Heap → Prop) (H : t34 Try.prog g0_1 h K) : callM Try.prog 34 #[g0_1] h K :=
  callM_of_wpA mixed (fn := Try.f34) Try.func34 (c := bodyOf Try.f34) rfl (of_decide_eq_true (by kernel_rfl)) (anOf [(250, [4, 20]), (512826, [7, 31])]) 53 54 (by kernel_rfl) rfl [.tmp 2, .tmp 3] (by kernel_rfl) (args := [g0_1]) (by rw [e34]; exact H)
def t35 (P : Program) (g0_1 : Value) (h : Heap) (K : Value → Heap → Prop) : Prop :=
  eop P (Instr.box 32 g0_1) h fun g1_1 h_1 =>
  rop P (Instr.loadAt 32 g1_1) h_1 fun t4_1 =>
  callM P 56 #[t4_1] h_1 fun t5_1 h_2 =>
  pop P (Op.unary .not t5_1) fun t6_1 =>
  condM t6_1
  (K (.tuple #[(Value.bool false), (Value.bool false)]) h_2)
  (rop P (Instr.loadAt 32 g1_1) h_2 fun t7_1 =>
  callM P 75 #[t7_1] h_2 fun t8_1 h_3 =>
  K (.tuple #[t8_1, (Value.bool true)]) h_3)
theorem e35 (g0_1 : Value) (h : Heap) (K : Value → Heap → Prop) : wpA Try.prog 9 (anOf []) (bodyOf Try.f35) 1 (fun A h => resA Try.prog A h K [.tmp 2, .tmp 3]) (fun _ _ _ => False) (fun A h => resA Try.prog A h K [.tmp 2, .tmp 3]) (aargs [g0_1] 0) h = t35 Try.prog g0_1 h K := by kernel_rfl
theorem c35 (g0_1 : Value) (h : Heap) (K : Value → Heap → Prop) (H : t35 Try.prog g0_1 h K) : callM Try.prog 35 #[g0_1] h K :=
  callM_of_wpA mixed (fn := Try.f35) Try.func35 (c := bodyOf Try.f35) rfl (of_decide_eq_true (by kernel_rfl)) (anOf []) 8 9 (by kernel_rfl) rfl [.tmp 2, .tmp 3] (by kernel_rfl) (args := [g0_1]) (by rw [e35]; exact H)
def t36 (P : Program) (g0_1 : Value) (h : Heap) (K : Value → Heap → Prop) : Prop :=
  eop P (Instr.box 32 g0_1) h fun g1_1 h_1 =>
  rop P (Instr.loadAt 32 g1_1) h_1 fun t4_1 =>
  callM P 73 #[t4_1] h_1 fun t5_1 h_2 =>
  pop P (Op.unary .not t5_1) fun t6_1 =>
  condM t6_1
  (K (.tuple #[(Value.bool false), (Value.bool false)]) h_2)
  (rop P (Instr.loadAt 32 g1_1) h_2 fun t7_1 =>
  callM P 76 #[t7_1] h_2 fun t8_1 h_3 =>
  K (.tuple #[t8_1, (Value.bool true)]) h_3)
theorem e36 (g0_1 : Value) (h : Heap) (K : Value → Heap → Prop) : wpA Try.prog 9 (anOf []) (bodyOf Try.f36) 1 (fun A h => resA Try.prog A h K [.tmp 2, .tmp 3]) (fun _ _ _ => False) (fun A h => resA Try.prog A h K [.tmp 2, .tmp 3]) (aargs [g0_1] 0) h = t36 Try.prog g0_1 h K := by kernel_rfl
theorem c36 (g0_1 : Value) (h : Heap) (K : Value → Heap → Prop) (H : t36 Try.prog g0_1 h K) : callM Try.prog 36 #[g0_1] h K :=
  callM_of_wpA mixed (fn := Try.f36) Try.func36 (c := bodyOf Try.f36) rfl (of_decide_eq_true (by kernel_rfl)) (anOf []) 8 9 (by kernel_rfl) rfl [.tmp 2, .tmp 3] (by kernel_rfl) (args := [g0_1]) (by rw [e36]; exact H)
def t37 (P : Program) (a0_1 : Value) (b1_1 : Value) (h : Heap) (K : Value → Heap → Prop) : Prop :=
  pop P (lenS 22 3 a0_1) fun t7_1 =>
  pop P (lenS 22 3 b1_1) fun t9_1 =>
  pop P (binE .neq 3 (.tmp 7) (.tmp 9) t7_1 t9_1) fun t10_1 =>
  condM t10_1
  (K (Value.bool false) h)
  (pop P (lenS 22 3 a0_1) fun t12_1 =>
  ∃ (I_1 : List Value → Heap → Prop) (μ_1 : List Value → Heap → Nat), I_1 [(Value.int IntKind.i64 0)] h ∧
  ∀ (junk_1 : Nat → Value) (t13_1 : Value) (h_1 : Heap), I_1 [t13_1] h_1 →
  pop P (binA .lss 3 t13_1 t12_1) fun t14_1 =>
  condM t14_1
  (pop P (Instr.indexAt 22 a0_1 t13_1) fun t18_1 =>
  rop P (Instr.loadAt 27 t18_1) h_1 fun t19_1 =>
  pop P (Instr.indexAt 22 b1_1 t13_1) fun t22_1 =>
  rop P (Instr.loadAt 27 t22_1) h_1 fun t23_1 =>
  callM P 29 #[t19_1, t23_1] h_1 fun t24_1 h_2 =>
  pop P (Op.unary .not t24_1) fun t25_1 =>
  condM t25_1
  (K (Value.bool false) h_2)
  (pop P (binA .add 3 t13_1 (Value.int IntKind.i64 1)) fun t26_1 =>
  I_1 [t26_1] h_2 ∧ μ_1 [t26_1] h_2 < μ_1 [t13_1] h_1))
  (K (Value.bool true) h_1))
theorem e37 (a0_1 : Value) (b1_1 : Value) (h : Heap) (K : Value → Heap → Prop) : wpA Try.prog 27 (anOf [(58, [13])]) (bodyOf Try.f37) 1 (fun A h => resA Try.prog A h K [.tmp 4]) (fun _ _ _ => False) (fun A h => resA Try.prog A h K [.tmp 4]) (aargs [a0_1, b1_1] 0) h = t37 Try.prog a0_1 b1_1 h K := by kernel_rfl
theorem c37 (a0_1 : Value) (b1_1 : Value) (h : Heap) (K : Value → Heap → Prop) (H : t37 Try.prog a0_1 b1_1 h K) : callM Try.prog 37 #[a0_1, b1_1] h K :=
  callM_of_wpA mixed (fn := Try.f37) Try.func37 (c := bodyOf Try.f37) rfl (of_decide_eq_true (by kernel_rfl)) (anOf [(58, [13])]) 25 27 (by kernel_rfl) rfl [.tmp 4] (by kernel_rfl) (args := [a0_1, b1_1]) (by rw [e37]; exact H)
def t38 (P : Program) (code0_1 : Value) (h : Heap) (K : Value → Heap → Prop) : Prop :=
  eop P (Instr.alloc 32 true (.tuple #[])) h fun t2_1 h_1 =>
  pop P (Instr.build 86 #[(0, code0_1)]) fun t8_1 =>
  eop P (Instr.box 86 t8_1) h_1 fun t9_1 h_2 =>
  callM P 63 #[t9_1] h_2 fun t11_1 h_3 =>
  eop P (Instr.alloc 32 true (.tuple #[])) h_3 fun g5_1 h_4 =>
  uop P (Instr.storeAt 32 g5_1 t11_1) h_4 fun u_1 h_5 =>
  pop P (Instr.fieldAt 32 g5_1 0) fun t13_1 =>
  rop P (Instr.loadAt 22 t13_1) h_5 fun t14_1 =>
  pop P (lenS 22 3 t14_1) fun t15_1 =>
  callM P 77 #[t9_1, t15_1] h_5 fun t16_1 h_6 =>
  ∃ J_1 : List Value → Heap → Prop, (pop P (lenS 27 3 t16_1) fun t18_1 =>
  pop P (binA .gtr 3 t18_1 (Value.int IntKind.i64 0)) fun t19_1 =>
  guardM (asG t19_1 true) true (fun k_1 => k_1 t9_1 h_6) h_6 fun t21_1 h_7 =>
  guardM (asG t19_1 true) true (fun k_2 => callM P 78 #[t21_1, (Value.int IntKind.i64 8)] h_7 fun t22_1 h_8 =>
  k_2 t22_1 h_8) h_7 fun t22_2 h_9 =>
  pop P (pickS t19_1 t22_2 (Value.bool false)) fun t23_1 =>
  condM t23_1
  (pop P (lenS 27 3 t16_1) fun t27_1 =>
  eop P (Instr.buildSlice 27 4 #[(0, (Value.int IntKind.i64 (-1))), (1, (Value.int IntKind.i64 0)), (2, (Value.int IntKind.i64 1)), (3, t27_1)]) h_9 fun t28_1 h_10 =>
  callM P 79 #[t9_1, t28_1] h_10 fun t29_1 h_11 =>
  pop P (Instr.indexAt 27 t16_1 (Value.int IntKind.i64 0)) fun t30_1 =>
  uop P (Instr.storeAt 3 t30_1 t29_1) h_11 fun u_2 h_12 =>
  J_1 [] h_12)
  (J_1 [] h_9)) ∧
  ∀ (junk_1 : Nat → Value) (h_13 : Heap), J_1 [] h_13 →
  rop P (Instr.loadAt 32 g5_1) h_13 fun t31_1 =>
  uop P (Instr.storeAt 32 t2_1 t31_1) h_13 fun u_3 h_14 =>
  rop P (Instr.loadAt 32 t2_1) h_14 fun r_1 =>
  K (.tuple #[r_1, t16_1]) h_14
theorem e38 (code0_1 : Value) (h : Heap) (K : Value → Heap → Prop) : wpA Try.prog 33 (anOf [(31, [])]) (bodyOf Try.f38) 1 (fun A h => resA Try.prog A h K [.cell 2 32, .tmp 3]) (fun _ _ _ => False) (fun A h => resA Try.prog A h K [.cell 2 32, .tmp 3]) (aargs [code0_1] 0) h = t38 Try.prog code0_1 h K := by kernel_rfl
theorem c38 (code0_1 : Value) (h : Heap) (K : Value → Heap → Prop) (H : t38 Try.prog code0_1 h K) : callM Try.prog 38 #[code0_1] h K :=
  callM_of_wpA mixed (fn := Try.f38) Try.func38 (c := bodyOf Try.f38) rfl (of_decide_eq_true (by kernel_rfl)) (anOf [(31, [])]) 32 33 (by kernel_rfl) rfl [.cell 2 32, .tmp 3] (by kernel_rfl) (args := [code0_1]) (by rw [e38]; exact H)
def t39 (P : Program) (g0_1 : Value) (names1_1 : Value) (h : Heap) (K : Value → Heap → Prop) : Prop :=
  eop P (Instr.box 32 g0_1) h fun g2_1 h_1 =>
  eop P (Instr.alloc 32 true (.tuple #[])) h_1 fun t4_1 h_2 =>
  rop P (Instr.loadAt 32 g2_1) h_2 fun t11_1 =>
  callM P 56 #[t11_1] h_2 fun t12_1 h_3 =>
  pop P (Op.unary .not t12_1) fun t13_1 =>
  guardM (asG t13_1 false) false (fun k_1 => rop P (Instr.loadAt 32 g2_1) h_3 fun t15_1 =>
  k_1 t15_1 h_3) h_3 fun t15_2 h_4 =>
  guardM (asG t13_1 false) false (fun k_2 => k_2 names1_1 h_4) h_4 fun t16_1 h_5 =>
  guardM (asG t13_1 false) false (fun k_3 => callM P 57 #[t15_2, t16_1] h_5 fun t17_1 h_6 =>
  k_3 t17_1 h_6) h_5 fun t17_2 h_7 =>
  guardM (asG t13_1 false) false (fun k_4 => pop P (Op.unary .not t17_2) fun t18_1 =>
  k_4 t18_1 h_7) h_7 fun t18_2 h_8 =>
  pop P (pickS t13_1 (Value.bool true) t18_2) fun t19_1 =>
  condM t19_1
  (pop P (Instr.build 32 #[]) fun t20_1 =>
  uop P (Instr.storeAt 32 t4_1 t20_1) h_8 fun u_1 h_9 =>
  rop P (Instr.loadAt 32 t4_1) h_9 fun r_1 =>
  K (.tuple #[r_1, (Value.bool false)]) h_9)
  (pop P (Instr.fieldAt 32 g2_1 0) fun t21_1 =>
  rop P (Instr.loadAt 22 t21_1) h_8 fun t22_1 =>
  pop P (lenS 22 3 t22_1) fun t23_1 =>
  eop P (Instr.makeSlice 22 t23_1 t23_1) h_8 fun t24_1 h_10 =>
  pop P (Instr.build 32 #[(0, t24_1)]) fun t25_1 =>
  eop P (Instr.alloc 32 true (.tuple #[])) h_10 fun out6_1 h_11 =>
  uop P (Instr.storeAt 32 out6_1 t25_1) h_11 fun u_2 h_12 =>
  pop P (Instr.fieldAt 32 g2_1 0) fun t26_1 =>
  rop P (Instr.loadAt 22 t26_1) h_12 fun t27_1 =>
  pop P (lenS 22 3 t27_1) fun t28_1 =>
  ∃ (I_1 : List Value → Heap → Prop) (μ_1 : List Value → Heap → Nat), I_1 [(Value.int IntKind.i64 0)] h_12 ∧
  ∀ (junk_1 : Nat → Value) (t29_1 : Value) (h_13 : Heap), I_1 [t29_1] h_13 →
  pop P (binA .lss 3 t29_1 t28_1) fun t30_1 =>
  condM t30_1
  (pop P (Instr.indexAt 22 t27_1 t29_1) fun t32_1 =>
  rop P (Instr.loadAt 27 t32_1) h_13 fun t33_1 =>
  pop P (lenS 27 3 t33_1) fun t35_1 =>
  ∃ (I_2 : List Value → Heap → Prop) (μ_2 : List Value → Heap → Nat), I_2 [(Value.int IntKind.i64 0)] h_13 ∧
  ∀ (junk_2 : Nat → Value) (t36_1 : Value) (h_14 : Heap), I_2 [t36_1] h_14 →
  pop P (binA .lss 3 t36_1 t35_1) fun t37_1 =>
  condM t37_1
  (pop P (Instr.indexAt 27 t33_1 t36_1) fun t38_1 =>
  rop P (Instr.loadAt 3 t38_1) h_14 fun t39_1 =>
  pop P (Instr.fieldAt 32 out6_1 0) fun t40_1 =>
  rop P (Instr.loadAt 22 t40_1) h_14 fun t41_1 =>
  pop P (Instr.indexAt 27 names1_1 t29_1) fun t44_1 =>
  rop P (Instr.loadAt 3 t44_1) h_14 fun t45_1 =>
  pop P (Instr.fieldAt 32 out6_1 0) fun t46_1 =>
  rop P (Instr.loadAt 22 t46_1) h_14 fun t47_1 =>
  pop P (Instr.indexAt 27 names1_1 t29_1) fun t50_1 =>
  rop P (Instr.loadAt 3 t50_1) h_14 fun t51_1 =>
  pop P (Instr.indexAt 22 t47_1 t51_1) fun t52_1 =>
  rop P (Instr.loadAt 27 t52_1) h_14 fun t53_1 =>
  pop P (Instr.indexAt 27 names1_1 t39_1) fun t56_1 =>
  rop P (Instr.loadAt 3 t56_1) h_14 fun t57_1 =>
  eop P (Instr.buildSlice 27 1 #[(0, t57_1)]) h_14 fun t58_1 h_15 =>
  (∀ w : World, w.heap = h_15 → (Instr.loadAt 27 t52_1).run P w = .ok t53_1 w) ∧
  (∀ w : World, w.heap = h_15 → (Instr.loadAt 3 t50_1).run P w = .ok t51_1 w) ∧
  (∀ w : World, w.heap = h_15 → (Instr.loadAt 22 t46_1).run P w = .ok t47_1 w) ∧
  (∀ w : World, w.heap = h_15 → (Instr.loadAt 3 t44_1).run P w = .ok t45_1 w) ∧
  (∀ w : World, w.heap = h_15 → (Instr.loadAt 22 t40_1).run P w = .ok t41_1 w) ∧
  eop P (appS 27 27 27 t53_1 t58_1) h_15 fun t59_1 h_16 =>
  (∀ w : World, w.heap = h_16 → (Instr.loadAt 3 t50_1).run P w = .ok t51_1 w) ∧
  (∀ w : World, w.heap = h_16 → (Instr.loadAt 22 t46_1).run P w = .ok t47_1 w) ∧
  (∀ w : World, w.heap = h_16 → (Instr.loadAt 3 t44_1).run P w = .ok t45_1 w) ∧
  (∀ w : World, w.heap = h_16 → (Instr.loadAt 22 t40_1).run P w = .ok t41_1 w) ∧
  pop P (Instr.indexAt 22 t41_1 t45_1) fun t60_1 =>
  uop P (Instr.storeAt 27 t60_1 t59_1) h_16 fun u_3 h_17 =>
  pop P (binA .add 3 t36_1 (Value.int IntKind.i64 1)) fun t61_1 =>
  I_2 [t61_1] h_17 ∧ μ_2 [t61_1] h_17 < μ_2 [t36_1] h_14)
  (pop P (binA .add 3 t29_1 (Value.int IntKind.i64 1)) fun t62_1 =>
  I_1 [t62_1] h_14 ∧ μ_1 [t62_1] h_14 < μ_1 [t29_1] h_13))
  (rop P (Instr.loadAt 32 out6_1) h_13 fun t63_1 =>
  uop P (Instr.storeAt 32 t4_1 t63_1) h_13 fun u_4 h_18 =>
  rop P (Instr.loadAt 32 t4_1) h_18 fun r_2 =>
  K (.tuple #[r_2, (Value.bool true)]) h_18))
theorem e39 (g0_1 : Value) (names1_1 : Value) (h : Heap) (K : Value → Heap → Prop) : wpA Try.prog 64 (anOf [(122, [29]), (31334, [36])]) (bodyOf Try.f39) 1 (fun A h => resA Try.prog A h K [.cell 4 32, .tmp 5]) (fun _ _ _ => False) (fun A h => resA Try.prog A h K [.cell 4 32, .tmp 5]) (aargs [g0_1, names1_1] 0) h = t39 Try.prog g0_1 names1_1 h K := by kernel_rfl
theorem c39 (g0_1 : Value) (names1_1 : Value) (h : Heap) (K : Value → Heap → Prop) (H : t39 Try.prog g0_1 names1_1 h K) : callM Try.prog 39 #[g0_1, names1_1] h K :=
  callM_of_wpA mixed (fn := Try.f39) Try.func39 (c := bodyOf Try.f39) rfl (of_decide_eq_true (by kernel_rfl)) (anOf [(122, [29]), (31334, [36])]) 62 64 (by kernel_rfl) rfl [.cell 4 32, .tmp 5] (by kernel_rfl) (args := [g0_1, names1_1]) (by rw [e39]; exact H)
def t40 (P : Program) (g0_1 : Value) (names1_1 : Value) (h : Heap) (K : Value → Heap → Prop) : Prop :=
  eop P (Instr.box 32 g0_1) h fun g2_1 h_1 =>
  eop P (Instr.alloc 32 true (.tuple #[])) h_1 fun t4_1 h_2 =>
  rop P (Instr.loadAt 32 g2_1) h_2 fun t6_1 =>
  callM P 73 #[t6_1] h_2 fun t7_1 h_3 =>
  pop P (Op.unary .not t7_1) fun t8_1 =>
  guardM (asG t8_1 false) false (fun k_1 => k_1 names1_1 h_3) h_3 fun t10_1 h_4 =>
  guardM (asG t8_1 false) false (fun k_2 => pop P (Instr.fieldAt 32 g2_1 0) fun t11_1 =>
  k_2 t11_1 h_4) h_4 fun t11_2 h_5 =>
  guardM (asG t8_1 false) false (fun k_3 => rop P (Instr.loadAt 22 t11_2) h_5 fun t12_1 =>
  k_3 t12_1 h_5) h_5 fun t12_2 h_6 =>
  guardM (asG t8_1 false) false (fun k_4 => pop P (lenS 22 3 t12_2) fun t13_1 =>
  k_4 t13_1 h_6) h_6 fun t13_2 h_7 =>
  guardM (asG t8_1 false) false (fun k_5 => callM P 52 #[t10_1, t13_2] h_7 fun t14_1 h_8 =>
  k_5 t14_1 h_8) h_7 fun t14_2 h_9 =>
  guardM (asG t8_1 false) false (fun k_6 => pop P (Op.unary .not t14_2) fun t15_1 =>
  k_6 t15_1 h_9) h_9 fun t15_2 h_10 =>
  pop P (pickS t8_1 (Value.bool true) t15_2) fun t16_1 =>
  condM t16_1
  (pop P (Instr.build 32 #[]) fun t17_1 =>
  uop P (Instr.storeAt 32 t4_1 t17_1) h_10 fun u_1 h_11 =>
  rop P (Instr.loadAt 32 t4_1) h_11 fun r_1 =>
  K (.tuple #[r_1, (Value.bool false)]) h_11)
  (rop P (Instr.loadAt 32 g2_1) h_10 fun t18_1 =>
  callM P 80 #[t18_1, names1_1] h_10 fun t20_1 h_12 =>
  uop P (Instr.storeAt 32 t4_1 t20_1) h_12 fun u_2 h_13 =>
  rop P (Instr.loadAt 32 t4_1) h_13 fun r_2 =>
  K (.tuple #[r_2, (Value.bool true)]) h_13)
theorem e40 (g0_1 : Value) (names1_1 : Value) (h : Heap) (K : Value → Heap → Prop) : wpA Try.prog 21 (anOf []) (bodyOf Try.f40) 1 (fun A h => resA Try.prog A h K [.cell 4 32, .tmp 5]) (fun _ _ _ => False) (fun A h => resA Try.prog A h K [.cell 4 32, .tmp 5]) (aargs [g0_1, names1_1] 0) h = t40 Try.prog g0_1 names1_1 h K := by kernel_rfl
theorem c40 (g0_1 : Value) (names1_1 : Value) (h : Heap) (K : Value → Heap → Prop) (H : t40 Try.prog g0_1 names1_1 h K) : callM Try.prog 40 #[g0_1, names1_1] h K :=
  callM_of_wpA mixed (fn := Try.f40) Try.func40 (c := bodyOf Try.f40) rfl (of_decide_eq_true (by kernel_rfl)) (anOf []) 19 21 (by kernel_rfl) rfl [.cell 4 32, .tmp 5] (by kernel_rfl) (args := [g0_1, names1_1]) (by rw [e40]; exact H)
def t41 (P : Program) (a0_1 : Value) (b1_1 : Value) (h : Heap) (K : Value → Heap → Prop) : Prop :=
  eop P (Instr.box 32 a0_1) h fun a2_1 h_1 =>
  eop P (Instr.box 32 b1_1) h_1 fun b3_1 h_2 =>
  pop P (Instr.fieldAt 32 a2_1 0) fun t5_1 =>
  rop P (Instr.loadAt 22 t5_1) h_2 fun t6_1 =>
  pop P (Instr.fieldAt 32 b3_1 0) fun t7_1 =>
  rop P (Instr.loadAt 22 t7_1) h_2 fun t8_1 =>
  callM P 37 #[t6_1, t8_1] h_2 fun t9_1 h_3 =>
  K t9_1 h_3
theorem e41 (a0_1 : Value) (b1_1 : Value) (h : Heap) (K : Value → Heap → Prop) : wpA Try.prog 10 (anOf []) (bodyOf Try.f41) 1 (fun A h => resA Try.prog A h K [.tmp 4]) (fun _ _ _ => False) (fun A h => resA Try.prog A h K [.tmp 4]) (aargs [a0_1, b1_1] 0) h = t41 Try.prog a0_1 b1_1 h K := by kernel_rfl
theorem c41 (a0_1 : Value) (b1_1 : Value) (h : Heap) (K : Value → Heap → Prop) (H : t41 Try.prog a0_1 b1_1 h K) : callM Try.prog 41 #[a0_1, b1_1] h K :=
  callM_of_wpA mixed (fn := Try.f41) Try.func41 (c := bodyOf Try.f41) rfl (of_decide_eq_true (by kernel_rfl)) (anOf []) 8 10 (by kernel_rfl) rfl [.tmp 4] (by kernel_rfl) (args := [a0_1, b1_1]) (by rw [e41]; exact H)
def t42 (P : Program) (code0_1 : Value) (h : Heap) (K : Value → Heap → Prop) : Prop :=
  eop P (Instr.alloc 32 true (.tuple #[])) h fun t2_1 h_1 =>
  callM P 81 #[code0_1] h_1 fun t5_1 h_2 =>
  pop P (Instr.extract t5_1 0) fun t6_1 =>
  pop P (Instr.extract t5_1 1) fun t7_1 =>
  uop P (Instr.storeAt 32 t2_1 t6_1) h_2 fun u_1 h_3 =>
  rop P (Instr.loadAt 32 t2_1) h_3 fun r_1 =>
  K (.tuple #[r_1, t7_1]) h_3
theorem e42 (code0_1 : Value) (h : Heap) (K : Value → Heap → Prop) : wpA Try.prog 8 (anOf []) (bodyOf Try.f42) 1 (fun A h => resA Try.prog A h K [.cell 2 32, .tmp 3]) (fun _ _ _ => False) (fun A h => resA Try.prog A h K [.cell 2 32, .tmp 3]) (aargs [code0_1] 0) h = t42 Try.prog code0_1 h K := by kernel_rfl
theorem c42 (code0_1 : Value) (h : Heap) (K : Value → Heap → Prop) (H : t42 Try.prog code0_1 h K) : callM Try.prog 42 #[code0_1] h K :=
  callM_of_wpA mixed (fn := Try.f42) Try.func42 (c := bodyOf Try.f42) rfl (of_decide_eq_true (by kernel_rfl)) (anOf []) 7 8 (by kernel_rfl) rfl [.cell 2 32, .tmp 3] (by kernel_rfl) (args := [code0_1]) (by rw [e42]; exact H)
def t43 (P : Program) (g0_1 : Value) (p1_1 : Value) (h : Heap) (K : Value → Heap → Prop) : Prop :=
  eop P (Instr.box 32 g0_1) h fun g2_1 h_1 =>
  rop P (Instr.loadAt 32 g2_1) h_1 fun t6_1 =>
  eop P (Instr.buildSlice 27 1 #[(0, p1_1)]) h_1 fun t8_1 h_2 =>
  callM P 65 #[t6_1, t8_1] h_2 fun t9_1 h_3 =>
  pop P (Op.unary .not t9_1) fun t10_1 =>
  condM t10_1
  (K (.tuple #[(Value.bool false), (Value.bool false)]) h_3)
  (rop P (Instr.loadAt 32 g2_1) h_3 fun t11_1 =>
  callM P 82 #[t11_1, p1_1] h_3 fun t13_1 h_4 =>
  K (.tuple #[t13_1, (Value.bool true)]) h_4)
theorem e43 (g0_1 : Value) (p1_1 : Value) (h : Heap) (K : Value → Heap → Prop) : wpA Try.prog 14 (anOf []) (bodyOf Try.f43) 1 (fun A h => resA Try.prog A h K [.tmp 4, .tmp 5]) (fun _ _ _ => False) (fun A h => resA Try.prog A h K [.tmp 4, .tmp 5]) (aargs [g0_1, p1_1] 0) h = t43 Try.prog g0_1 p1_1 h K := by kernel_rfl
theorem c43 (g0_1 : Value) (p1_1 : Value) (h : Heap) (K : Value → Heap → Prop) (H : t43 Try.prog g0_1 p1_1 h K) : callM Try.prog 43 #[g0_1, p1_1] h K :=
  callM_of_wpA mixed (fn := Try.f43) Try.func43 (c := bodyOf Try.f43) rfl (of_decide_eq_true (by kernel_rfl)) (anOf []) 12 14 (by kernel_rfl) rfl [.tmp 4, .tmp 5] (by kernel_rfl) (args := [g0_1, p1_1]) (by rw [e43]; exact H)
def t44 (P : Program) (g0_1 : Value) (p1_1 : Value) (h : Heap) (K : Value → Heap → Prop) : Prop :=
  eop P (Instr.box 32 g0_1) h fun g2_1 h_1 =>
  rop P (Instr.loadAt 32 g2_1) h_1 fun t6_1 =>
  callM P 67 #[t6_1, p1_1] h_1 fun t8_1 h_2 =>
  pop P (Op.unary .not t8_1) fun t9_1 =>
  condM t9_1
  (K (.tuple #[(Value.bool false), (Value.bool false)]) h_2)
  (rop P (Instr.loadAt 32 g2_1) h_2 fun t10_1 =>
  callM P 83 #[t10_1, p1_1] h_2 fun t12_1 h_3 =>
  K (.tuple #[t12_1, (Value.bool true)]) h_3)
theorem e44 (g0_1 : Value) (p1_1 : Value) (h : Heap) (K : Value → Heap → Prop) : wpA Try.prog 13 (anOf []) (bodyOf Try.f44) 1 (fun A h => resA Try.prog A h K [.tmp 4, .tmp 5]) (fun _ _ _ => False) (fun A h => resA Try.prog A h K [.tmp 4, .tmp 5]) (aargs [g0_1, p1_1] 0) h = t44 Try.prog g0_1 p1_1 h K := by kernel_rfl
theorem c44 (g0_1 : Value) (p1_1 : Value) (h : Heap) (K : Value → Heap → Prop) (H : t44 Try.prog g0_1 p1_1 h K) : callM Try.prog 44 #[g0_1, p1_1] h K :=
  callM_of_wpA mixed (fn := Try.f44) Try.func44 (c := bodyOf Try.f44) rfl (of_decide_eq_true (by kernel_rfl)) (anOf []) 11 13 (by kernel_rfl) rfl [.tmp 4, .tmp 5] (by kernel_rfl) (args := [g0_1, p1_1]) (by rw [e44]; exact H)
def t52 (P : Program) (names0_1 : Value) (n1_1 : Value) (h : Heap) (K : Value → Heap → Prop) : Prop :=
  pop P (lenS 27 3 names0_1) fun t8_1 =>
  pop P (binE .neq 3 (.tmp 8) (.tmp 9) t8_1 n1_1) fun t10_1 =>
  guardM (asG t10_1 false) false (fun k_1 => k_1 names0_1 h) h fun t12_1 h_1 =>
  guardM (asG t10_1 false) false (fun k_2 => k_2 n1_1 h_1) h_1 fun t13_1 h_2 =>
  guardM (asG t10_1 false) false (fun k_3 => pop P (binA .sub 3 t13_1 (Value.int IntKind.i64 1)) fun t14_1 =>
  k_3 t14_1 h_2) h_2 fun t14_2 h_3 =>
  guardM (asG t10_1 false) false (fun k_4 => callM P 96 #[t12_1, (Value.int IntKind.i64 0), t14_2] h_3 fun t15_1 h_4 =>
  k_4 t15_1 h_4) h_3 fun t15_2 h_5 =>
  guardM (asG t10_1 false) false (fun k_5 => pop P (Op.unary .not t15_2) fun t16_1 =>
  k_5 t16_1 h_5) h_5 fun t16_2 h_6 =>
  pop P (pickS t10_1 (Value.bool true) t16_2) fun t17_1 =>
  condM t17_1
  (K (Value.bool false) h_6)
  (pop P (lenS 27 3 names0_1) fun t19_1 =>
  ∃ (I_1 : List Value → Heap → Prop) (μ_1 : List Value → Heap → Nat), I_1 [(Value.int IntKind.i64 0)] h_6 ∧
  ∀ (junk_1 : Nat → Value) (t20_1 : Value) (h_7 : Heap), I_1 [t20_1] h_7 →
  pop P (binA .lss 3 t20_1 t19_1) fun t21_1 =>
  condM t21_1
  (pop P (Instr.indexAt 27 names0_1 t20_1) fun t23_1 =>
  rop P (Instr.loadAt 3 t23_1) h_7 fun t24_1 =>
  pop P (Instr.sliceAt 27 names0_1 none (some t20_1) none) fun t27_1 =>
  callM P 74 #[t27_1, t24_1] h_7 fun t29_1 h_8 =>
  condM t29_1
  (K (Value.bool false) h_8)
  (pop P (binA .add 3 t20_1 (Value.int IntKind.i64 1)) fun t30_1 =>
  I_1 [t30_1] h_8 ∧ μ_1 [t30_1] h_8 < μ_1 [t20_1] h_7))
  (K (Value.bool true) h_7))
theorem e52 (names0_1 : Value) (n1_1 : Value) (h : Heap) (K : Value → Heap → Prop) : wpA Try.prog 31 (anOf [(58, [20])]) (bodyOf Try.f52) 1 (fun A h => resA Try.prog A h K [.tmp 4]) (fun _ _ _ => False) (fun A h => resA Try.prog A h K [.tmp 4]) (aargs [names0_1, n1_1] 0) h = t52 Try.prog names0_1 n1_1 h K := by kernel_rfl
theorem c52 (names0_1 : Value) (n1_1 : Value) (h : Heap) (K : Value → Heap → Prop) (H : t52 Try.prog names0_1 n1_1 h K) : callM Try.prog 52 #[names0_1, n1_1] h K :=
  callM_of_wpA mixed (fn := Try.f52) Try.func52 (c := bodyOf Try.f52) rfl (of_decide_eq_true (by kernel_rfl)) (anOf [(58, [20])]) 29 31 (by kernel_rfl) rfl [.tmp 4] (by kernel_rfl) (args := [names0_1, n1_1]) (by rw [e52]; exact H)
def t56 (P : Program) (g0_1 : Value) (h : Heap) (K : Value → Heap → Prop) : Prop :=
  eop P (Instr.box 32 g0_1) h fun g1_1 h_1 =>
  pop P (Instr.fieldAt 32 g1_1 0) fun t6_1 =>
  rop P (Instr.loadAt 22 t6_1) h_1 fun t7_1 =>
  pop P (lenS 22 3 t7_1) fun t8_1 =>
  eop P (Instr.alloc 3 true (.tuple #[])) h_1 fun n3_1 h_2 =>
  uop P (Instr.storeAt 3 n3_1 t8_1) h_2 fun u_1 h_3 =>
  rop P (Instr.loadAt 3 n3_1) h_3 fun t9_1 =>
  callM P 102 #[t9_1, (Value.int IntKind.i64 1), (Value.int IntKind.i64 8)] h_3 fun t10_1 h_4 =>
  pop P (Op.unary .not t10_1) fun t11_1 =>
  condM t11_1
  (K (Value.bool false) h_4)
  (pop P (Instr.fieldAt 32 g1_1 0) fun t12_1 =>
  rop P (Instr.loadAt 22 t12_1) h_4 fun t13_1 =>
  pop P (lenS 22 3 t13_1) fun t14_1 =>
  ∃ (I_1 : List Value → Heap → Prop) (μ_1 : List Value → Heap → Nat), I_1 [(Value.int IntKind.i64 0)] h_4 ∧
  ∀ (junk_1 : Nat → Value) (t15_1 : Value) (h_5 : Heap), I_1 [t15_1] h_5 →
  pop P (binA .lss 3 t15_1 t14_1) fun t16_1 =>
  condM t16_1
  (pop P (Instr.indexAt 22 t13_1 t15_1) fun t17_1 =>
  rop P (Instr.loadAt 27 t17_1) h_5 fun t18_1 =>
  pop P (lenS 27 3 t18_1) fun t20_1 =>
  pop P (binA .gtr 3 t20_1 (Value.int IntKind.i64 5)) fun t21_1 =>
  guardM (asG t21_1 false) false (fun k_1 => k_1 t18_1 h_5) h_5 fun t23_1 h_6 =>
  guardM (asG t21_1 false) false (fun k_2 => pop P (Instr.makeFunc (Fn.func 104) #[] #[n3_1]) fun t24_1 =>
  k_2 t24_1 h_6) h_6 fun t24_2 h_7 =>
  guardM (asG t21_1 false) false (fun k_3 => callM P 103 #[t23_1, t24_2] h_7 fun t25_1 h_8 =>
  k_3 t25_1 h_8) h_7 fun t25_2 h_9 =>
  pop P (pickS t21_1 (Value.bool true) t25_2) fun t26_1 =>
  condM t26_1
  (K (Value.bool false) h_9)
  (pop P (binA .add 3 t15_1 (Value.int IntKind.i64 1)) fun t27_1 =>
  I_1 [t27_1] h_9 ∧ μ_1 [t27_1] h_9 < μ_1 [t15_1] h_5))
  (K (Value.bool true) h_5))
theorem e56 (g0_1 : Value) (h : Heap) (K : Value → Heap → Prop) : wpA Try.prog 28 (anOf [(122, [15])]) (bodyOf Try.f56) 1 (fun A h => resA Try.prog A h K [.tmp 2]) (fun _ _ _ => False) (fun A h => resA Try.prog A h K [.tmp 2]) (aargs [g0_1] 0) h = t56 Try.prog g0_1 h K := by kernel_rfl
theorem c56 (g0_1 : Value) (h : Heap) (K : Value → Heap → Prop) (H : t56 Try.prog g0_1 h K) : callM Try.prog 56 #[g0_1] h K :=
  callM_of_wpA mixed (fn := Try.f56) Try.func56 (c := bodyOf Try.f56) rfl (of_decide_eq_true (by kernel_rfl)) (anOf [(122, [15])]) 27 28 (by kernel_rfl) rfl [.tmp 2] (by kernel_rfl) (args := [g0_1]) (by rw [e56]; exact H)
def t57 (P : Program) (g0_1 : Value) (names1_1 : Value) (h : Heap) (K : Value → Heap → Prop) : Prop :=
  eop P (Instr.box 32 g0_1) h fun g2_1 h_1 =>
  pop P (lenS 27 3 names1_1) fun t8_1 =>
  pop P (Instr.fieldAt 32 g2_1 0) fun t9_1 =>
  rop P (Instr.loadAt 22 t9_1) h_1 fun t10_1 =>
  pop P (lenS 22 3 t10_1) fun t11_1 =>
  pop P (binE .neq 3 (.tmp 8) (.tmp 11) t8_1 t11_1) fun t12_1 =>
  condM t12_1
  (K (Value.bool false) h_1)
  (callM P 106 #[names1_1] h_1 fun t14_1 h_2 =>
  callM P 105 #[t14_1] h_2 fun t15_1 h_3 =>
  pop P (lenS 27 3 t15_1) fun t16_1 =>
  ∃ (I_1 : List Value → Heap → Prop) (μ_1 : List Value → Heap → Nat), I_1 [(Value.int IntKind.i64 0)] h_3 ∧
  ∀ (junk_1 : Nat → Value) (t17_1 : Value) (h_4 : Heap), I_1 [t17_1] h_4 →
  pop P (binA .lss 3 t17_1 t16_1) fun t18_1 =>
  condM t18_1
  (pop P (Instr.indexAt 27 t15_1 t17_1) fun t20_1 =>
  rop P (Instr.loadAt 3 t20_1) h_4 fun t21_1 =>
  pop P (binE .neq 3 (.tmp 22) (.tmp 23) t17_1 t21_1) fun t24_1 =>
  condM t24_1
  (K (Value.bool false) h_4)
  (pop P (binA .add 3 t17_1 (Value.int IntKind.i64 1)) fun t25_1 =>
  I_1 [t25_1] h_4 ∧ μ_1 [t25_1] h_4 < μ_1 [t17_1] h_4))
  (K (Value.bool true) h_4))
theorem e57 (g0_1 : Value) (names1_1 : Value) (h : Heap) (K : Value → Heap → Prop) : wpA Try.prog 26 (anOf [(58, [17])]) (bodyOf Try.f57) 1 (fun A h => resA Try.prog A h K [.tmp 4]) (fun _ _ _ => False) (fun A h => resA Try.prog A h K [.tmp 4]) (aargs [g0_1, names1_1] 0) h = t57 Try.prog g0_1 names1_1 h K := by kernel_rfl
theorem c57 (g0_1 : Value) (names1_1 : Value) (h : Heap) (K : Value → Heap → Prop) (H : t57 Try.prog g0_1 names1_1 h K) : callM Try.prog 57 #[g0_1, names1_1] h K :=
  callM_of_wpA mixed (fn := Try.f57) Try.func57 (c := bodyOf Try.f57) rfl (of_decide_eq_true (by kernel_rfl)) (anOf [(58, [17])]) 24 26 (by kernel_rfl) rfl [.tmp 4] (by kernel_rfl) (args := [g0_1, names1_1]) (by rw [e57]; exact H)
def t63 (P : Program) (c0_1 : Value) (h : Heap) (K : Value → Heap → Prop) : Prop :=
  eop P (Instr.alloc 32 true (.tuple #[])) h fun t2_1 h_1 =>
  callM P 109 #[c0_1, (Value.int IntKind.i64 6)] h_1 fun t5_1 h_2 =>
  eop P (Instr.alloc 32 true (.tuple #[])) h_2 fun g3_1 h_3 =>
  uop P (Instr.storeAt 32 g3_1 t5_1) h_3 fun u_1 h_4 =>
  callM P 110 #[c0_1, (Value.int IntKind.i64 16)] h_4 fun t7_1 h_5 =>
  pop P (binE .eql 3 (.tmp 7) (.const (Value.int IntKind.i64 0)) t7_1 (Value.int IntKind.i64 0)) fun t9_1 =>
  condM t9_1
  (pop P (Instr.fieldAt 32 g3_1 0) fun t10_1 =>
  rop P (Instr.loadAt 22 t10_1) h_5 fun t11_1 =>
  pop P (Instr.fieldAt 32 g3_1 0) fun t12_1 =>
  rop P (Instr.loadAt 22 t12_1) h_5 fun t13_1 =>
  pop P (Instr.indexAt 22 t13_1 (Value.int IntKind.i64 0)) fun t14_1 =>
  rop P (Instr.loadAt 27 t14_1) h_5 fun t15_1 =>
  pop P (Instr.fieldAt 32 g3_1 0) fun t17_1 =>
  rop P (Instr.loadAt 22 t17_1) h_5 fun t18_1 =>
  pop P (lenS 22 3 t18_1) fun t19_1 =>
  eop P (Instr.buildSlice 27 3 #[(0, (Value.int IntKind.i64 (-1))), (1, t19_1), (2, (Value.int IntKind.i64 4611686018427387904))]) h_5 fun t20_1 h_6 =>
  (∀ w : World, w.heap = h_6 → (Instr.loadAt 22 t17_1).run P w = .ok t18_1 w) ∧
  (∀ w : World, w.heap = h_6 → (Instr.loadAt 27 t14_1).run P w = .ok t15_1 w) ∧
  (∀ w : World, w.heap = h_6 → (Instr.loadAt 22 t12_1).run P w = .ok t13_1 w) ∧
  (∀ w : World, w.heap = h_6 → (Instr.loadAt 22 t10_1).run P w = .ok t11_1 w) ∧
  callM P 79 #[c0_1, t20_1] h_6 fun t21_1 h_7 =>
  (∀ w : World, w.heap = h_7 → (Instr.loadAt 22 t17_1).run P w = .ok t18_1 w) ∧
  (∀ w : World, w.heap = h_7 → (Instr.loadAt 27 t14_1).run P w = .ok t15_1 w) ∧
  (∀ w : World, w.heap = h_7 → (Instr.loadAt 22 t12_1).run P w = .ok t13_1 w) ∧
  (∀ w : World, w.heap = h_7 → (Instr.loadAt 22 t10_1).run P w = .ok t11_1 w) ∧
  eop P (Instr.buildSlice 27 1 #[(0, t21_1)]) h_7 fun t22_1 h_8 =>
  (∀ w : World, w.heap = h_8 → (Instr.loadAt 22 t17_1).run P w = .ok t18_1 w) ∧
  (∀ w : World, w.heap = h_8 → (Instr.loadAt 27 t14_1).run P w = .ok t15_1 w) ∧
  (∀ w : World, w.heap = h_8 → (Instr.loadAt 22 t12_1).run P w = .ok t13_1 w) ∧
  (∀ w : World, w.heap = h_8 → (Instr.loadAt 22 t10_1).run P w = .ok t11_1 w) ∧
  eop P (appS 27 27 27 t15_1 t22_1) h_8 fun t23_1 h_9 =>
  (∀ w : World, w.heap = h_9 → (Instr.loadAt 22 t17_1).run P w = .ok t18_1 w) ∧
  (∀ w : World, w.heap = h_9 → (Instr.loadAt 22 t12_1).run P w = .ok t13_1 w) ∧
  (∀ w : World, w.heap = h_9 → (Instr.loadAt 22 t10_1).run P w = .ok t11_1 w) ∧
  pop P (Instr.indexAt 22 t11_1 (Value.int IntKind.i64 0)) fun t24_1 =>
  uop P (Instr.storeAt 27 t24_1 t23_1) h_9 fun u_2 h_10 =>
  rop P (Instr.loadAt 32 g3_1) h_10 fun t52_1 =>
  uop P (Instr.storeAt 32 t2_1 t52_1) h_10 fun u_3 h_11 =>
  rop P (Instr.loadAt 32 t2_1) h_11 fun r_1 =>
  K r_1 h_11)
  (pop P (binE .eql 3 (.tmp 7) (.const (Value.int IntKind.i64 1)) t7_1 (Value.int IntKind.i64 1)) fun t26_1 =>
  condM t26_1
  (pop P (Instr.fieldAt 32 g3_1 0) fun t27_1 =>
  rop P (Instr.loadAt 22 t27_1) h_5 fun t28_1 =>
  callM P 110 #[c0_1, (Value.int IntKind.i64 2)] h_5 fun t30_1 h_12 =>
  (∀ w : World, w.heap = h_12 → (Instr.loadAt 22 t27_1).run P w = .ok t28_1 w) ∧
  pop P (binA .add 3 (Value.int IntKind.i64 5) t30_1) fun t31_1 =>
  eop P (Instr.makeSlice 27 t31_1 t31_1) h_12 fun t32_1 h_13 =>
  (∀ w : World, w.heap = h_13 → (Instr.loadAt 22 t27_1).run P w = .ok t28_1 w) ∧
  pop P (Instr.indexAt 22 t28_1 (Value.int IntKind.i64 0)) fun t33_1 =>
  uop P (Instr.storeAt 27 t33_1 t32_1) h_13 fun u_4 h_14 =>
  rop P (Instr.loadAt 32 g3_1) h_14 fun t52_2 =>
  uop P (Instr.storeAt 32 t2_1 t52_2) h_14 fun u_5 h_15 =>
  rop P (Instr.loadAt 32 t2_1) h_15 fun r_2 =>
  K r_2 h_15)
  (pop P (binE .eql 3 (.tmp 7) (.const (Value.int IntKind.i64 2)) t7_1 (Value.int IntKind.i64 2)) fun t35_1 =>
  condM t35_1
  (∃ (I_1 : List Value → Heap → Prop) (μ_1 : List Value → Heap → Nat), I_1 [] h_5 ∧
  ∀ (junk_1 : Nat → Value) (h_16 : Heap), I_1 [] h_16 →
  pop P (Instr.fieldAt 32 g3_1 0) fun t36_1 =>
  rop P (Instr.loadAt 22 t36_1) h_16 fun t37_1 =>
  pop P (lenS 22 3 t37_1) fun t38_1 =>
  callM P 110 #[c0_1, (Value.int IntKind.i64 2)] h_16 fun t40_1 h_17 =>
  (∀ w : World, w.heap = h_17 → (Instr.loadAt 22 t36_1).run P w = .ok t37_1 w) ∧
  pop P (binA .add 3 (Value.int IntKind.i64 8) t40_1) fun t41_1 =>
  pop P (binA .lss 3 t38_1 t41_1) fun t42_1 =>
  condM t42_1
  (pop P (Instr.fieldAt 32 g3_1 0) fun t43_1 =>
  rop P (Instr.loadAt 22 t43_1) h_17 fun t44_1 =>
  eop P (Instr.buildSlice 27 1 #[(0, (Value.int IntKind.i64 0))]) h_17 fun t45_1 h_18 =>
  eop P (Instr.buildSlice 22 1 #[(0, t45_1)]) h_18 fun t46_1 h_19 =>
  eop P (appS 22 22 22 t44_1 t46_1) h_19 fun t47_1 h_20 =>
  pop P (Instr.fieldAt 32 g3_1 0) fun t48_1 =>
  uop P (Instr.storeAt 22 t48_1 t47_1) h_20 fun u_6 h_21 =>
  I_1 [] h_21 ∧ μ_1 [] h_21 < μ_1 [] h_16)
  (rop P (Instr.loadAt 32 g3_1) h_17 fun t52_3 =>
  uop P (Instr.storeAt 32 t2_1 t52_3) h_17 fun u_7 h_22 =>
  rop P (Instr.loadAt 32 t2_1) h_22 fun r_3 =>
  K r_3 h_22))
  (pop P (binE .eql 3 (.tmp 7) (.const (Value.int IntKind.i64 3)) t7_1 (Value.int IntKind.i64 3)) fun t50_1 =>
  condM t50_1
  (pop P (Instr.build 32 #[]) fun t51_1 =>
  uop P (Instr.storeAt 32 g3_1 t51_1) h_5 fun u_8 h_23 =>
  rop P (Instr.loadAt 32 g3_1) h_23 fun t52_4 =>
  uop P (Instr.storeAt 32 t2_1 t52_4) h_23 fun u_9 h_24 =>
  rop P (Instr.loadAt 32 t2_1) h_24 fun r_4 =>
  K r_4 h_24)
  (rop P (Instr.loadAt 32 g3_1) h_5 fun t52_5 =>
  uop P (Instr.storeAt 32 t2_1 t52_5) h_5 fun u_10 h_25 =>
  rop P (Instr.loadAt 32 t2_1) h_25 fun r_5 =>
  K r_5 h_25))))
theorem e63 (c0_1 : Value) (h : Heap) (K : Value → Heap → Prop) : wpA Try.prog 53 (anOf [(7548, [])]) (bodyOf Try.f63) 1 (fun A h => resA Try.prog A h K [.cell 2 32]) (fun _ _ _ => False) (fun A h => resA Try.prog A h K [.cell 2 32]) (aargs [c0_1] 0) h = t63 Try.prog c0_1 h K := by kernel_rfl
theorem c63 (c0_1 : Value) (h : Heap) (K : Value → Heap → Prop) (H : t63 Try.prog c0_1 h K) : callM Try.prog 63 #[c0_1] h K :=
  callM_of_wpA mixed (fn := Try.f63) Try.func63 (c := bodyOf Try.f63) rfl (of_decide_eq_true (by kernel_rfl)) (anOf [(7548, [])]) 52 53 (by kernel_rfl) rfl [.cell 2 32] (by kernel_rfl) (args := [c0_1]) (by rw [e63]; exact H)
def t64 (P : Program) (c0_1 : Value) (g1_1 : Value) (h : Heap) (K : Value → Heap → Prop) : Prop :=
  eop P (Instr.box 32 g1_1) h fun g3_1 h_1 =>
  pop P (Instr.fieldAt 32 g3_1 0) fun t5_1 =>
  rop P (Instr.loadAt 22 t5_1) h_1 fun t6_1 =>
  pop P (lenS 22 3 t6_1) fun t7_1 =>
  pop P (binE .eql 3 (.tmp 7) (.const (Value.int IntKind.i64 0)) t7_1 (Value.int IntKind.i64 0)) fun t8_1 =>
  guardM (asG t8_1 false) false (fun k_1 => k_1 c0_1 h_1) h_1 fun t10_1 h_2 =>
  guardM (asG t8_1 false) false (fun k_2 => callM P 78 #[t10_1, (Value.int IntKind.i64 14)] h_2 fun t11_1 h_3 =>
  k_2 t11_1 h_3) h_2 fun t11_2 h_4 =>
  pop P (pickS t8_1 (Value.bool true) t11_2) fun t12_1 =>
  condM t12_1
  (pop P (Instr.fieldAt 32 g3_1 0) fun t14_1 =>
  rop P (Instr.loadAt 22 t14_1) h_4 fun t15_1 =>
  pop P (lenS 22 3 t15_1) fun t16_1 =>
  eop P (Instr.buildSlice 27 4 #[(0, (Value.int IntKind.i64 (-1))), (1, (Value.int IntKind.i64 0)), (2, t16_1), (3, (Value.int IntKind.i64 4611686018427387904))]) h_4 fun t17_1 h_5 =>
  callM P 79 #[c0_1, t17_1] h_5 fun t18_1 h_6 =>
  K t18_1 h_6)
  (pop P (Instr.fieldAt 32 g3_1 0) fun t20_1 =>
  rop P (Instr.loadAt 22 t20_1) h_4 fun t21_1 =>
  pop P (lenS 22 3 t21_1) fun t22_1 =>
  callM P 110 #[c0_1, t22_1] h_4 fun t23_1 h_7 =>
  K t23_1 h_7)
theorem e64 (c0_1 : Value) (g1_1 : Value) (h : Heap) (K : Value → Heap → Prop) : wpA Try.prog 24 (anOf []) (bodyOf Try.f64) 1 (fun A h => resA Try.prog A h K [.tmp 4]) (fun _ _ _ => False) (fun A h => resA Try.prog A h K [.tmp 4]) (aargs [c0_1, g1_1] 0) h = t64 Try.prog c0_1 g1_1 h K := by kernel_rfl
theorem c64 (c0_1 : Value) (g1_1 : Value) (h : Heap) (K : Value → Heap → Prop) (H : t64 Try.prog c0_1 g1_1 h K) : callM Try.prog 64 #[c0_1, g1_1] h K :=
  callM_of_wpA mixed (fn := Try.f64) Try.func64 (c := bodyOf Try.f64) rfl (of_decide_eq_true (by kernel_rfl)) (anOf []) 22 24 (by kernel_rfl) rfl [.tmp 4] (by kernel_rfl) (args := [c0_1, g1_1]) (by rw [e64]; exact H)
def t65 (P : Program) (g0_1 : Value) (places1_1 : Value) (h : Heap) (K : Value → Heap → Prop) : Prop :=
  eop P (Instr.box 32 g0_1) h fun g2_1 h_1 =>
  rop P (Instr.loadAt 32 g2_1) h_1 fun t5_1 =>
  callM P 56 #[t5_1] h_1 fun t6_1 h_2 =>
  guardM (asG t6_1 true) true (fun k_1 => k_1 places1_1 h_2) h_2 fun t8_1 h_3 =>
  guardM (asG t6_1 true) true (fun k_2 => pop P (Instr.makeFunc (Fn.func 111) #[] #[g2_1]) fun t9_1 =>
  k_2 t9_1 h_3) h_3 fun t9_2 h_4 =>
  guardM (asG t6_1 true) true (fun k_3 => callM P 103 #[t8_1, t9_2] h_4 fun t10_1 h_5 =>
  k_3 t10_1 h_5) h_4 fun t10_2 h_6 =>
  guardM (asG t6_1 true) true (fun k_4 => pop P (Op.unary .not t10_2) fun t11_1 =>
  k_4 t11_1 h_6) h_6 fun t11_2 h_7 =>
  pop P (pickS t6_1 t11_2 (Value.bool false)) fun t12_1 =>
  K t12_1 h_7
theorem e65 (g0_1 : Value) (places1_1 : Value) (h : Heap) (K : Value → Heap → Prop) : wpA Try.prog 13 (anOf []) (bodyOf Try.f65) 1 (fun A h => resA Try.prog A h K [.tmp 4]) (fun _ _ _ => False) (fun A h => resA Try.prog A h K [.tmp 4]) (aargs [g0_1, places1_1] 0) h = t65 Try.prog g0_1 places1_1 h K := by kernel_rfl
theorem c65 (g0_1 : Value) (places1_1 : Value) (h : Heap) (K : Value → Heap → Prop) (H : t65 Try.prog g0_1 places1_1 h K) : callM Try.prog 65 #[g0_1, places1_1] h K :=
  callM_of_wpA mixed (fn := Try.f65) Try.func65 (c := bodyOf Try.f65) rfl (of_decide_eq_true (by kernel_rfl)) (anOf []) 11 13 (by kernel_rfl) rfl [.tmp 4] (by kernel_rfl) (args := [g0_1, places1_1]) (by rw [e65]; exact H)
def t66 (P : Program) (g0_1 : Value) (p1_1 : Value) (h : Heap) (K : Value → Heap → Prop) : Prop :=
  eop P (Instr.box 32 g0_1) h fun g2_1 h_1 =>
  eop P (Instr.buildSlice 27 1 #[(0, (Value.int IntKind.i64 (-1)))]) h_1 fun t9_1 h_2 =>
  pop P (Instr.fieldAt 32 g2_1 0) fun t10_1 =>
  rop P (Instr.loadAt 22 t10_1) h_2 fun t11_1 =>
  pop P (lenS 22 3 t11_1) fun t12_1 =>
  callM P 112 #[t9_1, t12_1] h_2 fun t13_1 h_3 =>
  pop P (Instr.indexAt 27 t13_1 p1_1) fun t16_1 =>
  uop P (Instr.storeAt 3 t16_1 (Value.int IntKind.i64 0)) h_3 fun u_1 h_4 =>
  eop P (Instr.buildSlice 27 1 #[(0, p1_1)]) h_4 fun t18_1 h_5 =>
  ∃ (I_1 : List Value → Heap → Prop) (μ_1 : List Value → Heap → Nat), I_1 [t18_1] h_5 ∧
  ∀ (junk_1 : Nat → Value) (list6_1 : Value) (h_6 : Heap), I_1 [list6_1] h_6 →
  pop P (lenS 27 3 list6_1) fun t20_1 =>
  pop P (binA .gtr 3 t20_1 (Value.int IntKind.i64 0)) fun t21_1 =>
  condM t21_1
  (pop P (Instr.fieldAt 32 g2_1 0) fun t24_1 =>
  rop P (Instr.loadAt 22 t24_1) h_6 fun t25_1 =>
  pop P (Instr.indexAt 27 list6_1 (Value.int IntKind.i64 0)) fun t27_1 =>
  rop P (Instr.loadAt 3 t27_1) h_6 fun t28_1 =>
  pop P (Instr.indexAt 22 t25_1 t28_1) fun t29_1 =>
  rop P (Instr.loadAt 27 t29_1) h_6 fun t30_1 =>
  pop P (lenS 27 3 t30_1) fun t31_1 =>
  ∃ (I_2 : List Value → Heap → Prop) (μ_2 : List Value → Heap → Nat), I_2 [list6_1, (Value.int IntKind.i64 0)] h_6 ∧
  ∀ (junk_2 : Nat → Value) (list6_2 : Value) (t32_1 : Value) (h_7 : Heap), I_2 [list6_2, t32_1] h_7 →
  pop P (binA .lss 3 t32_1 t31_1) fun t33_1 =>
  condM t33_1
  (pop P (Instr.indexAt 27 t30_1 t32_1) fun t34_1 =>
  rop P (Instr.loadAt 3 t34_1) h_7 fun t35_1 =>
  pop P (Instr.indexAt 27 t13_1 t35_1) fun t38_1 =>
  rop P (Instr.loadAt 3 t38_1) h_7 fun t39_1 =>
  pop P (binA .lss 3 t39_1 (Value.int IntKind.i64 0)) fun t40_1 =>
  condM t40_1
  (pop P (Instr.indexAt 27 list6_2 (Value.int IntKind.i64 0)) fun t45_1 =>
  rop P (Instr.loadAt 3 t45_1) h_7 fun t46_1 =>
  pop P (Instr.indexAt 27 t13_1 t46_1) fun t47_1 =>
  rop P (Instr.loadAt 3 t47_1) h_7 fun t48_1 =>
  pop P (binA .add 3 t48_1 (Value.int IntKind.i64 1)) fun t49_1 =>
  pop P (Instr.indexAt 27 t13_1 t35_1) fun t50_1 =>
  uop P (Instr.storeAt 3 t50_1 t49_1) h_7 fun u_2 h_8 =>
  eop P (Instr.buildSlice 27 1 #[(0, t35_1)]) h_8 fun t53_1 h_9 =>
  eop P (appS 27 27 27 list6_2 t53_1) h_9 fun t54_1 h_10 =>
  pop P (binA .add 3 t32_1 (Value.int IntKind.i64 1)) fun t55_1 =>
  I_2 [t54_1, t55_1] h_10 ∧ μ_2 [t54_1, t55_1] h_10 < μ_2 [list6_2, t32_1] h_7)
  (pop P (binA .add 3 t32_1 (Value.int IntKind.i64 1)) fun t55_2 =>
  I_2 [list6_2, t55_2] h_7 ∧ μ_2 [list6_2, t55_2] h_7 < μ_2 [list6_2, t32_1] h_7))
  (pop P (Instr.sliceAt 27 list6_2 (some (Value.int IntKind.i64 1)) none none) fun t23_1 =>
  I_1 [t23_1] h_7 ∧ μ_1 [t23_1] h_7 < μ_1 [list6_1] h_6))
  (K t13_1 h_6)
theorem e66 (g0_1 : Value) (p1_1 : Value) (h : Heap) (K : Value → Heap → Prop) : wpA Try.prog 57 (anOf [(122, [6]), (7826, [6, 32])]) (bodyOf Try.f66) 1 (fun A h => resA Try.prog A h K [.tmp 4]) (fun _ _ _ => False) (fun A h => resA Try.prog A h K [.tmp 4]) (aargs [g0_1, p1_1] 0) h = t66 Try.prog g0_1 p1_1 h K := by kernel_rfl
theorem c66 (g0_1 : Value) (p1_1 : Value) (h : Heap) (K : Value → Heap → Prop) (H : t66 Try.prog g0_1 p1_1 h K) : callM Try.prog 66 #[g0_1, p1_1] h K :=
  callM_of_wpA mixed (fn := Try.f66) Try.func66 (c := bodyOf Try.f66) rfl (of_decide_eq_true (by kernel_rfl)) (anOf [(122, [6]), (7826, [6, 32])]) 55 57 (by kernel_rfl) rfl [.tmp 4] (by kernel_rfl) (args := [g0_1, p1_1]) (by rw [e66]; exact H)
def t67 (P : Program) (g0_1 : Value) (p1_1 : Value) (h : Heap) (K : Value → Heap → Prop) : Prop :=
  eop P (Instr.box 32 g0_1) h fun g2_1 h_1 =>
  rop P (Instr.loadAt 32 g2_1) h_1 fun t5_1 =>
  callM P 73 #[t5_1] h_1 fun t6_1 h_2 =>
  guardM (asG t6_1 true) true (fun k_1 => k_1 p1_1 h_2) h_2 fun t8_1 h_3 =>
  guardM (asG t6_1 true) true (fun k_2 => pop P (Instr.fieldAt 32 g2_1 0) fun t9_1 =>
  k_2 t9_1 h_3) h_3 fun t9_2 h_4 =>
  guardM (asG t6_1 true) true (fun k_3 => rop P (Instr.loadAt 22 t9_2) h_4 fun t10_1 =>
  k_3 t10_1 h_4) h_4 fun t10_2 h_5 =>
  guardM (asG t6_1 true) true (fun k_4 => pop P (lenS 22 3 t10_2) fun t11_1 =>
  k_4 t11_1 h_5) h_5 fun t11_2 h_6 =>
  guardM (asG t6_1 true) true (fun k_5 => pop P (binA .sub 3 t11_2 (Value.int IntKind.i64 1)) fun t12_1 =>
  k_5 t12_1 h_6) h_6 fun t12_2 h_7 =>
  guardM (asG t6_1 true) true (fun k_6 => callM P 113 #[t8_1, (Value.int IntKind.i64 0), t12_2] h_7 fun t13_1 h_8 =>
  k_6 t13_1 h_8) h_7 fun t13_2 h_9 =>
  pop P (pickS t6_1 t13_2 (Value.bool false)) fun t14_1 =>
  K t14_1 h_9
theorem e67 (g0_1 : Value) (p1_1 : Value) (h : Heap) (K : Value → Heap → Prop) : wpA Try.prog 15 (anOf []) (bodyOf Try.f67) 1 (fun A h => resA Try.prog A h K [.tmp 4]) (fun _ _ _ => False) (fun A h => resA Try.prog A h K [.tmp 4]) (aargs [g0_1, p1_1] 0) h = t67 Try.prog g0_1 p1_1 h K := by kernel_rfl
theorem c67 (g0_1 : Value) (p1_1 : Value) (h : Heap) (K : Value → Heap → Prop) (H : t67 Try.prog g0_1 p1_1 h K) : callM Try.prog 67 #[g0_1, p1_1] h K :=
  callM_of_wpA mixed (fn := Try.f67) Try.func67 (c := bodyOf Try.f67) rfl (of_decide_eq_true (by kernel_rfl)) (anOf []) 13 15 (by kernel_rfl) rfl [.tmp 4] (by kernel_rfl) (args := [g0_1, p1_1]) (by rw [e67]; exact H)
def t68 (P : Program) (g0_1 : Value) (p1_1 : Value) (h : Heap) (K : Value → Heap → Prop) : Prop :=
  eop P (Instr.box 32 g0_1) h fun g2_1 h_1 =>
  pop P (Instr.fieldAt 32 g2_1 0) fun t11_1 =>
  rop P (Instr.loadAt 22 t11_1) h_1 fun t12_1 =>
  pop P (lenS 22 3 t12_1) fun t13_1 =>
  eop P (Instr.makeSlice 27 t13_1 t13_1) h_1 fun t14_1 h_2 =>
  pop P (lenS 27 3 t14_1) fun t16_1 =>
  ∃ (I_1 : List Value → Heap → Prop) (μ_1 : List Value → Heap → Nat), I_1 [(Value.int IntKind.i64 0)] h_2 ∧
  ∀ (junk_1 : Nat → Value) (t17_1 : Value) (h_3 : Heap), I_1 [t17_1] h_3 →
  pop P (binA .lss 3 t17_1 t16_1) fun t18_1 =>
  condM t18_1
  (pop P (Instr.indexAt 27 t14_1 t17_1) fun t22_1 =>
  uop P (Instr.storeAt 3 t22_1 (Value.int IntKind.i64 (-1))) h_3 fun u_1 h_4 =>
  pop P (binA .add 3 t17_1 (Value.int IntKind.i64 1)) fun t23_1 =>
  I_1 [t23_1] h_4 ∧ μ_1 [t23_1] h_4 < μ_1 [t17_1] h_3)
  (pop P (Instr.indexAt 27 t14_1 p1_1) fun t26_1 =>
  uop P (Instr.storeAt 3 t26_1 (Value.int IntKind.i64 0)) h_3 fun u_2 h_5 =>
  eop P (Instr.buildSlice 27 1 #[(0, p1_1)]) h_5 fun t28_1 h_6 =>
  ∃ (I_2 : List Value → Heap → Prop) (μ_2 : List Value → Heap → Nat), I_2 [t28_1, (Value.int IntKind.i64 0)] h_6 ∧
  ∀ (junk_2 : Nat → Value) (queue7_1 : Value) (k8_1 : Value) (h_7 : Heap), I_2 [queue7_1, k8_1] h_7 →
  pop P (lenS 27 3 queue7_1) fun t31_1 =>
  pop P (binA .lss 3 k8_1 t31_1) fun t32_1 =>
  condM t32_1
  (pop P (Instr.fieldAt 32 g2_1 0) fun t35_1 =>
  rop P (Instr.loadAt 22 t35_1) h_7 fun t36_1 =>
  pop P (Instr.indexAt 27 queue7_1 k8_1) fun t39_1 =>
  rop P (Instr.loadAt 3 t39_1) h_7 fun t40_1 =>
  pop P (Instr.indexAt 22 t36_1 t40_1) fun t41_1 =>
  rop P (Instr.loadAt 27 t41_1) h_7 fun t42_1 =>
  pop P (lenS 27 3 t42_1) fun t43_1 =>
  ∃ (I_3 : List Value → Heap → Prop) (μ_3 : List Value → Heap → Nat), I_3 [queue7_1, (Value.int IntKind.i64 0)] h_7 ∧
  ∀ (junk_3 : Nat → Value) (queue7_2 : Value) (t44_1 : Value) (h_8 : Heap), I_3 [queue7_2, t44_1] h_8 →
  pop P (binA .lss 3 t44_1 t43_1) fun t45_1 =>
  condM t45_1
  (pop P (Instr.indexAt 27 t42_1 t44_1) fun t46_1 =>
  rop P (Instr.loadAt 3 t46_1) h_8 fun t47_1 =>
  pop P (Instr.indexAt 27 t14_1 t47_1) fun t50_1 =>
  rop P (Instr.loadAt 3 t50_1) h_8 fun t51_1 =>
  pop P (binA .lss 3 t51_1 (Value.int IntKind.i64 0)) fun t52_1 =>
  condM t52_1
  (pop P (Instr.indexAt 27 queue7_2 k8_1) fun t58_1 =>
  rop P (Instr.loadAt 3 t58_1) h_8 fun t59_1 =>
  pop P (Instr.indexAt 27 t14_1 t59_1) fun t60_1 =>
  rop P (Instr.loadAt 3 t60_1) h_8 fun t61_1 =>
  pop P (binA .add 3 t61_1 (Value.int IntKind.i64 1)) fun t62_1 =>
  pop P (Instr.indexAt 27 t14_1 t47_1) fun t63_1 =>
  uop P (Instr.storeAt 3 t63_1 t62_1) h_8 fun u_3 h_9 =>
  eop P (Instr.buildSlice 27 1 #[(0, t47_1)]) h_9 fun t66_1 h_10 =>
  eop P (appS 27 27 27 queue7_2 t66_1) h_10 fun t67_1 h_11 =>
  pop P (binA .add 3 t44_1 (Value.int IntKind.i64 1)) fun t68_1 =>
  I_3 [t67_1, t68_1] h_11 ∧ μ_3 [t67_1, t68_1] h_11 < μ_3 [queue7_2, t44_1] h_8)
  (pop P (binA .add 3 t44_1 (Value.int IntKind.i64 1)) fun t68_2 =>
  I_3 [queue7_2, t68_2] h_8 ∧ μ_3 [queue7_2, t68_2] h_8 < μ_3 [queue7_2, t44_1] h_8))
  (pop P (binA .add 3 k8_1 (Value.int IntKind.i64 1)) fun t34_1 =>
  I_2 [queue7_2, t34_1] h_8 ∧ μ_2 [queue7_2, t34_1] h_8 < μ_2 [queue7_1, k8_1] h_7))
  (K t14_1 h_7))
theorem e68 (g0_1 : Value) (p1_1 : Value) (h : Heap) (K : Value → Heap → Prop) : wpA Try.prog 70 (anOf [(58, [17]), (506, [7, 8]), (32402, [7, 44])]) (bodyOf Try.f68) 1 (fun A h => resA Try.prog A h K [.tmp 4]) (fun _ _ _ => False) (fun A h => resA Try.prog A h K [.tmp 4]) (aargs [g0_1, p1_1] 0) h = t68 Try.prog g0_1 p1_1 h K := by kernel_rfl
theorem c68 (g0_1 : Value) (p1_1 : Value) (h : Heap) (K : Value → Heap → Prop) (H : t68 Try.prog g0_1 p1_1 h K) : callM Try.prog 68 #[g0_1, p1_1] h K :=
  callM_of_wpA mixed (fn := Try.f68) Try.func68 (c := bodyOf Try.f68) rfl (of_decide_eq_true (by kernel_rfl)) (anOf [(58, [17]), (506, [7, 8]), (32402, [7, 44])]) 68 70 (by kernel_rfl) rfl [.tmp 4] (by kernel_rfl) (args := [g0_1, p1_1]) (by rw [e68]; exact H)
def t69 (P : Program) (g0_1 : Value) (p1_1 : Value) (h : Heap) (K : Value → Heap → Prop) : Prop :=
  eop P (Instr.box 32 g0_1) h fun g2_1 h_1 =>
  eop P (Instr.buildSlice 27 0 #[]) h_1 fun t8_1 h_2 =>
  rop P (Instr.loadAt 32 g2_1) h_2 fun t9_1 =>
  callM P 66 #[t9_1, p1_1] h_2 fun t11_1 h_3 =>
  pop P (lenS 27 3 t11_1) fun t12_1 =>
  ∃ (I_1 : List Value → Heap → Prop) (μ_1 : List Value → Heap → Nat), I_1 [t8_1, (Value.int IntKind.i64 0)] h_3 ∧
  ∀ (junk_1 : Nat → Value) (out5_1 : Value) (t13_1 : Value) (h_4 : Heap), I_1 [out5_1, t13_1] h_4 →
  pop P (binA .lss 3 t13_1 t12_1) fun t14_1 =>
  condM t14_1
  (pop P (Instr.indexAt 27 t11_1 t13_1) fun t16_1 =>
  rop P (Instr.loadAt 3 t16_1) h_4 fun t17_1 =>
  pop P (binA .geq 3 t17_1 (Value.int IntKind.i64 0)) fun t19_1 =>
  condM t19_1
  (eop P (Instr.buildSlice 27 1 #[(0, t13_1)]) h_4 fun t22_1 h_5 =>
  eop P (appS 27 27 27 out5_1 t22_1) h_5 fun t23_1 h_6 =>
  pop P (binA .add 3 t13_1 (Value.int IntKind.i64 1)) fun t24_1 =>
  I_1 [t23_1, t24_1] h_6 ∧ μ_1 [t23_1, t24_1] h_6 < μ_1 [out5_1, t13_1] h_4)
  (pop P (binA .add 3 t13_1 (Value.int IntKind.i64 1)) fun t24_2 =>
  I_1 [out5_1, t24_2] h_4 ∧ μ_1 [out5_1, t24_2] h_4 < μ_1 [out5_1, t13_1] h_4))
  (K out5_1 h_4)
theorem e69 (g0_1 : Value) (p1_1 : Value) (h : Heap) (K : Value → Heap → Prop) : wpA Try.prog 26 (anOf [(58, [5, 13])]) (bodyOf Try.f69) 1 (fun A h => resA Try.prog A h K [.tmp 4]) (fun _ _ _ => False) (fun A h => resA Try.prog A h K [.tmp 4]) (aargs [g0_1, p1_1] 0) h = t69 Try.prog g0_1 p1_1 h K := by kernel_rfl
theorem c69 (g0_1 : Value) (p1_1 : Value) (h : Heap) (K : Value → Heap → Prop) (H : t69 Try.prog g0_1 p1_1 h K) : callM Try.prog 69 #[g0_1, p1_1] h K :=
  callM_of_wpA mixed (fn := Try.f69) Try.func69 (c := bodyOf Try.f69) rfl (of_decide_eq_true (by kernel_rfl)) (anOf [(58, [5, 13])]) 24 26 (by kernel_rfl) rfl [.tmp 4] (by kernel_rfl) (args := [g0_1, p1_1]) (by rw [e69]; exact H)
def t70 (P : Program) (g0_1 : Value) (p1_1 : Value) (h : Heap) (K : Value → Heap → Prop) : Prop :=
  eop P (Instr.box 32 g0_1) h fun g2_1 h_1 =>
  rop P (Instr.loadAt 32 g2_1) h_1 fun t8_1 =>
  callM P 68 #[t8_1, p1_1] h_1 fun t10_1 h_2 =>
  pop P (lenS 27 3 t10_1) fun t11_1 =>
  ∃ (I_1 : List Value → Heap → Prop) (μ_1 : List Value → Heap → Nat), I_1 [(Value.slice none 0 0), (Value.int IntKind.i64 0)] h_2 ∧
  ∀ (junk_1 : Nat → Value) (out5_1 : Value) (t12_1 : Value) (h_3 : Heap), I_1 [out5_1, t12_1] h_3 →
  pop P (binA .lss 3 t12_1 t11_1) fun t13_1 =>
  condM t13_1
  (pop P (Instr.indexAt 27 t10_1 t12_1) fun t15_1 =>
  rop P (Instr.loadAt 3 t15_1) h_3 fun t16_1 =>
  pop P (binA .geq 3 t16_1 (Value.int IntKind.i64 0)) fun t18_1 =>
  condM t18_1
  (eop P (Instr.buildSlice 27 1 #[(0, t12_1)]) h_3 fun t21_1 h_4 =>
  eop P (appS 27 27 27 out5_1 t21_1) h_4 fun t22_1 h_5 =>
  pop P (binA .add 3 t12_1 (Value.int IntKind.i64 1)) fun t23_1 =>
  I_1 [t22_1, t23_1] h_5 ∧ μ_1 [t22_1, t23_1] h_5 < μ_1 [out5_1, t12_1] h_3)
  (pop P (binA .add 3 t12_1 (Value.int IntKind.i64 1)) fun t23_2 =>
  I_1 [out5_1, t23_2] h_3 ∧ μ_1 [out5_1, t23_2] h_3 < μ_1 [out5_1, t12_1] h_3))
  (K out5_1 h_3)
theorem e70 (g0_1 : Value) (p1_1 : Value) (h : Heap) (K : Value → Heap → Prop) : wpA Try.prog 25 (anOf [(58, [5, 12])]) (bodyOf Try.f70) 1 (fun A h => resA Try.prog A h K [.tmp 4]) (fun _ _ _ => False) (fun A h => resA Try.prog A h K [.tmp 4]) (aargs [g0_1, p1_1] 0) h = t70 Try.prog g0_1 p1_1 h K := by kernel_rfl
theorem c70 (g0_1 : Value) (p1_1 : Value) (h : Heap) (K : Value → Heap → Prop) (H : t70 Try.prog g0_1 p1_1 h K) : callM Try.prog 70 #[g0_1, p1_1] h K :=
  callM_of_wpA mixed (fn := Try.f70) Try.func70 (c := bodyOf Try.f70) rfl (of_decide_eq_true (by kernel_rfl)) (anOf [(58, [5, 12])]) 23 25 (by kernel_rfl) rfl [.tmp 4] (by kernel_rfl) (args := [g0_1, p1_1]) (by rw [e70]; exact H)
def t71 (P : Program) (code0_1 : Value) (h : Heap) (K : Value → Heap → Prop) : Prop :=
  eop P (Instr.alloc 32 true (.tuple #[])) h fun t2_1 h_1 =>
  pop P (Instr.build 86 #[(0, code0_1)]) fun t5_1 =>
  eop P (Instr.box 86 t5_1) h_1 fun t6_1 h_2 =>
  callM P 63 #[t6_1] h_2 fun t8_1 h_3 =>
  uop P (Instr.storeAt 32 t2_1 t8_1) h_3 fun u_1 h_4 =>
  rop P (Instr.loadAt 32 t2_1) h_4 fun r_1 =>
  K r_1 h_4
theorem e71 (code0_1 : Value) (h : Heap) (K : Value → Heap → Prop) : wpA Try.prog 9 (anOf []) (bodyOf Try.f71) 1 (fun A h => resA Try.prog A h K [.cell 2 32]) (fun _ _ _ => False) (fun A h => resA Try.prog A h K [.cell 2 32]) (aargs [code0_1] 0) h = t71 Try.prog code0_1 h K := by kernel_rfl
theorem c71 (code0_1 : Value) (h : Heap) (K : Value → Heap → Prop) (H : t71 Try.prog code0_1 h K) : callM Try.prog 71 #[code0_1] h K :=
  callM_of_wpA mixed (fn := Try.f71) Try.func71 (c := bodyOf Try.f71) rfl (of_decide_eq_true (by kernel_rfl)) (anOf []) 8 9 (by kernel_rfl) rfl [.cell 2 32] (by kernel_rfl) (args := [code0_1]) (by rw [e71]; exact H)
def t72 (P : Program) (s0_1 : Value) (v1_1 : Value) (h : Heap) (K : Value → Heap → Prop) : Prop :=
  callM P 114 #[s0_1, v1_1] h fun t7_1 h_1 =>
  pop P (binA .geq 3 t7_1 (Value.int IntKind.i64 0)) fun t8_1 =>
  K t8_1 h_1
theorem e72 (s0_1 : Value) (v1_1 : Value) (h : Heap) (K : Value → Heap → Prop) : wpA Try.prog 9 (anOf []) (bodyOf Try.f72) 1 (fun A h => resA Try.prog A h K [.tmp 4]) (fun _ _ _ => False) (fun A h => resA Try.prog A h K [.tmp 4]) (aargs [s0_1, v1_1] 0) h = t72 Try.prog s0_1 v1_1 h K := by kernel_rfl
theorem c72 (s0_1 : Value) (v1_1 : Value) (h : Heap) (K : Value → Heap → Prop) (H : t72 Try.prog s0_1 v1_1 h K) : callM Try.prog 72 #[s0_1, v1_1] h K :=
  callM_of_wpA mixed (fn := Try.f72) Try.func72 (c := bodyOf Try.f72) rfl (of_decide_eq_true (by kernel_rfl)) (anOf []) 7 9 (by kernel_rfl) rfl [.tmp 4] (by kernel_rfl) (args := [s0_1, v1_1]) (by rw [e72]; exact H)
def t73 (P : Program) (g0_1 : Value) (h : Heap) (K : Value → Heap → Prop) : Prop :=
  eop P (Instr.box 32 g0_1) h fun g1_1 h_1 =>
  pop P (Instr.fieldAt 32 g1_1 0) fun t6_1 =>
  rop P (Instr.loadAt 22 t6_1) h_1 fun t7_1 =>
  pop P (lenS 22 3 t7_1) fun t8_1 =>
  callM P 113 #[t8_1, (Value.int IntKind.i64 1), (Value.int IntKind.i64 8)] h_1 fun t10_1 h_2 =>
  pop P (Op.unary .not t10_1) fun t11_1 =>
  condM t11_1
  (K (Value.bool false) h_2)
  (pop P (Instr.fieldAt 32 g1_1 0) fun t12_1 =>
  rop P (Instr.loadAt 22 t12_1) h_2 fun t13_1 =>
  pop P (lenS 22 3 t13_1) fun t14_1 =>
  ∃ (I_1 : List Value → Heap → Prop) (μ_1 : List Value → Heap → Nat), I_1 [(Value.int IntKind.i64 0)] h_2 ∧
  ∀ (junk_1 : Nat → Value) (t15_1 : Value) (h_3 : Heap), I_1 [t15_1] h_3 →
  pop P (binA .lss 3 t15_1 t14_1) fun t16_1 =>
  condM t16_1
  (pop P (Instr.indexAt 22 t13_1 t15_1) fun t17_1 =>
  rop P (Instr.loadAt 27 t17_1) h_3 fun t18_1 =>
  pop P (lenS 27 3 t18_1) fun t20_1 =>
  pop P (binA .gtr 3 t20_1 (Value.int IntKind.i64 5)) fun t21_1 =>
  guardM (asG t21_1 false) false (fun k_1 => k_1 t18_1 h_3) h_3 fun t23_1 h_4 =>
  guardM (asG t21_1 false) false (fun k_2 => k_2 t8_1 h_4) h_4 fun t24_1 h_5 =>
  guardM (asG t21_1 false) false (fun k_3 => pop P (binA .sub 3 t24_1 (Value.int IntKind.i64 1)) fun t25_1 =>
  k_3 t25_1 h_5) h_5 fun t25_2 h_6 =>
  guardM (asG t21_1 false) false (fun k_4 => callM P 96 #[t23_1, (Value.int IntKind.i64 0), t25_2] h_6 fun t26_1 h_7 =>
  k_4 t26_1 h_7) h_6 fun t26_2 h_8 =>
  guardM (asG t21_1 false) false (fun k_5 => pop P (Op.unary .not t26_2) fun t27_1 =>
  k_5 t27_1 h_8) h_8 fun t27_2 h_9 =>
  pop P (pickS t21_1 (Value.bool true) t27_2) fun t28_1 =>
  condM t28_1
  (K (Value.bool false) h_9)
  (pop P (binA .add 3 t15_1 (Value.int IntKind.i64 1)) fun t29_1 =>
  I_1 [t29_1] h_9 ∧ μ_1 [t29_1] h_9 < μ_1 [t15_1] h_3))
  (K (Value.bool true) h_3))
theorem e73 (g0_1 : Value) (h : Heap) (K : Value → Heap → Prop) : wpA Try.prog 30 (anOf [(122, [15])]) (bodyOf Try.f73) 1 (fun A h => resA Try.prog A h K [.tmp 2]) (fun _ _ _ => False) (fun A h => resA Try.prog A h K [.tmp 2]) (aargs [g0_1] 0) h = t73 Try.prog g0_1 h K := by kernel_rfl
theorem c73 (g0_1 : Value) (h : Heap) (K : Value → Heap → Prop) (H : t73 Try.prog g0_1 h K) : callM Try.prog 73 #[g0_1] h K :=
  callM_of_wpA mixed (fn := Try.f73) Try.func73 (c := bodyOf Try.f73) rfl (of_decide_eq_true (by kernel_rfl)) (anOf [(122, [15])]) 29 30 (by kernel_rfl) rfl [.tmp 2] (by kernel_rfl) (args := [g0_1]) (by rw [e73]; exact H)
def t74 (P : Program) (l0_1 : Value) (n1_1 : Value) (h : Heap) (K : Value → Heap → Prop) : Prop :=
  pop P (lenS 27 3 l0_1) fun t8_1 =>
  ∃ (I_1 : List Value → Heap → Prop) (μ_1 : List Value → Heap → Nat), I_1 [(Value.int IntKind.i64 0)] h ∧
  ∀ (junk_1 : Nat → Value) (t9_1 : Value) (h_1 : Heap), I_1 [t9_1] h_1 →
  pop P (binA .lss 3 t9_1 t8_1) fun t10_1 =>
  condM t10_1
  (pop P (Instr.indexAt 27 l0_1 t9_1) fun t11_1 =>
  rop P (Instr.loadAt 3 t11_1) h_1 fun t12_1 =>
  pop P (binE .eql 3 (.tmp 13) (.tmp 14) t12_1 n1_1) fun t15_1 =>
  condM t15_1
  (K (Value.bool true) h_1)
  (pop P (binA .add 3 t9_1 (Value.int IntKind.i64 1)) fun t16_1 =>
  I_1 [t16_1] h_1 ∧ μ_1 [t16_1] h_1 < μ_1 [t9_1] h_1))
  (K (Value.bool false) h_1)
theorem e74 (l0_1 : Value) (n1_1 : Value) (h : Heap) (K : Value → Heap → Prop) : wpA Try.prog 17 (anOf [(26, [9])]) (bodyOf Try.f74) 1 (fun A h => resA Try.prog A h K [.tmp 4]) (fun _ _ _ => False) (fun A h => resA Try.prog A h K [.tmp 4]) (aargs [l0_1, n1_1] 0) h = t74 Try.prog l0_1 n1_1 h K := by kernel_rfl
theorem c74 (l0_1 : Value) (n1_1 : Value) (h : Heap) (K : Value → Heap → Prop) (H : t74 Try.prog l0_1 n1_1 h K) : callM Try.prog 74 #[l0_1, n1_1] h K :=
  callM_of_wpA mixed (fn := Try.f74) Try.func74 (c := bodyOf Try.f74) rfl (of_decide_eq_true (by kernel_rfl)) (anOf [(26, [9])]) 15 17 (by kernel_rfl) rfl [.tmp 4] (by kernel_rfl) (args := [l0_1, n1_1]) (by rw [e74]; exact H)
def t75 (P : Program) (g0_1 : Value) (h : Heap) (K : Value → Heap → Prop) : Prop :=
  eop P (Instr.box 32 g0_1) h fun g1_1 h_1 =>
  pop P (Instr.fieldAt 32 g1_1 0) fun t4_1 =>
  rop P (Instr.loadAt 22 t4_1) h_1 fun t5_1 =>
  pop P (lenS 22 3 t5_1) fun t6_1 =>
  ∃ (I_1 : List Value → Heap → Prop) (μ_1 : List Value → Heap → Nat), I_1 [(Value.int IntKind.i64 0)] h_1 ∧
  ∀ (junk_1 : Nat → Value) (t7_1 : Value) (h_2 : Heap), I_1 [t7_1] h_2 →
  pop P (binA .lss 3 t7_1 t6_1) fun t8_1 =>
  condM t8_1
  (rop P (Instr.loadAt 32 g1_1) h_2 fun t10_1 =>
  pop P (Instr.fieldAt 32 g1_1 0) fun t14_1 =>
  rop P (Instr.loadAt 22 t14_1) h_2 fun t15_1 =>
  pop P (lenS 22 3 t15_1) fun t16_1 =>
  callM P 69 #[t10_1, t7_1] h_2 fun t12_1 h_3 =>
  (∀ w : World, w.heap = h_3 → (Instr.loadAt 22 t14_1).run P w = .ok t15_1 w) ∧
  pop P (lenS 27 3 t12_1) fun t13_1 =>
  pop P (binE .neq 3 (.tmp 13) (.tmp 16) t13_1 t16_1) fun t17_1 =>
  condM t17_1
  (K (Value.bool false) h_3)
  (pop P (binA .add 3 t7_1 (Value.int IntKind.i64 1)) fun t18_1 =>
  I_1 [t18_1] h_3 ∧ μ_1 [t18_1] h_3 < μ_1 [t7_1] h_2))
  (K (Value.bool true) h_2)
theorem e75 (g0_1 : Value) (h : Heap) (K : Value → Heap → Prop) : wpA Try.prog 19 (anOf [(26, [7])]) (bodyOf Try.f75) 1 (fun A h => resA Try.prog A h K [.tmp 2]) (fun _ _ _ => False) (fun A h => resA Try.prog A h K [.tmp 2]) (aargs [g0_1] 0) h = t75 Try.prog g0_1 h K := by kernel_rfl
theorem c75 (g0_1 : Value) (h : Heap) (K : Value → Heap → Prop) (H : t75 Try.prog g0_1 h K) : callM Try.prog 75 #[g0_1] h K :=
  callM_of_wpA mixed (fn := Try.f75) Try.func75 (c := bodyOf Try.f75) rfl (of_decide_eq_true (by kernel_rfl)) (anOf [(26, [7])]) 18 19 (by kernel_rfl) rfl [.tmp 2] (by kernel_rfl) (args := [g0_1]) (by rw [e75]; exact H)
def t76 (P : Program) (g0_1 : Value) (h : Heap) (K : Value → Heap → Prop) : Prop :=
  eop P (Instr.box 32 g0_1) h fun g1_1 h_1 =>
  pop P (Instr.fieldAt 32 g1_1 0) fun t4_1 =>
  rop P (Instr.loadAt 22 t4_1) h_1 fun t5_1 =>
  pop P (lenS 22 3 t5_1) fun t6_1 =>
  ∃ (I_1 : List Value → Heap → Prop) (μ_1 : List Value → Heap → Nat), I_1 [(Value.int IntKind.i64 0)] h_1 ∧
  ∀ (junk_1 : Nat → Value) (t7_1 : Value) (h_2 : Heap), I_1 [t7_1] h_2 →
  pop P (binA .lss 3 t7_1 t6_1) fun t8_1 =>
  condM t8_1
  (rop P (Instr.loadAt 32 g1_1) h_2 fun t10_1 =>
  pop P (Instr.fieldAt 32 g1_1 0) fun t14_1 =>
  rop P (Instr.loadAt 22 t14_1) h_2 fun t15_1 =>
  pop P (lenS 22 3 t15_1) fun t16_1 =>
  callM P 70 #[t10_1, t7_1] h_2 fun t12_1 h_3 =>
  (∀ w : World, w.heap = h_3 → (Instr.loadAt 22 t14_1).run P w = .ok t15_1 w) ∧
  pop P (lenS 27 3 t12_1) fun t13_1 =>
  pop P (binE .neq 3 (.tmp 13) (.tmp 16) t13_1 t16_1) fun t17_1 =>
  condM t17_1
  (K (Value.bool false) h_3)
  (pop P (binA .add 3 t7_1 (Value.int IntKind.i64 1)) fun t18_1 =>
  I_1 [t18_1] h_3 ∧ μ_1 [t18_1] h_3 < μ_1 [t7_1] h_2))
  (K (Value.bool true) h_2)
theorem e76 (g0_1 : Value) (h : Heap) (K : Value → Heap → Prop) : wpA Try.prog 19 (anOf [(26, [7])]) (bodyOf Try.f76) 1 (fun A h => resA Try.prog A h K [.tmp 2]) (fun _ _ _ => False) (fun A h => resA Try.prog A h K [.tmp 2]) (aargs [g0_1] 0) h = t76 Try.prog g0_1 h K := by kernel_rfl
theorem c76 (g0_1 : Value) (h : Heap) (K : Value → Heap → Prop) (H : t76 Try.prog g0_1 h K) : callM Try.prog 76 #[g0_1] h K :=
  callM_of_wpA mixed (fn := Try.f76) Try.func76 (c := bodyOf Try.f76) rfl (of_decide_eq_true (by kernel_rfl)) (anOf [(26, [7])]) 18 19 (by kernel_rfl) rfl [.tmp 2] (by kernel_rfl) (args := [g0_1]) (by rw [e76]; exact H)
def t77 (P : Program) (c0_1 : Value) (n1_1 : Value) (h : Heap) (K : Value → Heap → Prop) : Prop :=
  ∃ (I_1 : List Value → Heap → Prop) (μ_1 : List Value → Heap → Nat), I_1 [(Value.slice none 0 0), (Value.int IntKind.i64 0)] h ∧
  ∀ (junk_1 : Nat → Value) (out5_1 : Value) (p6_1 : Value) (h_1 : Heap), I_1 [out5_1, p6_1] h_1 →
  pop P (binA .lss 3 p6_1 n1_1) fun t12_1 =>
  condM t12_1
  (eop P (Instr.buildSlice 27 1 #[(0, p6_1)]) h_1 fun t17_1 h_2 =>
  eop P (appS 27 27 27 out5_1 t17_1) h_2 fun t18_1 h_3 =>
  pop P (binA .add 3 p6_1 (Value.int IntKind.i64 1)) fun t14_1 =>
  I_1 [t18_1, t14_1] h_3 ∧ μ_1 [t18_1, t14_1] h_3 < μ_1 [out5_1, p6_1] h_1)
  (pop P (lenS 27 3 out5_1) fun t20_1 =>
  ∃ (I_2 : List Value → Heap → Prop) (μ_2 : List Value → Heap → Nat), I_2 [(Value.int IntKind.i64 0)] h_1 ∧
  ∀ (junk_2 : Nat → Value) (t21_1 : Value) (h_4 : Heap), I_2 [t21_1] h_4 →
  pop P (binA .lss 3 t21_1 t20_1) fun t22_1 =>
  condM t22_1
  (callM P 110 #[c0_1, n1_1] h_4 fun t26_1 h_5 =>
  pop P (Instr.indexAt 27 out5_1 t21_1) fun t29_1 =>
  rop P (Instr.loadAt 3 t29_1) h_5 fun t30_1 =>
  pop P (Instr.indexAt 27 out5_1 t26_1) fun t35_1 =>
  rop P (Instr.loadAt 3 t35_1) h_5 fun t36_1 =>
  pop P (Instr.indexAt 27 out5_1 t21_1) fun t37_1 =>
  uop P (Instr.storeAt 3 t37_1 t36_1) h_5 fun u_1 h_6 =>
  pop P (Instr.indexAt 27 out5_1 t26_1) fun t41_1 =>
  uop P (Instr.storeAt 3 t41_1 t30_1) h_6 fun u_2 h_7 =>
  pop P (binA .add 3 t21_1 (Value.int IntKind.i64 1)) fun t42_1 =>
  I_2 [t42_1] h_7 ∧ μ_2 [t42_1] h_7 < μ_2 [t21_1] h_4)
  (K out5_1 h_4))
theorem e77 (c0_1 : Value) (n1_1 : Value) (h : Heap) (K : Value → Heap → Prop) : wpA Try.prog 44 (anOf [(58, [5, 6]), (122, [21])]) (bodyOf Try.f77) 1 (fun A h => resA Try.prog A h K [.tmp 4]) (fun _ _ _ => False) (fun A h => resA Try.prog A h K [.tmp 4]) (aargs [c0_1, n1_1] 0) h = t77 Try.prog c0_1 n1_1 h K := by kernel_rfl
theorem c77 (c0_1 : Value) (n1_1 : Value) (h : Heap) (K : Value → Heap → Prop) (H : t77 Try.prog c0_1 n1_1 h K) : callM Try.prog 77 #[c0_1, n1_1] h K :=
  callM_of_wpA mixed (fn := Try.f77) Try.func77 (c := bodyOf Try.f77) rfl (of_decide_eq_true (by kernel_rfl)) (anOf [(58, [5, 6]), (122, [21])]) 42 44 (by kernel_rfl) rfl [.tmp 4] (by kernel_rfl) (args := [c0_1, n1_1]) (by rw [e77]; exact H)
def t78 (P : Program) (c0_1 : Value) (n1_1 : Value) (h : Heap) (K : Value → Heap → Prop) : Prop :=
  callM P 110 #[c0_1, n1_1] h fun t7_1 h_1 =>
  pop P (binE .eql 3 (.tmp 7) (.const (Value.int IntKind.i64 0)) t7_1 (Value.int IntKind.i64 0)) fun t8_1 =>
  K t8_1 h_1
theorem e78 (c0_1 : Value) (n1_1 : Value) (h : Heap) (K : Value → Heap → Prop) : wpA Try.prog 9 (anOf []) (bodyOf Try.f78) 1 (fun A h => resA Try.prog A h K [.tmp 4]) (fun _ _ _ => False) (fun A h => resA Try.prog A h K [.tmp 4]) (aargs [c0_1, n1_1] 0) h = t78 Try.prog c0_1 n1_1 h K := by kernel_rfl
theorem c78 (c0_1 : Value) (n1_1 : Value) (h : Heap) (K : Value → Heap → Prop) (H : t78 Try.prog c0_1 n1_1 h K) : callM Try.prog 78 #[c0_1, n1_1] h K :=
  callM_of_wpA mixed (fn := Try.f78) Try.func78 (c := bodyOf Try.f78) rfl (of_decide_eq_true (by kernel_rfl)) (anOf []) 7 9 (by kernel_rfl) rfl [.tmp 4] (by kernel_rfl) (args := [c0_1, n1_1]) (by rw [e78]; exact H)
def t79 (P : Program) (c0_1 : Value) (list1_1 : Value) (h : Heap) (K : Value → Heap → Prop) : Prop :=
  pop P (lenS 27 3 list1_1) fun t8_1 =>
  callM P 110 #[c0_1, t8_1] h fun t9_1 h_1 =>
  pop P (Instr.indexAt 27 list1_1 t9_1) fun t10_1 =>
  rop P (Instr.loadAt 3 t10_1) h_1 fun t11_1 =>
  K t11_1 h_1
theorem e79 (c0_1 : Value) (list1_1 : Value) (h : Heap) (K : Value → Heap → Prop) : wpA Try.prog 12 (anOf []) (bodyOf Try.f79) 1 (fun A h => resA Try.prog A h K [.tmp 4]) (fun _ _ _ => False) (fun A h => resA Try.prog A h K [.tmp 4]) (aargs [c0_1, list1_1] 0) h = t79 Try.prog c0_1 list1_1 h K := by kernel_rfl
theorem c79 (c0_1 : Value) (list1_1 : Value) (h : Heap) (K : Value → Heap → Prop) (H : t79 Try.prog c0_1 list1_1 h K) : callM Try.prog 79 #[c0_1, list1_1] h K :=
  callM_of_wpA mixed (fn := Try.f79) Try.func79 (c := bodyOf Try.f79) rfl (of_decide_eq_true (by kernel_rfl)) (anOf []) 10 12 (by kernel_rfl) rfl [.tmp 4] (by kernel_rfl) (args := [c0_1, list1_1]) (by rw [e79]; exact H)
def t80 (P : Program) (g0_1 : Value) (names1_1 : Value) (h : Heap) (K : Value → Heap → Prop) : Prop :=
  eop P (Instr.box 32 g0_1) h fun g2_1 h_1 =>
  eop P (Instr.alloc 32 true (.tuple #[])) h_1 fun t4_1 h_2 =>
  pop P (Instr.fieldAt 32 g2_1 0) fun t10_1 =>
  rop P (Instr.loadAt 22 t10_1) h_2 fun t11_1 =>
  pop P (lenS 22 3 t11_1) fun t12_1 =>
  eop P (Instr.makeSlice 22 t12_1 t12_1) h_2 fun t13_1 h_3 =>
  pop P (Instr.build 32 #[(0, t13_1)]) fun t14_1 =>
  eop P (Instr.alloc 32 true (.tuple #[])) h_3 fun out5_1 h_4 =>
  uop P (Instr.storeAt 32 out5_1 t14_1) h_4 fun u_1 h_5 =>
  pop P (Instr.fieldAt 32 g2_1 0) fun t15_1 =>
  rop P (Instr.loadAt 22 t15_1) h_5 fun t16_1 =>
  pop P (lenS 22 3 t16_1) fun t17_1 =>
  ∃ (I_1 : List Value → Heap → Prop) (μ_1 : List Value → Heap → Nat), I_1 [(Value.int IntKind.i64 0)] h_5 ∧
  ∀ (junk_1 : Nat → Value) (t18_1 : Value) (h_6 : Heap), I_1 [t18_1] h_6 →
  pop P (binA .lss 3 t18_1 t17_1) fun t19_1 =>
  condM t19_1
  (pop P (Instr.indexAt 22 t16_1 t18_1) fun t21_1 =>
  rop P (Instr.loadAt 27 t21_1) h_6 fun t22_1 =>
  pop P (lenS 27 3 t22_1) fun t24_1 =>
  ∃ (I_2 : List Value → Heap → Prop) (μ_2 : List Value → Heap → Nat), I_2 [(Value.int IntKind.i64 0)] h_6 ∧
  ∀ (junk_2 : Nat → Value) (t25_1 : Value) (h_7 : Heap), I_2 [t25_1] h_7 →
  pop P (binA .lss 3 t25_1 t24_1) fun t26_1 =>
  condM t26_1
  (pop P (Instr.indexAt 27 t22_1 t25_1) fun t27_1 =>
  rop P (Instr.loadAt 3 t27_1) h_7 fun t28_1 =>
  pop P (Instr.fieldAt 32 out5_1 0) fun t29_1 =>
  rop P (Instr.loadAt 22 t29_1) h_7 fun t30_1 =>
  pop P (Instr.indexAt 27 names1_1 t18_1) fun t33_1 =>
  rop P (Instr.loadAt 3 t33_1) h_7 fun t34_1 =>
  pop P (Instr.fieldAt 32 out5_1 0) fun t35_1 =>
  rop P (Instr.loadAt 22 t35_1) h_7 fun t36_1 =>
  pop P (Instr.indexAt 27 names1_1 t18_1) fun t39_1 =>
  rop P (Instr.loadAt 3 t39_1) h_7 fun t40_1 =>
  pop P (Instr.indexAt 22 t36_1 t40_1) fun t41_1 =>
  rop P (Instr.loadAt 27 t41_1) h_7 fun t42_1 =>
  pop P (Instr.indexAt 27 names1_1 t28_1) fun t45_1 =>
  rop P (Instr.loadAt 3 t45_1) h_7 fun t46_1 =>
  eop P (Instr.buildSlice 27 1 #[(0, t46_1)]) h_7 fun t47_1 h_8 =>
  (∀ w : World, w.heap = h_8 → (Instr.loadAt 27 t41_1).run P w = .ok t42_1 w) ∧
  (∀ w : World, w.heap = h_8 → (Instr.loadAt 3 t39_1).run P w = .ok t40_1 w) ∧
  (∀ w : World, w.heap = h_8 → (Instr.loadAt 22 t35_1).run P w = .ok t36_1 w) ∧
  (∀ w : World, w.heap = h_8 → (Instr.loadAt 3 t33_1).run P w = .ok t34_1 w) ∧
  (∀ w : World, w.heap = h_8 → (Instr.loadAt 22 t29_1).run P w = .ok t30_1 w) ∧
  eop P (appS 27 27 27 t42_1 t47_1) h_8 fun t48_1 h_9 =>
  (∀ w : World, w.heap = h_9 → (Instr.loadAt 3 t39_1).run P w = .ok t40_1 w) ∧
  (∀ w : World, w.heap = h_9 → (Instr.loadAt 22 t35_1).run P w = .ok t36_1 w) ∧
  (∀ w : World, w.heap = h_9 → (Instr.loadAt 3 t33_1).run P w = .ok t34_1 w) ∧
  (∀ w : World, w.heap = h_9 → (Instr.loadAt 22 t29_1).run P w = .ok t30_1 w) ∧
  pop P (Instr.indexAt 22 t30_1 t34_1) fun t49_1 =>
  uop P (Instr.storeAt 27 t49_1 t48_1) h_9 fun u_2 h_10 =>
  pop P (binA .add 3 t25_1 (Value.int IntKind.i64 1)) fun t50_1 =>
  I_2 [t50_1] h_10 ∧ μ_2 [t50_1] h_10 < μ_2 [t25_1] h_7)
  (pop P (binA .add 3 t18_1 (Value.int IntKind.i64 1)) fun t51_1 =>
  I_1 [t51_1] h_7 ∧ μ_1 [t51_1] h_7 < μ_1 [t18_1] h_6))
  (rop P (Instr.loadAt 32 out5_1) h_6 fun t52_1 =>
  uop P (Instr.storeAt 32 t4_1 t52_1) h_6 fun u_3 h_11 =>
  rop P (Instr.loadAt 32 t4_1) h_11 fun r_1 =>
  K r_1 h_11)
theorem e80 (g0_1 : Value) (names1_1 : Value) (h : Heap) (K : Value → Heap → Prop) : wpA Try.prog 53 (anOf [(58, [18]), (14950, [25])]) (bodyOf Try.f80) 1 (fun A h => resA Try.prog A h K [.cell 4 32]) (fun _ _ _ => False) (fun A h => resA Try.prog A h K [.cell 4 32]) (aargs [g0_1, names1_1] 0) h = t80 Try.prog g0_1 names1_1 h K := by kernel_rfl
theorem c80 (g0_1 : Value) (names1_1 : Value) (h : Heap) (K : Value → Heap → Prop) (H : t80 Try.prog g0_1 names1_1 h K) : callM Try.prog 80 #[g0_1, names1_1] h K :=
  callM_of_wpA mixed (fn := Try.f80) Try.func80 (c := bodyOf Try.f80) rfl (of_decide_eq_true (by kernel_rfl)) (anOf [(58, [18]), (14950, [25])]) 51 53 (by kernel_rfl) rfl [.cell 4 32] (by kernel_rfl) (args := [g0_1, names1_1]) (by rw [e80]; exact H)
def t81 (P : Program) (code0_1 : Value) (h : Heap) (K : Value → Heap → Prop) : Prop :=
  eop P (Instr.alloc 32 true (.tuple #[])) h fun t2_1 h_1 =>
  pop P (Instr.build 86 #[(0, code0_1)]) fun t7_1 =>
  eop P (Instr.box 86 t7_1) h_1 fun t8_1 h_2 =>
  callM P 63 #[t8_1] h_2 fun t10_1 h_3 =>
  eop P (Instr.alloc 32 true (.tuple #[])) h_3 fun g5_1 h_4 =>
  uop P (Instr.storeAt 32 g5_1 t10_1) h_4 fun u_1 h_5 =>
  rop P (Instr.loadAt 32 g5_1) h_5 fun t11_1 =>
  rop P (Instr.loadAt 32 g5_1) h_5 fun t13_1 =>
  callM P 64 #[t8_1, t13_1] h_5 fun t14_1 h_6 =>
  (∀ w : World, w.heap = h_6 → (Instr.loadAt 32 g5_1).run P w = .ok t11_1 w) ∧
  uop P (Instr.storeAt 32 t2_1 t11_1) h_6 fun u_2 h_7 =>
  rop P (Instr.loadAt 32 t2_1) h_7 fun r_1 =>
  K (.tuple #[r_1, t14_1]) h_7
theorem e81 (code0_1 : Value) (h : Heap) (K : Value → Heap → Prop) : wpA Try.prog 15 (anOf []) (bodyOf Try.f81) 1 (fun A h => resA Try.prog A h K [.cell 2 32, .tmp 3]) (fun _ _ _ => False) (fun A h => resA Try.prog A h K [.cell 2 32, .tmp 3]) (aargs [code0_1] 0) h = t81 Try.prog code0_1 h K := by kernel_rfl
theorem c81 (code0_1 : Value) (h : Heap) (K : Value → Heap → Prop) (H : t81 Try.prog code0_1 h K) : callM Try.prog 81 #[code0_1] h K :=
  callM_of_wpA mixed (fn := Try.f81) Try.func81 (c := bodyOf Try.f81) rfl (of_decide_eq_true (by kernel_rfl)) (anOf []) 14 15 (by kernel_rfl) rfl [.cell 2 32, .tmp 3] (by kernel_rfl) (args := [code0_1]) (by rw [e81]; exact H)
def t82 (P : Program) (g0_1 : Value) (p1_1 : Value) (h : Heap) (K : Value → Heap → Prop) : Prop :=
  eop P (Instr.box 32 g0_1) h fun g2_1 h_1 =>
  pop P (Instr.fieldAt 32 g2_1 0) fun t6_1 =>
  rop P (Instr.loadAt 22 t6_1) h_1 fun t7_1 =>
  pop P (lenS 22 3 t7_1) fun t8_1 =>
  ∃ (I_1 : List Value → Heap → Prop) (μ_1 : List Value → Heap → Nat), I_1 [(Value.int IntKind.i64 0)] h_1 ∧
  ∀ (junk_1 : Nat → Value) (t9_1 : Value) (h_2 : Heap), I_1 [t9_1] h_2 →
  pop P (binA .lss 3 t9_1 t8_1) fun t10_1 =>
  condM t10_1
  (rop P (Instr.loadAt 32 g2_1) h_2 fun t12_1 =>
  callM P 66 #[t12_1, t9_1] h_2 fun t14_1 h_3 =>
  pop P (Instr.indexAt 27 t14_1 p1_1) fun t16_1 =>
  rop P (Instr.loadAt 3 t16_1) h_3 fun t17_1 =>
  pop P (binA .lss 3 t17_1 (Value.int IntKind.i64 0)) fun t18_1 =>
  condM t18_1
  (K (Value.bool false) h_3)
  (pop P (binA .add 3 t9_1 (Value.int IntKind.i64 1)) fun t19_1 =>
  I_1 [t19_1] h_3 ∧ μ_1 [t19_1] h_3 < μ_1 [t9_1] h_2))
  (K (Value.bool true) h_2)
theorem e82 (g0_1 : Value) (p1_1 : Value) (h : Heap) (K : Value → Heap → Prop) : wpA Try.prog 20 (anOf [(26, [9])]) (bodyOf Try.f82) 1 (fun A h => resA Try.prog A h K [.tmp 4]) (fun _ _ _ => False) (fun A h => resA Try.prog A h K [.tmp 4]) (aargs [g0_1, p1_1] 0) h = t82 Try.prog g0_1 p1_1 h K := by kernel_rfl
theorem c82 (g0_1 : Value) (p1_1 : Value) (h : Heap) (K : Value → Heap → Prop) (H : t82 Try.prog g0_1 p1_1 h K) : callM Try.prog 82 #[g0_1, p1_1] h K :=
  callM_of_wpA mixed (fn := Try.f82) Try.func82 (c := bodyOf Try.f82) rfl (of_decide_eq_true (by kernel_rfl)) (anOf [(26, [9])]) 18 20 (by kernel_rfl) rfl [.tmp 4] (by kernel_rfl) (args := [g0_1, p1_1]) (by rw [e82]; exact H)
def t83 (P : Program) (g0_1 : Value) (p1_1 : Value) (h : Heap) (K : Value → Heap → Prop) : Prop :=
  eop P (Instr.box 32 g0_1) h fun g2_1 h_1 =>
  pop P (Instr.fieldAt 32 g2_1 0) fun t6_1 =>
  rop P (Instr.loadAt 22 t6_1) h_1 fun t7_1 =>
  pop P (lenS 22 3 t7_1) fun t8_1 =>
  ∃ (I_1 : List Value → Heap → Prop) (μ_1 : List Value → Heap → Nat), I_1 [(Value.int IntKind.i64 0)] h_1 ∧
  ∀ (junk_1 : Nat → Value) (t9_1 : Value) (h_2 : Heap), I_1 [t9_1] h_2 →
  pop P (binA .lss 3 t9_1 t8_1) fun t10_1 =>
  condM t10_1
  (rop P (Instr.loadAt 32 g2_1) h_2 fun t12_1 =>
  callM P 68 #[t12_1, t9_1] h_2 fun t14_1 h_3 =>
  pop P (Instr.indexAt 27 t14_1 p1_1) fun t16_1 =>
  rop P (Instr.loadAt 3 t16_1) h_3 fun t17_1 =>
  pop P (binA .lss 3 t17_1 (Value.int IntKind.i64 0)) fun t18_1 =>
  condM t18_1
  (K (Value.bool false) h_3)
  (pop P (binA .add 3 t9_1 (Value.int IntKind.i64 1)) fun t19_1 =>
  I_1 [t19_1] h_3 ∧ μ_1 [t19_1] h_3 < μ_1 [t9_1] h_2))
  (K (Value.bool true) h_2)
theorem e83 (g0_1 : Value) (p1_1 : Value) (h : Heap) (K : Value → Heap → Prop) : wpA Try.prog 20 (anOf [(26, [9])]) (bodyOf Try.f83) 1 (fun A h => resA Try.prog A h K [.tmp 4]) (fun _ _ _ => False) (fun A h => resA Try.prog A h K [.tmp 4]) (aargs [g0_1, p1_1] 0) h = t83 Try.prog g0_1 p1_1 h K := by kernel_rfl
theorem c83 (g0_1 : Value) (p1_1 : Value) (h : Heap) (K : Value → Heap → Prop) (H : t83 Try.prog g0_1 p1_1 h K) : callM Try.prog 83 #[g0_1, p1_1] h K :=
  callM_of_wpA mixed (fn := Try.f83) Try.func83 (c := bodyOf Try.f83) rfl (of_decide_eq_true (by kernel_rfl)) (anOf [(26, [9])]) 18 20 (by kernel_rfl) rfl [.tmp 4] (by kernel_rfl) (args := [g0_1, p1_1]) (by rw [e83]; exact H)
def t96 (P : Program) (l0_1 : Value) (lo1_1 : Value) (hi2_1 : Value) (h : Heap) (K : Value → Heap → Prop) : Prop :=
  pop P (lenS 27 3 l0_1) fun t10_1 =>
  ∃ (I_1 : List Value → Heap → Prop) (μ_1 : List Value → Heap → Nat), I_1 [(Value.int IntKind.i64 0)] h ∧
  ∀ (junk_1 : Nat → Value) (t11_1 : Value) (h_1 : Heap), I_1 [t11_1] h_1 →
  pop P (binA .lss 3 t11_1 t10_1) fun t12_1 =>
  condM t12_1
  (pop P (Instr.indexAt 27 l0_1 t11_1) fun t13_1 =>
  rop P (Instr.loadAt 3 t13_1) h_1 fun t14_1 =>
  callM P 113 #[t14_1, lo1_1, hi2_1] h_1 fun t18_1 h_2 =>
  pop P (Op.unary .not t18_1) fun t19_1 =>
  condM t19_1
  (K (Value.bool false) h_2)
  (pop P (binA .add 3 t11_1 (Value.int IntKind.i64 1)) fun t20_1 =>
  I_1 [t20_1] h_2 ∧ μ_1 [t20_1] h_2 < μ_1 [t11_1] h_1))
  (K (Value.bool true) h_1)
theorem e96 (l0_1 : Value) (lo1_1 : Value) (hi2_1 : Value) (h : Heap) (K : Value → Heap → Prop) : wpA Try.prog 21 (anOf [(26, [11])]) (bodyOf Try.f96) 1 (fun A h => resA Try.prog A h K [.tmp 6]) (fun _ _ _ => False) (fun A h => resA Try.prog A h K [.tmp 6]) (aargs [l0_1, lo1_1, hi2_1] 0) h = t96 Try.prog l0_1 lo1_1 hi2_1 h K := by kernel_rfl
theorem c96 (l0_1 : Value) (lo1_1 : Value) (hi2_1 : Value) (h : Heap) (K : Value → Heap → Prop) (H : t96 Try.prog l0_1 lo1_1 hi2_1 h K) : callM Try.prog 96 #[l0_1, lo1_1, hi2_1] h K :=
  callM_of_wpA mixed (fn := Try.f96) Try.func96 (c := bodyOf Try.f96) rfl (of_decide_eq_true (by kernel_rfl)) (anOf [(26, [11])]) 18 21 (by kernel_rfl) rfl [.tmp 6] (by kernel_rfl) (args := [l0_1, lo1_1, hi2_1]) (by rw [e96]; exact H)
def t102 (P : Program) (n0_1 : Value) (low1_1 : Value) (high2_1 : Value) (h : Heap) (K : Value → Heap → Prop) : Prop :=
  pop P (binA .leq 3 low1_1 n0_1) fun t9_1 =>
  guardM (asG t9_1 true) true (fun k_1 => k_1 n0_1 h) h fun t11_1 h_1 =>
  guardM (asG t9_1 true) true (fun k_2 => k_2 high2_1 h_1) h_1 fun t12_1 h_2 =>
  guardM (asG t9_1 true) true (fun k_3 => pop P (binA .leq 3 t11_1 t12_1) fun t13_1 =>
  k_3 t13_1 h_2) h_2 fun t13_2 h_3 =>
  pop P (pickS t9_1 t13_2 (Value.bool false)) fun t14_1 =>
  K t14_1 h_3
theorem e102 (n0_1 : Value) (low1_1 : Value) (high2_1 : Value) (h : Heap) (K : Value → Heap → Prop) : wpA Try.prog 15 (anOf []) (bodyOf Try.f102) 1 (fun A h => resA Try.prog A h K [.tmp 6]) (fun _ _ _ => False) (fun A h => resA Try.prog A h K [.tmp 6]) (aargs [n0_1, low1_1, high2_1] 0) h = t102 Try.prog n0_1 low1_1 high2_1 h K := by kernel_rfl
theorem c102 (n0_1 : Value) (low1_1 : Value) (high2_1 : Value) (h : Heap) (K : Value → Heap → Prop) (H : t102 Try.prog n0_1 low1_1 high2_1 h K) : callM Try.prog 102 #[n0_1, low1_1, high2_1] h K :=
  callM_of_wpA mixed (fn := Try.f102) Try.func102 (c := bodyOf Try.f102) rfl (of_decide_eq_true (by kernel_rfl)) (anOf []) 12 15 (by kernel_rfl) rfl [.tmp 6] (by kernel_rfl) (args := [n0_1, low1_1, high2_1]) (by rw [e102]; exact H)
def t103 (P : Program) (s0_1 : Value) (f1_1 : Value) (h : Heap) (K : Value → Heap → Prop) : Prop :=
  callM P 121 #[s0_1, f1_1] h fun t7_1 h_1 =>
  pop P (binA .geq 3 t7_1 (Value.int IntKind.i64 0)) fun t8_1 =>
  K t8_1 h_1
theorem e103 (s0_1 : Value) (f1_1 : Value) (h : Heap) (K : Value → Heap → Prop) : wpA Try.prog 9 (anOf []) (bodyOf Try.f103) 1 (fun A h => resA Try.prog A h K [.tmp 4]) (fun _ _ _ => False) (fun A h => resA Try.prog A h K [.tmp 4]) (aargs [s0_1, f1_1] 0) h = t103 Try.prog s0_1 f1_1 h K := by kernel_rfl
theorem c103 (s0_1 : Value) (f1_1 : Value) (h : Heap) (K : Value → Heap → Prop) (H : t103 Try.prog s0_1 f1_1 h K) : callM Try.prog 103 #[s0_1, f1_1] h K :=
  callM_of_wpA mixed (fn := Try.f103) Try.func103 (c := bodyOf Try.f103) rfl (of_decide_eq_true (by kernel_rfl)) (anOf []) 7 9 (by kernel_rfl) rfl [.tmp 4] (by kernel_rfl) (args := [s0_1, f1_1]) (by rw [e103]; exact H)
def t104 (P : Program) (q0_1 : Value) (t1_1 : Value) (h : Heap) (K : Value → Heap → Prop) : Prop :=
  rop P (Instr.loadAt 3 t1_1) h fun t5_1 =>
  pop P (binA .sub 3 t5_1 (Value.int IntKind.i64 1)) fun t6_1 =>
  callM P 102 #[q0_1, (Value.int IntKind.i64 0), t6_1] h fun t7_1 h_1 =>
  pop P (Op.unary .not t7_1) fun t8_1 =>
  K t8_1 h_1
theorem e104 (q0_1 : Value) (t1_1 : Value) (h : Heap) (K : Value → Heap → Prop) : wpA Try.prog 9 (anOf []) (bodyOf Try.f104) 1 (fun A h => resA Try.prog A h K [.tmp 3]) (fun _ _ _ => False) (fun A h => resA Try.prog A h K [.tmp 3]) (aargs [q0_1, t1_1] 0) h = t104 Try.prog q0_1 t1_1 h K := by kernel_rfl
theorem c104 (q0_1 : Value) (t1_1 : Value) (h : Heap) (K : Value → Heap → Prop) (H : t104 Try.prog q0_1 t1_1 h K) : callM Try.prog 104 #[q0_1, t1_1] h K :=
  callM_of_wpA mixed (fn := Try.f104) Try.func104 (c := bodyOf Try.f104) rfl (of_decide_eq_true (by kernel_rfl)) (anOf []) 7 9 (by kernel_rfl) rfl [.tmp 3] (by kernel_rfl) (args := [q0_1, t1_1]) (by rw [e104]; exact H)
def t105 (P : Program) (seq0_1 : Value) (h : Heap) (K : Value → Heap → Prop) : Prop :=
  callM P 122 #[seq0_1] h fun t5_1 h_1 =>
  callM P 123 #[t5_1] h_1 fun t7_1 h_2 =>
  K t5_1 h_2
theorem e105 (seq0_1 : Value) (h : Heap) (K : Value → Heap → Prop) : wpA Try.prog 9 (anOf []) (bodyOf Try.f105) 1 (fun A h => resA Try.prog A h K [.tmp 2]) (fun _ _ _ => False) (fun A h => resA Try.prog A h K [.tmp 2]) (aargs [seq0_1] 0) h = t105 Try.prog seq0_1 h K := by kernel_rfl
theorem c105 (seq0_1 : Value) (h : Heap) (K : Value → Heap → Prop) (H : t105 Try.prog seq0_1 h K) : callM Try.prog 105 #[seq0_1] h K :=
  callM_of_wpA mixed (fn := Try.f105) Try.func105 (c := bodyOf Try.f105) rfl (of_decide_eq_true (by kernel_rfl)) (anOf []) 8 9 (by kernel_rfl) rfl [.tmp 2] (by kernel_rfl) (args := [seq0_1]) (by rw [e105]; exact H)
def t106 (P : Program) (s0_1 : Value) (h : Heap) (K : Value → Heap → Prop) : Prop :=
  eop P (Instr.box 27 s0_1) h fun s1_1 h_1 =>
  pop P (Instr.makeFunc (Fn.func 124) #[] #[s1_1]) fun t3_1 =>
  K t3_1 h_1
theorem e106 (s0_1 : Value) (h : Heap) (K : Value → Heap → Prop) : wpA Try.prog 4 (anOf []) (bodyOf Try.f106) 1 (fun A h => resA Try.prog A h K [.tmp 2]) (fun _ _ _ => False) (fun A h => resA Try.prog A h K [.tmp 2]) (aargs [s0_1] 0) h = t106 Try.prog s0_1 h K := by kernel_rfl
theorem c106 (s0_1 : Value) (h : Heap) (K : Value → Heap → Prop) (H : t106 Try.prog s0_1 h K) : callM Try.prog 106 #[s0_1] h K :=
  callM_of_wpA mixed (fn := Try.f106) Try.func106 (c := bodyOf Try.f106) rfl (of_decide_eq_true (by kernel_rfl)) (anOf []) 3 4 (by kernel_rfl) rfl [.tmp 2] (by kernel_rfl) (args := [s0_1]) (by rw [e106]; exact H)
def t109 (P : Program) (c0_1 : Value) (most1_1 : Value) (h : Heap) (K : Value → Heap → Prop) : Prop :=
  eop P (Instr.alloc 32 true (.tuple #[])) h fun t4_1 h_1 =>
  callM P 110 #[c0_1, most1_1] h_1 fun t13_1 h_2 =>
  pop P (binA .add 3 (Value.int IntKind.i64 1) t13_1) fun t14_1 =>
  callM P 78 #[c0_1, (Value.int IntKind.i64 4)] h_2 fun t16_1 h_3 =>
  condM t16_1
  (callM P 78 #[c0_1, (Value.int IntKind.i64 2)] h_3 fun t19_1 h_4 =>
  callM P 130 #[t14_1, t19_1] h_4 fun t20_1 h_5 =>
  uop P (Instr.storeAt 32 t4_1 t20_1) h_5 fun u_1 h_6 =>
  rop P (Instr.loadAt 32 t4_1) h_6 fun r_1 =>
  K r_1 h_6)
  (pop P (Instr.build 32 #[]) fun t21_1 =>
  eop P (Instr.alloc 32 true (.tuple #[])) h_3 fun g6_1 h_7 =>
  uop P (Instr.storeAt 32 g6_1 t21_1) h_7 fun u_2 h_8 =>
  ∃ (I_1 : List Value → Heap → Prop) (μ_1 : List Value → Heap → Nat), I_1 [(Value.int IntKind.i64 0)] h_8 ∧
  ∀ (junk_1 : Nat → Value) (p7_1 : Value) (h_9 : Heap), I_1 [p7_1] h_9 →
  pop P (binA .lss 3 p7_1 t14_1) fun t24_1 =>
  condM t24_1
  (callM P 110 #[c0_1, (Value.int IntKind.i64 3)] h_9 fun t28_1 h_10 =>
  pop P (binA .add 3 (Value.int IntKind.i64 1) t28_1) fun t29_1 =>
  ∃ (I_2 : List Value → Heap → Prop) (μ_2 : List Value → Heap → Nat), I_2 [(Value.slice none 0 0), t29_1] h_10 ∧
  ∀ (junk_2 : Nat → Value) (list8_1 : Value) (k9_1 : Value) (h_11 : Heap), I_2 [list8_1, k9_1] h_11 →
  pop P (binA .gtr 3 k9_1 (Value.int IntKind.i64 0)) fun t31_1 =>
  condM t31_1
  (callM P 110 #[c0_1, t14_1] h_11 fun t37_1 h_12 =>
  eop P (Instr.buildSlice 27 1 #[(0, t37_1)]) h_12 fun t38_1 h_13 =>
  eop P (appS 27 27 27 list8_1 t38_1) h_13 fun t39_1 h_14 =>
  pop P (binA .sub 3 k9_1 (Value.int IntKind.i64 1)) fun t33_1 =>
  I_2 [t39_1, t33_1] h_14 ∧ μ_2 [t39_1, t33_1] h_14 < μ_2 [list8_1, k9_1] h_11)
  (∃ J_1 : List Value → Heap → Prop, (callM P 78 #[c0_1, (Value.int IntKind.i64 8)] h_11 fun t41_1 h_15 =>
  condM t41_1
  (J_1 [(Value.slice none 0 0)] h_15)
  (J_1 [list8_1] h_15)) ∧
  ∀ (junk_3 : Nat → Value) (list8_2 : Value) (h_16 : Heap), J_1 [list8_2] h_16 →
  pop P (Instr.fieldAt 32 g6_1 0) fun t42_1 =>
  rop P (Instr.loadAt 22 t42_1) h_16 fun t43_1 =>
  eop P (Instr.buildSlice 22 1 #[(0, list8_2)]) h_16 fun t45_1 h_17 =>
  eop P (appS 22 22 22 t43_1 t45_1) h_17 fun t46_1 h_18 =>
  pop P (Instr.fieldAt 32 g6_1 0) fun t47_1 =>
  uop P (Instr.storeAt 22 t47_1 t46_1) h_18 fun u_3 h_19 =>
  pop P (binA .add 3 p7_1 (Value.int IntKind.i64 1)) fun t26_1 =>
  I_1 [t26_1] h_19 ∧ μ_1 [t26_1] h_19 < μ_1 [p7_1] h_9))
  (callM P 78 #[c0_1, (Value.int IntKind.i64 2)] h_9 fun t49_1 h_20 =>
  condM t49_1
  (pop P (Instr.fieldAt 32 g6_1 0) fun t50_1 =>
  rop P (Instr.loadAt 22 t50_1) h_20 fun t51_1 =>
  pop P (lenS 22 3 t51_1) fun t52_1 =>
  ∃ (I_3 : List Value → Heap → Prop) (μ_3 : List Value → Heap → Nat), I_3 [(Value.int IntKind.i64 0)] h_20 ∧
  ∀ (junk_4 : Nat → Value) (t53_1 : Value) (h_21 : Heap), I_3 [t53_1] h_21 →
  pop P (binA .lss 3 t53_1 t52_1) fun t54_1 =>
  condM t54_1
  (pop P (Instr.fieldAt 32 g6_1 0) fun t56_1 =>
  rop P (Instr.loadAt 22 t56_1) h_21 fun t57_1 =>
  pop P (Instr.fieldAt 32 g6_1 0) fun t59_1 =>
  rop P (Instr.loadAt 22 t59_1) h_21 fun t60_1 =>
  pop P (Instr.indexAt 22 t60_1 t53_1) fun t62_1 =>
  rop P (Instr.loadAt 27 t62_1) h_21 fun t63_1 =>
  pop P (binA .add 3 t53_1 (Value.int IntKind.i64 1)) fun t65_1 =>
  pop P (binA .rem 3 t65_1 t14_1) fun t67_1 =>
  eop P (Instr.buildSlice 27 1 #[(0, t67_1)]) h_21 fun t68_1 h_22 =>
  (∀ w : World, w.heap = h_22 → (Instr.loadAt 27 t62_1).run P w = .ok t63_1 w) ∧
  (∀ w : World, w.heap = h_22 → (Instr.loadAt 22 t59_1).run P w = .ok t60_1 w) ∧
  (∀ w : World, w.heap = h_22 → (Instr.loadAt 22 t56_1).run P w = .ok t57_1 w) ∧
  eop P (appS 27 27 27 t63_1 t68_1) h_22 fun t69_1 h_23 =>
  (∀ w : World, w.heap = h_23 → (Instr.loadAt 22 t59_1).run P w = .ok t60_1 w) ∧
  (∀ w : World, w.heap = h_23 → (Instr.loadAt 22 t56_1).run P w = .ok t57_1 w) ∧
  pop P (Instr.indexAt 22 t57_1 t53_1) fun t70_1 =>
  uop P (Instr.storeAt 27 t70_1 t69_1) h_23 fun u_4 h_24 =>
  pop P (binA .add 3 t53_1 (Value.int IntKind.i64 1)) fun t71_1 =>
  I_3 [t71_1] h_24 ∧ μ_3 [t71_1] h_24 < μ_3 [t53_1] h_21)
  (rop P (Instr.loadAt 32 g6_1) h_21 fun t72_1 =>
  uop P (Instr.storeAt 32 t4_1 t72_1) h_21 fun u_5 h_25 =>
  rop P (Instr.loadAt 32 t4_1) h_25 fun r_2 =>
  K r_2 h_25))
  (rop P (Instr.loadAt 32 g6_1) h_20 fun t72_2 =>
  uop P (Instr.storeAt 32 t4_1 t72_2) h_20 fun u_6 h_26 =>
  rop P (Instr.loadAt 32 t4_1) h_26 fun r_3 =>
  K r_3 h_26)))
theorem e109 (c0_1 : Value) (most1_1 : Value) (h : Heap) (K : Value → Heap → Prop) : wpA Try.prog 73 (anOf [(250, [7]), (2026, [53]), (16019, [8]), (64074, [8, 9])]) (bodyOf Try.f109) 1 (fun A h => resA Try.prog A h K [.cell 4 32]) (fun _ _ _ => False) (fun A h => resA Try.prog A h K [.cell 4 32]) (aargs [c0_1, most1_1] 0) h = t109 Try.prog c0_1 most1_1 h K := by kernel_rfl
theorem c109 (c0_1 : Value) (most1_1 : Value) (h : Heap) (K : Value → Heap → Prop) (H : t109 Try.prog c0_1 most1_1 h K) : callM Try.prog 109 #[c0_1, most1_1] h K :=
  callM_of_wpA mixed (fn := Try.f109) Try.func109 (c := bodyOf Try.f109) rfl (of_decide_eq_true (by kernel_rfl)) (anOf [(250, [7]), (2026, [53]), (16019, [8]), (64074, [8, 9])]) 71 73 (by kernel_rfl) rfl [.cell 4 32] (by kernel_rfl) (args := [c0_1, most1_1]) (by rw [e109]; exact H)
def t110 (P : Program) (c0_1 : Value) (n1_1 : Value) (h : Heap) (K : Value → Heap → Prop) : Prop :=
  pop P (binA .leq 3 n1_1 (Value.int IntKind.i64 1)) fun t7_1 =>
  condM t7_1
  (K (Value.int IntKind.i64 0) h)
  (callM P 131 #[c0_1] h fun t9_1 h_1 =>
  ∃ J_1 : List Value → Heap → Prop, (pop P (binA .gtr 3 n1_1 (Value.int IntKind.i64 200)) fun t11_1 =>
  condM t11_1
  (pop P (binA .mul 3 t9_1 (Value.int IntKind.i64 256)) fun t13_1 =>
  callM P 131 #[c0_1] h_1 fun t15_1 h_2 =>
  pop P (binA .add 3 t13_1 t15_1) fun t16_1 =>
  J_1 [t16_1] h_2)
  (J_1 [t9_1] h_1)) ∧
  ∀ (junk_1 : Nat → Value) (x5_1 : Value) (h_3 : Heap), J_1 [x5_1] h_3 →
  pop P (binA .rem 3 x5_1 n1_1) fun t19_1 =>
  K t19_1 h_3)
theorem e110 (c0_1 : Value) (n1_1 : Value) (h : Heap) (K : Value → Heap → Prop) : wpA Try.prog 20 (anOf [(15, [5])]) (bodyOf Try.f110) 1 (fun A h => resA Try.prog A h K [.tmp 4]) (fun _ _ _ => False) (fun A h => resA Try.prog A h K [.tmp 4]) (aargs [c0_1, n1_1] 0) h = t110 Try.prog c0_1 n1_1 h K := by kernel_rfl
theorem c110 (c0_1 : Value) (n1_1 : Value) (h : Heap) (K : Value → Heap → Prop) (H : t110 Try.prog c0_1 n1_1 h K) : callM Try.prog 110 #[c0_1, n1_1] h K :=
  callM_of_wpA mixed (fn := Try.f110) Try.func110 (c := bodyOf Try.f110) rfl (of_decide_eq_true (by kernel_rfl)) (anOf [(15, [5])]) 18 20 (by kernel_rfl) rfl [.tmp 4] (by kernel_rfl) (args := [c0_1, n1_1]) (by rw [e110]; exact H)
def t111 (P : Program) (p0_1 : Value) (t1_1 : Value) (h : Heap) (K : Value → Heap → Prop) : Prop :=
  pop P (Instr.fieldAt 32 t1_1 0) fun t5_1 =>
  rop P (Instr.loadAt 22 t5_1) h fun t6_1 =>
  pop P (lenS 22 3 t6_1) fun t7_1 =>
  pop P (binA .sub 3 t7_1 (Value.int IntKind.i64 1)) fun t8_1 =>
  callM P 102 #[p0_1, (Value.int IntKind.i64 0), t8_1] h fun t9_1 h_1 =>
  pop P (Op.unary .not t9_1) fun t10_1 =>
  K t10_1 h_1
theorem e111 (p0_1 : Value) (t1_1 : Value) (h : Heap) (K : Value → Heap → Prop) : wpA Try.prog 11 (anOf []) (bodyOf Try.f111) 1 (fun A h => resA Try.prog A h K [.tmp 3]) (fun _ _ _ => False) (fun A h => resA Try.prog A h K [.tmp 3]) (aargs [p0_1, t1_1] 0) h = t111 Try.prog p0_1 t1_1 h K := by kernel_rfl
theorem c111 (p0_1 : Value) (t1_1 : Value) (h : Heap) (K : Value → Heap → Prop) (H : t111 Try.prog p0_1 t1_1 h K) : callM Try.prog 111 #[p0_1, t1_1] h K :=
  callM_of_wpA mixed (fn := Try.f111) Try.func111 (c := bodyOf Try.f111) rfl (of_decide_eq_true (by kernel_rfl)) (anOf []) 9 11 (by kernel_rfl) rfl [.tmp 3] (by kernel_rfl) (args := [p0_1, t1_1]) (by rw [e111]; exact H)
def t112 (P : Program) (x0_1 : Value) (count1_1 : Value) (h : Heap) (K : Value → Heap → Prop) : Prop :=
  ∃ J_1 : List Value → Heap → Prop, (pop P (binA .lss 3 count1_1 (Value.int IntKind.i64 0)) fun t10_1 =>
  condM t10_1
  (pop P (Instr.makeInterface 9 (Value.string { data := #[99, 97, 110, 110, 111, 116, 32, 98, 101, 32, 110, 101, 103, 97, 116, 105, 118, 101] })) fun t11_1 =>
  False)
  (J_1 [] h)) ∧
  ∀ (junk_1 : Nat → Value) (h_1 : Heap), J_1 [] h_1 →
  pop P (lenS 27 3 x0_1) fun t14_1 =>
  rop P (convert 3 133 t14_1) h_1 fun t15_1 =>
  rop P (convert 3 133 count1_1) h_1 fun t17_1 =>
  callM P 132 #[t15_1, t17_1] h_1 fun t18_1 h_2 =>
  pop P (Instr.extract t18_1 0) fun t19_1 =>
  pop P (Instr.extract t18_1 1) fun t20_1 =>
  ∃ J_2 : List Value → Heap → Prop, (pop P (binA .gtr 133 t19_1 (Value.int IntKind.u64 0)) fun t22_1 =>
  guardM (asG t22_1 false) false (fun k_1 => k_1 t20_1 h_2) h_2 fun t24_1 h_3 =>
  guardM (asG t22_1 false) false (fun k_2 => pop P (binA .gtr 133 t24_1 (Value.int IntKind.u64 9223372036854775807)) fun t25_1 =>
  k_2 t25_1 h_3) h_3 fun t25_2 h_4 =>
  pop P (pickS t22_1 (Value.bool true) t25_2) fun t26_1 =>
  condM t26_1
  (pop P (Instr.makeInterface 9 (Value.string { data := #[116, 104, 101, 32, 114, 101, 115, 117, 108, 116, 32, 111, 102, 32, 40, 108, 101, 110, 40, 120, 41, 32, 42, 32, 99, 111, 117, 110, 116, 41, 32, 111, 118, 101, 114, 102, 108, 111, 119, 115] })) fun t27_1 =>
  False)
  (J_2 [] h_4)) ∧
  ∀ (junk_2 : Nat → Value) (h_5 : Heap), J_2 [] h_5 →
  rop P (convert 133 3 t20_1) h_5 fun t29_1 =>
  eop P (Instr.makeSlice 27 t29_1 t29_1) h_5 fun t30_1 h_6 =>
  eop P (Builtin.copy_ #[27, 27] 3 #[t30_1, x0_1]) h_6 fun t33_1 h_7 =>
  ∃ (I_1 : List Value → Heap → Prop) (μ_1 : List Value → Heap → Nat), I_1 [t33_1] h_7 ∧
  ∀ (junk_3 : Nat → Value) (n8_1 : Value) (h_8 : Heap), I_1 [n8_1] h_8 →
  pop P (lenS 27 3 t30_1) fun t36_1 =>
  pop P (binA .lss 3 n8_1 t36_1) fun t37_1 =>
  condM t37_1
  (pop P (Instr.sliceAt 27 t30_1 (some n8_1) none none) fun t41_1 =>
  pop P (Instr.sliceAt 27 t30_1 none (some n8_1) none) fun t44_1 =>
  eop P (Builtin.copy_ #[27, 27] 3 #[t41_1, t44_1]) h_8 fun t45_1 h_9 =>
  pop P (binA .add 3 n8_1 t45_1) fun t46_1 =>
  I_1 [t46_1] h_9 ∧ μ_1 [t46_1] h_9 < μ_1 [n8_1] h_8)
  (K t30_1 h_8)
theorem e112 (x0_1 : Value) (count1_1 : Value) (h : Heap) (K : Value → Heap → Prop) : wpA Try.prog 48 (anOf [(3, []), (15, []), (508, [8])]) (bodyOf Try.f112) 1 (fun A h => resA Try.prog A h K [.tmp 4]) (fun _ _ _ => False) (fun A h => resA Try.prog A h K [.tmp 4]) (aargs [x0_1, count1_1] 0) h = t112 Try.prog x0_1 count1_1 h K := by kernel_rfl
theorem c112 (x0_1 : Value) (count1_1 : Value) (h : Heap) (K : Value → Heap → Prop) (H : t112 Try.prog x0_1 count1_1 h K) : callM Try.prog 112 #[x0_1, count1_1] h K :=
  callM_of_wpA mixed (fn := Try.f112) Try.func112 (c := bodyOf Try.f112) rfl (of_decide_eq_true (by kernel_rfl)) (anOf [(3, []), (15, []), (508, [8])]) 46 48 (by kernel_rfl) rfl [.tmp 4] (by kernel_rfl) (args := [x0_1, count1_1]) (by rw [e112]; exact H)
def t113 (P : Program) (n0_1 : Value) (lo1_1 : Value) (hi2_1 : Value) (h : Heap) (K : Value → Heap → Prop) : Prop :=
  pop P (binA .geq 3 n0_1 lo1_1) fun t9_1 =>
  guardM (asG t9_1 true) true (fun k_1 => k_1 n0_1 h) h fun t11_1 h_1 =>
  guardM (asG t9_1 true) true (fun k_2 => k_2 hi2_1 h_1) h_1 fun t12_1 h_2 =>
  guardM (asG t9_1 true) true (fun k_3 => pop P (binA .leq 3 t11_1 t12_1) fun t13_1 =>
  k_3 t13_1 h_2) h_2 fun t13_2 h_3 =>
  pop P (pickS t9_1 t13_2 (Value.bool false)) fun t14_1 =>
  K t14_1 h_3
theorem e113 (n0_1 : Value) (lo1_1 : Value) (hi2_1 : Value) (h : Heap) (K : Value → Heap → Prop) : wpA Try.prog 15 (anOf []) (bodyOf Try.f113) 1 (fun A h => resA Try.prog A h K [.tmp 6]) (fun _ _ _ => False) (fun A h => resA Try.prog A h K [.tmp 6]) (aargs [n0_1, lo1_1, hi2_1] 0) h = t113 Try.prog n0_1 lo1_1 hi2_1 h K := by kernel_rfl
theorem c113 (n0_1 : Value) (lo1_1 : Value) (hi2_1 : Value) (h : Heap) (K : Value → Heap → Prop) (H : t113 Try.prog n0_1 lo1_1 hi2_1 h K) : callM Try.prog 113 #[n0_1, lo1_1, hi2_1] h K :=
  callM_of_wpA mixed (fn := Try.f113) Try.func113 (c := bodyOf Try.f113) rfl (of_decide_eq_true (by kernel_rfl)) (anOf []) 12 15 (by kernel_rfl) rfl [.tmp 6] (by kernel_rfl) (args := [n0_1, lo1_1, hi2_1]) (by rw [e113]; exact H)
def t114 (P : Program) (s0_1 : Value) (v1_1 : Value) (h : Heap) (K : Value → Heap → Prop) : Prop :=
  pop P (lenS 27 3 s0_1) fun t7_1 =>
  ∃ (I_1 : List Value → Heap → Prop) (μ_1 : List Value → Heap → Nat), I_1 [(Value.int IntKind.i64 0)] h ∧
  ∀ (junk_1 : Nat → Value) (t8_1 : Value) (h_1 : Heap), I_1 [t8_1] h_1 →
  pop P (binA .lss 3 t8_1 t7_1) fun t9_1 =>
  condM t9_1
  (pop P (Instr.indexAt 27 s0_1 t8_1) fun t14_1 =>
  rop P (Instr.loadAt 3 t14_1) h_1 fun t15_1 =>
  pop P (binE .eql 3 (.tmp 11) (.tmp 15) v1_1 t15_1) fun t16_1 =>
  condM t16_1
  (K t8_1 h_1)
  (pop P (binA .add 3 t8_1 (Value.int IntKind.i64 1)) fun t18_1 =>
  I_1 [t18_1] h_1 ∧ μ_1 [t18_1] h_1 < μ_1 [t8_1] h_1))
  (K (Value.int IntKind.i64 (-1)) h_1)
theorem e114 (s0_1 : Value) (v1_1 : Value) (h : Heap) (K : Value → Heap → Prop) : wpA Try.prog 19 (anOf [(26, [8])]) (bodyOf Try.f114) 1 (fun A h => resA Try.prog A h K [.tmp 4]) (fun _ _ _ => False) (fun A h => resA Try.prog A h K [.tmp 4]) (aargs [s0_1, v1_1] 0) h = t114 Try.prog s0_1 v1_1 h K := by kernel_rfl
theorem c114 (s0_1 : Value) (v1_1 : Value) (h : Heap) (K : Value → Heap → Prop) (H : t114 Try.prog s0_1 v1_1 h K) : callM Try.prog 114 #[s0_1, v1_1] h K :=
  callM_of_wpA mixed (fn := Try.f114) Try.func114 (c := bodyOf Try.f114) rfl (of_decide_eq_true (by kernel_rfl)) (anOf [(26, [8])]) 17 19 (by kernel_rfl) rfl [.tmp 4] (by kernel_rfl) (args := [s0_1, v1_1]) (by rw [e114]; exact H)
def t121 (P : Program) (s0_1 : Value) (f1_1 : Value) (h : Heap) (K : Value → Heap → Prop) : Prop :=
  pop P (lenS 27 3 s0_1) fun t7_1 =>
  ∃ (I_1 : List Value → Heap → Prop) (μ_1 : List Value → Heap → Nat), I_1 [(Value.int IntKind.i64 0)] h ∧
  ∀ (junk_1 : Nat → Value) (t8_1 : Value) (h_1 : Heap), I_1 [t8_1] h_1 →
  pop P (binA .lss 3 t8_1 t7_1) fun t9_1 =>
  condM t9_1
  (pop P (Instr.indexAt 27 s0_1 t8_1) fun t14_1 =>
  rop P (Instr.loadAt 3 t14_1) h_1 fun t15_1 =>
  callV P f1_1 [t15_1] h_1 fun t16_1 h_2 =>
  condM t16_1
  (K t8_1 h_2)
  (pop P (binA .add 3 t8_1 (Value.int IntKind.i64 1)) fun t18_1 =>
  I_1 [t18_1] h_2 ∧ μ_1 [t18_1] h_2 < μ_1 [t8_1] h_1))
  (K (Value.int IntKind.i64 (-1)) h_1)
theorem e121 (s0_1 : Value) (f1_1 : Value) (h : Heap) (K : Value → Heap → Prop) : wpA Try.prog 19 (anOf [(26, [8])]) (bodyOf Try.f121) 1 (fun A h => resA Try.prog A h K [.tmp 4]) (fun _ _ _ => False) (fun A h => resA Try.prog A h K [.tmp 4]) (aargs [s0_1, f1_1] 0) h = t121 Try.prog s0_1 f1_1 h K := by kernel_rfl
theorem c121 (s0_1 : Value) (f1_1 : Value) (h : Heap) (K : Value → Heap → Prop) (H : t121 Try.prog s0_1 f1_1 h K) : callM Try.prog 121 #[s0_1, f1_1] h K :=
  callM_of_wpA mixed (fn := Try.f121) Try.func121 (c := bodyOf Try.f121) rfl (of_decide_eq_true (by kernel_rfl)) (anOf [(26, [8])]) 17 19 (by kernel_rfl) rfl [.tmp 4] (by kernel_rfl) (args := [s0_1, f1_1]) (by rw [e121]; exact H)
def t122 (P : Program) (seq0_1 : Value) (h : Heap) (K : Value → Heap → Prop) : Prop :=
  callM P 136 #[(Value.slice none 0 0), seq0_1] h fun t4_1 h_1 =>
  K t4_1 h_1
theorem e122 (seq0_1 : Value) (h : Heap) (K : Value → Heap → Prop) : wpA Try.prog 5 (anOf []) (bodyOf Try.f122) 1 (fun A h => resA Try.prog A h K [.tmp 2]) (fun _ _ _ => False) (fun A h => resA Try.prog A h K [.tmp 2]) (aargs [seq0_1] 0) h = t122 Try.prog seq0_1 h K := by kernel_rfl
theorem c122 (seq0_1 : Value) (h : Heap) (K : Value → Heap → Prop) (H : t122 Try.prog seq0_1 h K) : callM Try.prog 122 #[seq0_1] h K :=
  callM_of_wpA mixed (fn := Try.f122) Try.func122 (c := bodyOf Try.f122) rfl (of_decide_eq_true (by kernel_rfl)) (anOf []) 4 5 (by kernel_rfl) rfl [.tmp 2] (by kernel_rfl) (args := [seq0_1]) (by rw [e122]; exact H)
def t123 (P : Program) (x0_1 : Value) (h : Heap) (K : Value → Heap → Prop) : Prop :=
  pop P (lenS 27 3 x0_1) fun t4_1 =>
  rop P (convert 3 133 t4_1) h fun t8_1 =>
  callM P 138 #[t8_1] h fun t9_1 h_1 =>
  callM P 137 #[x0_1, (Value.int IntKind.i64 0), t4_1, t9_1] h_1 fun t10_1 h_2 =>
  K (.tuple #[]) h_2
theorem e123 (x0_1 : Value) (h : Heap) (K : Value → Heap → Prop) : wpA Try.prog 11 (anOf []) (bodyOf Try.f123) 1 (fun A h => resA Try.prog A h K []) (fun _ _ _ => False) (fun A h => resA Try.prog A h K []) (aargs [x0_1] 0) h = t123 Try.prog x0_1 h K := by kernel_rfl
theorem c123 (x0_1 : Value) (h : Heap) (K : Value → Heap → Prop) (H : t123 Try.prog x0_1 h K) : callM Try.prog 123 #[x0_1] h K :=
  callM_of_wpA mixed (fn := Try.f123) Try.func123 (c := bodyOf Try.f123) rfl (of_decide_eq_true (by kernel_rfl)) (anOf []) 10 11 (by kernel_rfl) rfl [] (by kernel_rfl) (args := [x0_1]) (by rw [e123]; exact H)
def t130 (P : Program) (n0_1 : Value) (both1_1 : Value) (h : Heap) (K : Value → Heap → Prop) : Prop :=
  eop P (Instr.alloc 32 true (.tuple #[])) h fun t4_1 h_1 =>
  pop P (Instr.build 32 #[]) fun t8_1 =>
  eop P (Instr.alloc 32 true (.tuple #[])) h_1 fun g5_1 h_2 =>
  uop P (Instr.storeAt 32 g5_1 t8_1) h_2 fun u_1 h_3 =>
  ∃ (I_1 : List Value → Heap → Prop) (μ_1 : List Value → Heap → Nat), I_1 [(Value.int IntKind.i64 0)] h_3 ∧
  ∀ (junk_1 : Nat → Value) (p6_1 : Value) (h_4 : Heap), I_1 [p6_1] h_4 →
  pop P (binA .lss 3 p6_1 n0_1) fun t11_1 =>
  condM t11_1
  (pop P (binA .add 3 p6_1 (Value.int IntKind.i64 1)) fun t15_1 =>
  pop P (binA .rem 3 t15_1 n0_1) fun t17_1 =>
  eop P (Instr.buildSlice 27 1 #[(0, t17_1)]) h_4 fun t18_1 h_5 =>
  ∃ J_1 : List Value → Heap → Prop, (condM both1_1
  (pop P (binA .add 3 p6_1 n0_1) fun t23_1 =>
  pop P (binA .sub 3 t23_1 (Value.int IntKind.i64 1)) fun t24_1 =>
  pop P (binA .rem 3 t24_1 n0_1) fun t26_1 =>
  eop P (Instr.buildSlice 27 1 #[(0, t26_1)]) h_5 fun t27_1 h_6 =>
  eop P (appS 27 27 27 t18_1 t27_1) h_6 fun t28_1 h_7 =>
  J_1 [t28_1] h_7)
  (J_1 [t18_1] h_5)) ∧
  ∀ (junk_2 : Nat → Value) (list7_1 : Value) (h_8 : Heap), J_1 [list7_1] h_8 →
  pop P (Instr.fieldAt 32 g5_1 0) fun t29_1 =>
  rop P (Instr.loadAt 22 t29_1) h_8 fun t30_1 =>
  eop P (Instr.buildSlice 22 1 #[(0, list7_1)]) h_8 fun t32_1 h_9 =>
  eop P (appS 22 22 22 t30_1 t32_1) h_9 fun t33_1 h_10 =>
  pop P (Instr.fieldAt 32 g5_1 0) fun t34_1 =>
  uop P (Instr.storeAt 22 t34_1 t33_1) h_10 fun u_2 h_11 =>
  pop P (binA .add 3 p6_1 (Value.int IntKind.i64 1)) fun t13_1 =>
  I_1 [t13_1] h_11 ∧ μ_1 [t13_1] h_11 < μ_1 [p6_1] h_4)
  (rop P (Instr.loadAt 32 g5_1) h_4 fun t35_1 =>
  uop P (Instr.storeAt 32 t4_1 t35_1) h_4 fun u_3 h_12 =>
  rop P (Instr.loadAt 32 t4_1) h_12 fun r_1 =>
  K r_1 h_12)
theorem e130 (n0_1 : Value) (both1_1 : Value) (h : Heap) (K : Value → Heap → Prop) : wpA Try.prog 36 (anOf [(58, [6]), (1865, [7])]) (bodyOf Try.f130) 1 (fun A h => resA Try.prog A h K [.cell 4 32]) (fun _ _ _ => False) (fun A h => resA Try.prog A h K [.cell 4 32]) (aargs [n0_1, both1_1] 0) h = t130 Try.prog n0_1 both1_1 h K := by kernel_rfl
theorem c130 (n0_1 : Value) (both1_1 : Value) (h : Heap) (K : Value → Heap → Prop) (H : t130 Try.prog n0_1 both1_1 h K) : callM Try.prog 130 #[n0_1, both1_1] h K :=
  callM_of_wpA mixed (fn := Try.f130) Try.func130 (c := bodyOf Try.f130) rfl (of_decide_eq_true (by kernel_rfl)) (anOf [(58, [6]), (1865, [7])]) 34 36 (by kernel_rfl) rfl [.cell 4 32] (by kernel_rfl) (args := [n0_1, both1_1]) (by rw [e130]; exact H)
def t131 (P : Program) (c0_1 : Value) (h : Heap) (K : Value → Heap → Prop) : Prop :=
  ∃ J_1 : List Value → Heap → Prop, (pop P (nilS c0_1) fun t5_1 =>
  pop P (Instr.fieldAt 86 t5_1 1) fun t6_1 =>
  rop P (Instr.loadAt 3 t6_1) h fun t7_1 =>
  pop P (nilS c0_1) fun t9_1 =>
  pop P (Instr.fieldAt 86 t9_1 0) fun t10_1 =>
  rop P (Instr.loadAt 46 t10_1) h fun t11_1 =>
  pop P (lenS 46 3 t11_1) fun t12_1 =>
  pop P (binA .lss 3 t7_1 t12_1) fun t13_1 =>
  condM t13_1
  (pop P (nilS c0_1) fun t15_1 =>
  pop P (Instr.fieldAt 86 t15_1 0) fun t16_1 =>
  rop P (Instr.loadAt 46 t16_1) h fun t17_1 =>
  pop P (nilS c0_1) fun t19_1 =>
  pop P (Instr.fieldAt 86 t19_1 1) fun t20_1 =>
  rop P (Instr.loadAt 3 t20_1) h fun t21_1 =>
  pop P (Instr.indexAt 46 t17_1 t21_1) fun t22_1 =>
  rop P (Instr.loadAt 5 t22_1) h fun t23_1 =>
  rop P (convert 5 3 t23_1) h fun t24_1 =>
  J_1 [t24_1] h)
  (J_1 [(Value.int IntKind.i64 0)] h)) ∧
  ∀ (junk_1 : Nat → Value) (b3_1 : Value) (h_1 : Heap), J_1 [b3_1] h_1 →
  pop P (nilS c0_1) fun t26_1 =>
  pop P (Instr.fieldAt 86 t26_1 1) fun t27_1 =>
  rop P (Instr.loadAt 3 t27_1) h_1 fun t28_1 =>
  pop P (binA .add 3 t28_1 (Value.int IntKind.i64 1)) fun t29_1 =>
  pop P (nilS c0_1) fun t30_1 =>
  pop P (Instr.fieldAt 86 t30_1 1) fun t31_1 =>
  uop P (Instr.storeAt 3 t31_1 t29_1) h_1 fun u_1 h_2 =>
  pop P (nilS c0_1) fun t34_1 =>
  pop P (Instr.fieldAt 86 t34_1 2) fun t35_1 =>
  rop P (Instr.loadAt 84 t35_1) h_2 fun t36_1 =>
  pop P (binA .mul 84 t36_1 (Value.int IntKind.u64 6364136223846793005)) fun t37_1 =>
  rop P (convert 3 84 b3_1) h_2 fun t39_1 =>
  pop P (binA .add 84 t37_1 t39_1) fun t40_1 =>
  pop P (binA .add 84 t40_1 (Value.int IntKind.u64 1442695040888963407)) fun t41_1 =>
  pop P (nilS c0_1) fun t42_1 =>
  pop P (Instr.fieldAt 86 t42_1 2) fun t43_1 =>
  uop P (Instr.storeAt 84 t43_1 t41_1) h_2 fun u_2 h_3 =>
  pop P (nilS c0_1) fun t45_1 =>
  pop P (Instr.fieldAt 86 t45_1 1) fun t46_1 =>
  rop P (Instr.loadAt 3 t46_1) h_3 fun t47_1 =>
  pop P (nilS c0_1) fun t49_1 =>
  pop P (Instr.fieldAt 86 t49_1 0) fun t50_1 =>
  rop P (Instr.loadAt 46 t50_1) h_3 fun t51_1 =>
  pop P (lenS 46 3 t51_1) fun t52_1 =>
  pop P (binA .leq 3 t47_1 t52_1) fun t53_1 =>
  condM t53_1
  (K b3_1 h_3)
  (pop P (nilS c0_1) fun t56_1 =>
  pop P (Instr.fieldAt 86 t56_1 2) fun t57_1 =>
  rop P (Instr.loadAt 84 t57_1) h_3 fun t58_1 =>
  pop P (binA .shr 84 t58_1 (Value.int IntKind.u64 40)) fun t59_1 =>
  pop P (binA .and 84 t59_1 (Value.int IntKind.u64 255)) fun t60_1 =>
  rop P (convert 84 3 t60_1) h_3 fun t61_1 =>
  K t61_1 h_3)
theorem e131 (c0_1 : Value) (h : Heap) (K : Value → Heap → Prop) : wpA Try.prog 62 (anOf [(7, [3])]) (bodyOf Try.f131) 1 (fun A h => resA Try.prog A h K [.tmp 2]) (fun _ _ _ => False) (fun A h => resA Try.prog A h K [.tmp 2]) (aargs [c0_1] 0) h = t131 Try.prog c0_1 h K := by kernel_rfl
theorem c131 (c0_1 : Value) (h : Heap) (K : Value → Heap → Prop) (H : t131 Try.prog c0_1 h K) : callM Try.prog 131 #[c0_1] h K :=
  callM_of_wpA mixed (fn := Try.f131) Try.func131 (c := bodyOf Try.f131) rfl (of_decide_eq_true (by kernel_rfl)) (anOf [(7, [3])]) 61 62 (by kernel_rfl) rfl [.tmp 2] (by kernel_rfl) (args := [c0_1]) (by rw [e131]; exact H)
def t132 (P : Program) (x0_1 : Value) (y1_1 : Value) (h : Heap) (K : Value → Heap → Prop) : Prop :=
  condM (Value.bool false)
  (rop P (convert 133 140 x0_1) h fun t12_1 =>
  rop P (convert 133 140 y1_1) h fun t14_1 =>
  callM P 141 #[t12_1, t14_1] h fun t15_1 h_1 =>
  pop P (Instr.extract t15_1 0) fun t16_1 =>
  pop P (Instr.extract t15_1 1) fun t17_1 =>
  rop P (convert 140 133 t16_1) h_1 fun t19_1 =>
  rop P (convert 140 133 t17_1) h_1 fun t21_1 =>
  K (.tuple #[t19_1, t21_1]) h_1)
  (callM P 142 #[x0_1, y1_1] h fun t25_1 h_2 =>
  pop P (Instr.extract t25_1 0) fun t26_1 =>
  pop P (Instr.extract t25_1 1) fun t27_1 =>
  K (.tuple #[t26_1, t27_1]) h_2)
theorem e132 (x0_1 : Value) (y1_1 : Value) (h : Heap) (K : Value → Heap → Prop) : wpA Try.prog 30 (anOf []) (bodyOf Try.f132) 1 (fun A h => resA Try.prog A h K [.tmp 4, .tmp 5]) (fun _ _ _ => False) (fun A h => resA Try.prog A h K [.tmp 4, .tmp 5]) (aargs [x0_1, y1_1] 0) h = t132 Try.prog x0_1 y1_1 h K := by kernel_rfl
theorem c132 (x0_1 : Value) (y1_1 : Value) (h : Heap) (K : Value → Heap → Prop) (H : t132 Try.prog x0_1 y1_1 h K) : callM Try.prog 132 #[x0_1, y1_1] h K :=
  callM_of_wpA mixed (fn := Try.f132) Try.func132 (c := bodyOf Try.f132) rfl (of_decide_eq_true (by kernel_rfl)) (anOf []) 28 30 (by kernel_rfl) rfl [.tmp 4, .tmp 5] (by kernel_rfl) (args := [x0_1, y1_1]) (by rw [e132]; exact H)
def t137 (P : Program) (data0_1 : Value) (a1_1 : Value) (b2_1 : Value) (limit3_1 : Value) (h : Heap) (K : Value → Heap → Prop) : Prop :=
  ∃ (I_1 : List Value → Heap → Prop) (μ_1 : List Value → Heap → Nat), I_1 [a1_1, b2_1, limit3_1, (Value.bool true), (Value.bool true)] h ∧
  ∀ (junk_1 : Nat → Value) (a1_2 : Value) (b2_2 : Value) (limit3_2 : Value) (wasBalanced8_1 : Value) (wasPartitioned9_1 : Value) (h_1 : Heap), I_1 [a1_2, b2_2, limit3_2, wasBalanced8_1, wasPartitioned9_1] h_1 →
  pop P (binA .sub 3 b2_2 a1_2) fun t21_1 =>
  pop P (binA .leq 3 t21_1 (Value.int IntKind.i64 12)) fun t23_1 =>
  condM t23_1
  (callM P 144 #[data0_1, a1_2, b2_2] h_1 fun t27_1 h_2 =>
  K (.tuple #[]) h_2)
  (pop P (binE .eql 3 (.tmp 28) (.const (Value.int IntKind.i64 0)) limit3_2 (Value.int IntKind.i64 0)) fun t29_1 =>
  condM t29_1
  (callM P 145 #[data0_1, a1_2, b2_2] h_1 fun t33_1 h_3 =>
  K (.tuple #[]) h_3)
  (∃ J_1 : List Value → Heap → Prop, (pop P (Op.unary .not wasBalanced8_1) fun t35_1 =>
  condM t35_1
  (callM P 146 #[data0_1, a1_2, b2_2] h_1 fun t39_1 h_4 =>
  pop P (binA .sub 3 limit3_2 (Value.int IntKind.i64 1)) fun t41_1 =>
  J_1 [t41_1] h_4)
  (J_1 [limit3_2] h_1)) ∧
  ∀ (junk_2 : Nat → Value) (limit3_3 : Value) (h_5 : Heap), J_1 [limit3_3] h_5 →
  callM P 147 #[data0_1, a1_2, b2_2] h_5 fun t46_1 h_6 =>
  pop P (Instr.extract t46_1 0) fun t47_1 =>
  pop P (Instr.extract t46_1 1) fun t48_1 =>
  ∃ J_2 : List Value → Heap → Prop, (pop P (binE .eql 147 (.tmp 49) (.const (Value.int IntKind.i64 2)) t48_1 (Value.int IntKind.i64 2)) fun t50_1 =>
  condM t50_1
  (callM P 148 #[data0_1, a1_2, b2_2] h_6 fun t54_1 h_7 =>
  pop P (binA .sub 3 b2_2 (Value.int IntKind.i64 1)) fun t56_1 =>
  pop P (binA .sub 3 t47_1 a1_2) fun t59_1 =>
  pop P (binA .sub 3 t56_1 t59_1) fun t60_1 =>
  J_2 [t60_1, (Value.int IntKind.i64 1)] h_7)
  (J_2 [t47_1, t48_1] h_6)) ∧
  ∀ (junk_3 : Nat → Value) (pivot11_1 : Value) (hint12_1 : Value) (h_8 : Heap), J_2 [pivot11_1, hint12_1] h_8 →
  ∃ J_3 : List Value → Heap → Prop, (guardM (asG wasBalanced8_1 true) true (fun k_1 => k_1 wasPartitioned9_1 h_8) h_8 fun t63_1 h_9 =>
  pop P (pickS wasBalanced8_1 t63_1 (Value.bool false)) fun t64_1 =>
  guardM (asG t64_1 true) true (fun k_2 => k_2 hint12_1 h_9) h_9 fun t66_1 h_10 =>
  guardM (asG t64_1 true) true (fun k_3 => pop P (binE .eql 147 (.tmp 66) (.const (Value.int IntKind.i64 1)) t66_1 (Value.int IntKind.i64 1)) fun t67_1 =>
  k_3 t67_1 h_10) h_10 fun t67_2 h_11 =>
  pop P (pickS t64_1 t67_2 (Value.bool false)) fun t68_1 =>
  condM t68_1
  (callM P 149 #[data0_1, a1_2, b2_2] h_11 fun t72_1 h_12 =>
  condM t72_1
  (K (.tuple #[]) h_12)
  (J_3 [] h_12))
  (J_3 [] h_11)) ∧
  ∀ (junk_4 : Nat → Value) (h_13 : Heap), J_3 [] h_13 →
  pop P (binA .gtr 3 a1_2 (Value.int IntKind.i64 0)) fun t74_1 =>
  guardM (asG t74_1 true) true (fun k_4 => k_4 data0_1 h_13) h_13 fun t76_1 h_14 =>
  guardM (asG t74_1 true) true (fun k_5 => k_5 a1_2 h_14) h_14 fun t77_1 h_15 =>
  guardM (asG t74_1 true) true (fun k_6 => pop P (binA .sub 3 t77_1 (Value.int IntKind.i64 1)) fun t78_1 =>
  k_6 t78_1 h_15) h_15 fun t78_2 h_16 =>
  guardM (asG t74_1 true) true (fun k_7 => pop P (Instr.indexAt 27 t76_1 t78_2) fun t79_1 =>
  k_7 t79_1 h_16) h_16 fun t79_2 h_17 =>
  guardM (asG t74_1 true) true (fun k_8 => rop P (Instr.loadAt 3 t79_2) h_17 fun t80_1 =>
  k_8 t80_1 h_17) h_17 fun t80_2 h_18 =>
  guardM (asG t74_1 true) true (fun k_9 => k_9 data0_1 h_18) h_18 fun t81_1 h_19 =>
  guardM (asG t74_1 true) true (fun k_10 => k_10 pivot11_1 h_19) h_19 fun t82_1 h_20 =>
  guardM (asG t74_1 true) true (fun k_11 => pop P (Instr.indexAt 27 t81_1 t82_1) fun t83_1 =>
  k_11 t83_1 h_20) h_20 fun t83_2 h_21 =>
  guardM (asG t74_1 true) true (fun k_12 => rop P (Instr.loadAt 3 t83_2) h_21 fun t84_1 =>
  k_12 t84_1 h_21) h_21 fun t84_2 h_22 =>
  guardM (asG t74_1 true) true (fun k_13 => callM P 150 #[t80_2, t84_2] h_22 fun t85_1 h_23 =>
  k_13 t85_1 h_23) h_22 fun t85_2 h_24 =>
  guardM (asG t74_1 true) true (fun k_14 => pop P (Op.unary .not t85_2) fun t86_1 =>
  k_14 t86_1 h_24) h_24 fun t86_2 h_25 =>
  pop P (pickS t74_1 t86_2 (Value.bool false)) fun t87_1 =>
  condM t87_1
  (callM P 151 #[data0_1, a1_2, b2_2, pivot11_1] h_25 fun t92_1 h_26 =>
  I_1 [t92_1, b2_2, limit3_3, wasBalanced8_1, wasPartitioned9_1] h_26 ∧ μ_1 [t92_1, b2_2, limit3_3, wasBalanced8_1, wasPartitioned9_1] h_26 < μ_1 [a1_2, b2_2, limit3_2, wasBalanced8_1, wasPartitioned9_1] h_1)
  (callM P 152 #[data0_1, a1_2, b2_2, pivot11_1] h_25 fun t99_1 h_27 =>
  pop P (Instr.extract t99_1 0) fun t100_1 =>
  pop P (Instr.extract t99_1 1) fun t101_1 =>
  pop P (binA .sub 3 t100_1 a1_2) fun t105_1 =>
  pop P (binA .sub 3 b2_2 t100_1) fun t108_1 =>
  pop P (binA .quo 3 t21_1 (Value.int IntKind.i64 8)) fun t110_1 =>
  pop P (binA .lss 3 t105_1 t108_1) fun t113_1 =>
  condM t113_1
  (pop P (binA .geq 3 t105_1 t110_1) fun t116_1 =>
  callM P 137 #[data0_1, a1_2, t100_1, limit3_3] h_27 fun t121_1 h_28 =>
  pop P (binA .add 3 t100_1 (Value.int IntKind.i64 1)) fun t123_1 =>
  I_1 [t123_1, b2_2, limit3_3, t116_1, t101_1] h_28 ∧ μ_1 [t123_1, b2_2, limit3_3, t116_1, t101_1] h_28 < μ_1 [a1_2, b2_2, limit3_2, wasBalanced8_1, wasPartitioned9_1] h_1)
  (pop P (binA .geq 3 t108_1 t110_1) fun t126_1 =>
  pop P (binA .add 3 t100_1 (Value.int IntKind.i64 1)) fun t129_1 =>
  callM P 137 #[data0_1, t129_1, b2_2, limit3_3] h_27 fun t132_1 h_29 =>
  I_1 [a1_2, t100_1, limit3_3, t126_1, t101_1] h_29 ∧ μ_1 [a1_2, t100_1, limit3_3, t126_1, t101_1] h_29 < μ_1 [a1_2, b2_2, limit3_2, wasBalanced8_1, wasPartitioned9_1] h_1))))
theorem e137 (data0_1 : Value) (a1_1 : Value) (b2_1 : Value) (limit3_1 : Value) (h : Heap) (K : Value → Heap → Prop) : wpA Try.prog 134 (anOf [(14, [1, 2, 3, 8, 9]), (455, [3]), (1823, [11, 12]), (3647, [])]) (bodyOf Try.f137) 1 (fun A h => resA Try.prog A h K []) (fun _ _ _ => False) (fun A h => resA Try.prog A h K []) (aargs [data0_1, a1_1, b2_1, limit3_1] 0) h = t137 Try.prog data0_1 a1_1 b2_1 limit3_1 h K := by kernel_rfl
theorem c137 (data0_1 : Value) (a1_1 : Value) (b2_1 : Value) (limit3_1 : Value) (h : Heap) (K : Value → Heap → Prop) (H : t137 Try.prog data0_1 a1_1 b2_1 limit3_1 h K) : callM Try.prog 137 #[data0_1, a1_1, b2_1, limit3_1] h K :=
  callM_of_wpA mixed (fn := Try.f137) Try.func137 (c := bodyOf Try.f137) rfl (of_decide_eq_true (by kernel_rfl)) (anOf [(14, [1, 2, 3, 8, 9]), (455, [3]), (1823, [11, 12]), (3647, [])]) 130 134 (by kernel_rfl) rfl [] (by kernel_rfl) (args := [data0_1, a1_1, b2_1, limit3_1]) (by rw [e137]; exact H)
def t138 (P : Program) (x0_1 : Value) (h : Heap) (K : Value → Heap → Prop) : Prop :=
  condM (Value.bool false)
  (rop P (convert 133 140 x0_1) h fun t4_1 =>
  callM P 153 #[t4_1] h fun t5_1 h_1 =>
  K t5_1 h_1)
  (callM P 154 #[x0_1] h fun t7_1 h_2 =>
  K t7_1 h_2)
theorem e138 (x0_1 : Value) (h : Heap) (K : Value → Heap → Prop) : wpA Try.prog 8 (anOf []) (bodyOf Try.f138) 1 (fun A h => resA Try.prog A h K [.tmp 2]) (fun _ _ _ => False) (fun A h => resA Try.prog A h K [.tmp 2]) (aargs [x0_1] 0) h = t138 Try.prog x0_1 h K := by kernel_rfl
theorem c138 (x0_1 : Value) (h : Heap) (K : Value → Heap → Prop) (H : t138 Try.prog x0_1 h K) : callM Try.prog 138 #[x0_1] h K :=
  callM_of_wpA mixed (fn := Try.f138) Try.func138 (c := bodyOf Try.f138) rfl (of_decide_eq_true (by kernel_rfl)) (anOf []) 7 8 (by kernel_rfl) rfl [.tmp 2] (by kernel_rfl) (args := [x0_1]) (by rw [e138]; exact H)
def t142 (P : Program) (x0_1 : Value) (y1_1 : Value) (h : Heap) (K : Value → Heap → Prop) : Prop :=
  pop P (binA .and 84 x0_1 (Value.int IntKind.u64 4294967295)) fun t15_1 =>
  pop P (binA .shr 84 x0_1 (Value.int IntKind.u64 32)) fun t17_1 =>
  pop P (binA .and 84 y1_1 (Value.int IntKind.u64 4294967295)) fun t19_1 =>
  pop P (binA .shr 84 y1_1 (Value.int IntKind.u64 32)) fun t21_1 =>
  pop P (binA .mul 84 t15_1 t19_1) fun t24_1 =>
  pop P (binA .mul 84 t17_1 t19_1) fun t27_1 =>
  pop P (binA .shr 84 t24_1 (Value.int IntKind.u64 32)) fun t29_1 =>
  pop P (binA .add 84 t27_1 t29_1) fun t30_1 =>
  pop P (binA .and 84 t30_1 (Value.int IntKind.u64 4294967295)) fun t32_1 =>
  pop P (binA .shr 84 t30_1 (Value.int IntKind.u64 32)) fun t34_1 =>
  pop P (binA .mul 84 t15_1 t21_1) fun t38_1 =>
  pop P (binA .add 84 t32_1 t38_1) fun t39_1 =>
  pop P (binA .mul 84 t17_1 t21_1) fun t42_1 =>
  pop P (binA .add 84 t42_1 t34_1) fun t44_1 =>
  pop P (binA .shr 84 t39_1 (Value.int IntKind.u64 32)) fun t46_1 =>
  pop P (binA .add 84 t44_1 t46_1) fun t47_1 =>
  pop P (binA .mul 84 x0_1 y1_1) fun t50_1 =>
  K (.tuple #[t47_1, t50_1]) h
theorem e142 (x0_1 : Value) (y1_1 : Value) (h : Heap) (K : Value → Heap → Prop) : wpA Try.prog 51 (anOf []) (bodyOf Try.f142) 1 (fun A h => resA Try.prog A h K [.tmp 4, .tmp 5]) (fun _ _ _ => False) (fun A h => resA Try.prog A h K [.tmp 4, .tmp 5]) (aargs [x0_1, y1_1] 0) h = t142 Try.prog x0_1 y1_1 h K := by kernel_rfl
theorem c142 (x0_1 : Value) (y1_1 : Value) (h : Heap) (K : Value → Heap → Prop) (H : t142 Try.prog x0_1 y1_1 h K) : callM Try.prog 142 #[x0_1, y1_1] h K :=
  callM_of_wpA mixed (fn := Try.f142) Try.func142 (c := bodyOf Try.f142) rfl (of_decide_eq_true (by kernel_rfl)) (anOf []) 49 51 (by kernel_rfl) rfl [.tmp 4, .tmp 5] (by kernel_rfl) (args := [x0_1, y1_1]) (by rw [e142]; exact H)
def t144 (P : Program) (data0_1 : Value) (a1_1 : Value) (b2_1 : Value) (h : Heap) (K : Value → Heap → Prop) : Prop :=
  pop P (binA .add 3 a1_1 (Value.int IntKind.i64 1)) fun t9_1 =>
  ∃ (I_1 : List Value → Heap → Prop) (μ_1 : List Value → Heap → Nat), I_1 [t9_1] h ∧
  ∀ (junk_1 : Nat → Value) (i6_1 : Value) (h_1 : Heap), I_1 [i6_1] h_1 →
  pop P (binA .lss 3 i6_1 b2_1) fun t12_1 =>
  condM t12_1
  (∃ (I_2 : List Value → Heap → Prop) (μ_2 : List Value → Heap → Nat), I_2 [i6_1] h_1 ∧
  ∀ (junk_2 : Nat → Value) (j7_1 : Value) (h_2 : Heap), I_2 [j7_1] h_2 →
  pop P (binA .gtr 3 j7_1 a1_1) fun t18_1 =>
  guardM (asG t18_1 true) true (fun k_1 => k_1 data0_1 h_2) h_2 fun t20_1 h_3 =>
  guardM (asG t18_1 true) true (fun k_2 => k_2 j7_1 h_3) h_3 fun t21_1 h_4 =>
  guardM (asG t18_1 true) true (fun k_3 => pop P (Instr.indexAt 27 t20_1 t21_1) fun t22_1 =>
  k_3 t22_1 h_4) h_4 fun t22_2 h_5 =>
  guardM (asG t18_1 true) true (fun k_4 => rop P (Instr.loadAt 3 t22_2) h_5 fun t23_1 =>
  k_4 t23_1 h_5) h_5 fun t23_2 h_6 =>
  guardM (asG t18_1 true) true (fun k_5 => k_5 data0_1 h_6) h_6 fun t24_1 h_7 =>
  guardM (asG t18_1 true) true (fun k_6 => k_6 j7_1 h_7) h_7 fun t25_1 h_8 =>
  guardM (asG t18_1 true) true (fun k_7 => pop P (binA .sub 3 t25_1 (Value.int IntKind.i64 1)) fun t26_1 =>
  k_7 t26_1 h_8) h_8 fun t26_2 h_9 =>
  guardM (asG t18_1 true) true (fun k_8 => pop P (Instr.indexAt 27 t24_1 t26_2) fun t27_1 =>
  k_8 t27_1 h_9) h_9 fun t27_2 h_10 =>
  guardM (asG t18_1 true) true (fun k_9 => rop P (Instr.loadAt 3 t27_2) h_10 fun t28_1 =>
  k_9 t28_1 h_10) h_10 fun t28_2 h_11 =>
  guardM (asG t18_1 true) true (fun k_10 => callM P 150 #[t23_2, t28_2] h_11 fun t29_1 h_12 =>
  k_10 t29_1 h_12) h_11 fun t29_2 h_13 =>
  pop P (pickS t18_1 t29_2 (Value.bool false)) fun t30_1 =>
  condM t30_1
  (pop P (binA .sub 3 j7_1 (Value.int IntKind.i64 1)) fun t37_1 =>
  pop P (binA .sub 3 j7_1 (Value.int IntKind.i64 1)) fun t40_1 =>
  pop P (Instr.indexAt 27 data0_1 t40_1) fun t41_1 =>
  rop P (Instr.loadAt 3 t41_1) h_13 fun t42_1 =>
  pop P (Instr.indexAt 27 data0_1 j7_1) fun t45_1 =>
  rop P (Instr.loadAt 3 t45_1) h_13 fun t46_1 =>
  pop P (Instr.indexAt 27 data0_1 j7_1) fun t47_1 =>
  uop P (Instr.storeAt 3 t47_1 t42_1) h_13 fun u_1 h_14 =>
  pop P (Instr.indexAt 27 data0_1 t37_1) fun t48_1 =>
  uop P (Instr.storeAt 3 t48_1 t46_1) h_14 fun u_2 h_15 =>
  pop P (binA .sub 3 j7_1 (Value.int IntKind.i64 1)) fun t32_1 =>
  I_2 [t32_1] h_15 ∧ μ_2 [t32_1] h_15 < μ_2 [j7_1] h_2)
  (pop P (binA .add 3 i6_1 (Value.int IntKind.i64 1)) fun t14_1 =>
  I_1 [t14_1] h_13 ∧ μ_1 [t14_1] h_13 < μ_1 [i6_1] h_1))
  (K (.tuple #[]) h_1)
theorem e144 (data0_1 : Value) (a1_1 : Value) (b2_1 : Value) (h : Heap) (K : Value → Heap → Prop) : wpA Try.prog 49 (anOf [(6, [6]), (402, [7])]) (bodyOf Try.f144) 1 (fun A h => resA Try.prog A h K []) (fun _ _ _ => False) (fun A h => resA Try.prog A h K []) (aargs [data0_1, a1_1, b2_1] 0) h = t144 Try.prog data0_1 a1_1 b2_1 h K := by kernel_rfl
theorem c144 (data0_1 : Value) (a1_1 : Value) (b2_1 : Value) (h : Heap) (K : Value → Heap → Prop) (H : t144 Try.prog data0_1 a1_1 b2_1 h K) : callM Try.prog 144 #[data0_1, a1_1, b2_1] h K :=
  callM_of_wpA mixed (fn := Try.f144) Try.func144 (c := bodyOf Try.f144) rfl (of_decide_eq_true (by kernel_rfl)) (anOf [(6, [6]), (402, [7])]) 46 49 (by kernel_rfl) rfl [] (by kernel_rfl) (args := [data0_1, a1_1, b2_1]) (by rw [e144]; exact H)
def t150 (P : Program) (x0_1 : Value) (y1_1 : Value) (h : Heap) (K : Value → Heap → Prop) : Prop :=
  callM P 162 #[x0_1] h fun t6_1 h_1 =>
  guardM (asG t6_1 true) true (fun k_1 => k_1 y1_1 h_1) h_1 fun t8_1 h_2 =>
  guardM (asG t6_1 true) true (fun k_2 => callM P 162 #[t8_1] h_2 fun t9_1 h_3 =>
  k_2 t9_1 h_3) h_2 fun t9_2 h_4 =>
  guardM (asG t6_1 true) true (fun k_3 => pop P (Op.unary .not t9_2) fun t10_1 =>
  k_3 t10_1 h_4) h_4 fun t10_2 h_5 =>
  pop P (pickS t6_1 t10_2 (Value.bool false)) fun t11_1 =>
  guardM (asG t11_1 false) false (fun k_4 => k_4 x0_1 h_5) h_5 fun t13_1 h_6 =>
  guardM (asG t11_1 false) false (fun k_5 => k_5 y1_1 h_6) h_6 fun t14_1 h_7 =>
  guardM (asG t11_1 false) false (fun k_6 => pop P (binA .lss 3 t13_1 t14_1) fun t15_1 =>
  k_6 t15_1 h_7) h_7 fun t15_2 h_8 =>
  pop P (pickS t11_1 (Value.bool true) t15_2) fun t16_1 =>
  K t16_1 h_8
theorem e150 (x0_1 : Value) (y1_1 : Value) (h : Heap) (K : Value → Heap → Prop) : wpA Try.prog 17 (anOf []) (bodyOf Try.f150) 1 (fun A h => resA Try.prog A h K [.tmp 4]) (fun _ _ _ => False) (fun A h => resA Try.prog A h K [.tmp 4]) (aargs [x0_1, y1_1] 0) h = t150 Try.prog x0_1 y1_1 h K := by kernel_rfl
theorem c150 (x0_1 : Value) (y1_1 : Value) (h : Heap) (K : Value → Heap → Prop) (H : t150 Try.prog x0_1 y1_1 h K) : callM Try.prog 150 #[x0_1, y1_1] h K :=
  callM_of_wpA mixed (fn := Try.f150) Try.func150 (c := bodyOf Try.f150) rfl (of_decide_eq_true (by kernel_rfl)) (anOf []) 15 17 (by kernel_rfl) rfl [.tmp 4] (by kernel_rfl) (args := [x0_1, y1_1]) (by rw [e150]; exact H)
def t154 (P : Program) (x0_1 : Value) (h : Heap) (K : Value → Heap → Prop) : Prop :=
  ∃ J_1 : List Value → Heap → Prop, (pop P (binA .geq 84 x0_1 (Value.int IntKind.u64 4294967296)) fun t4_1 =>
  condM t4_1
  (pop P (binA .shr 84 x0_1 (Value.int IntKind.u64 32)) fun t6_1 =>
  J_1 [t6_1, (Value.int IntKind.i64 32)] h)
  (J_1 [x0_1, (Value.int IntKind.i64 0)] h)) ∧
  ∀ (junk_1 : Nat → Value) (x0_2 : Value) (n2_1 : Value) (h_1 : Heap), J_1 [x0_2, n2_1] h_1 →
  ∃ J_2 : List Value → Heap → Prop, (pop P (binA .geq 84 x0_2 (Value.int IntKind.u64 65536)) fun t8_1 =>
  condM t8_1
  (pop P (binA .shr 84 x0_2 (Value.int IntKind.u64 16)) fun t10_1 =>
  pop P (binA .add 3 n2_1 (Value.int IntKind.i64 16)) fun t12_1 =>
  J_2 [t10_1, t12_1] h_1)
  (J_2 [x0_2, n2_1] h_1)) ∧
  ∀ (junk_2 : Nat → Value) (x0_3 : Value) (n2_2 : Value) (h_2 : Heap), J_2 [x0_3, n2_2] h_2 →
  ∃ J_3 : List Value → Heap → Prop, (pop P (binA .geq 84 x0_3 (Value.int IntKind.u64 256)) fun t14_1 =>
  condM t14_1
  (pop P (binA .shr 84 x0_3 (Value.int IntKind.u64 8)) fun t16_1 =>
  pop P (binA .add 3 n2_2 (Value.int IntKind.i64 8)) fun t18_1 =>
  J_3 [t16_1, t18_1] h_2)
  (J_3 [x0_3, n2_2] h_2)) ∧
  ∀ (junk_3 : Nat → Value) (x0_4 : Value) (n2_3 : Value) (h_3 : Heap), J_3 [x0_4, n2_3] h_3 →
  rop P (convert 84 5 x0_4) h_3 fun t21_1 =>
  pop P (Instr.index 9 (Value.string { data := #[0, 1, 2, 2, 3, 3, 3, 3, 4, 4, 4, 4, 4, 4, 4, 4, 5, 5, 5, 5, 5, 5, 5, 5, 5, 5, 5, 5, 5, 5, 5, 5, 6, 6, 6, 6, 6, 6, 6, 6, 6, 6, 6, 6, 6, 6, 6, 6, 6, 6, 6, 6, 6, 6, 6, 6, 6, 6, 6, 6, 6, 6, 6, 6, 7, 7, 7, 7, 7, 7, 7, 7, 7, 7, 7, 7, 7, 7, 7, 7, 7, 7, 7, 7, 7, 7, 7, 7, 7, 7, 7, 7, 7, 7, 7, 7, 7, 7, 7, 7, 7, 7, 7, 7, 7, 7, 7, 7, 7, 7, 7, 7, 7, 7, 7, 7, 7, 7, 7, 7, 7, 7, 7, 7, 7, 7, 7, 7, 8, 8, 8, 8, 8, 8, 8, 8, 8, 8, 8, 8, 8, 8, 8, 8, 8, 8, 8, 8, 8, 8, 8, 8, 8, 8, 8, 8, 8, 8, 8, 8, 8, 8, 8, 8, 8, 8, 8, 8, 8, 8, 8, 8, 8, 8, 8, 8, 8, 8, 8, 8, 8, 8, 8, 8, 8, 8, 8, 8, 8, 8, 8, 8, 8, 8, 8, 8, 8, 8, 8, 8, 8, 8, 8, 8, 8, 8, 8, 8, 8, 8, 8, 8, 8, 8, 8, 8, 8, 8, 8, 8, 8, 8, 8, 8, 8, 8, 8, 8, 8, 8, 8, 8, 8, 8, 8, 8, 8, 8, 8, 8, 8, 8, 8, 8, 8, 8, 8, 8, 8, 8, 8, 8, 8, 8, 8, 8] }) t21_1) fun t22_1 =>
  rop P (convert 5 3 t22_1) h_3 fun t23_1 =>
  pop P (binA .add 3 n2_3 t23_1) fun t24_1 =>
  K t24_1 h_3
theorem e154 (x0_1 : Value) (h : Heap) (K : Value → Heap → Prop) : wpA Try.prog 25 (anOf [(3, [0, 2]), (7, [0, 2]), (15, [0, 2])]) (bodyOf Try.f154) 1 (fun A h => resA Try.prog A h K [.tmp 2]) (fun _ _ _ => False) (fun A h => resA Try.prog A h K [.tmp 2]) (aargs [x0_1] 0) h = t154 Try.prog x0_1 h K := by kernel_rfl
theorem c154 (x0_1 : Value) (h : Heap) (K : Value → Heap → Prop) (H : t154 Try.prog x0_1 h K) : callM Try.prog 154 #[x0_1] h K :=
  callM_of_wpA mixed (fn := Try.f154) Try.func154 (c := bodyOf Try.f154) rfl (of_decide_eq_true (by kernel_rfl)) (anOf [(3, [0, 2]), (7, [0, 2]), (15, [0, 2])]) 24 25 (by kernel_rfl) rfl [.tmp 2] (by kernel_rfl) (args := [x0_1]) (by rw [e154]; exact H)
def t162 (P : Program) (x0_1 : Value) (h : Heap) (K : Value → Heap → Prop) : Prop :=
  pop P (binE .neq 3 (.tmp 3) (.tmp 4) x0_1 x0_1) fun t5_1 =>
  K t5_1 h
theorem e162 (x0_1 : Value) (h : Heap) (K : Value → Heap → Prop) : wpA Try.prog 6 (anOf []) (bodyOf Try.f162) 1 (fun A h => resA Try.prog A h K [.tmp 2]) (fun _ _ _ => False) (fun A h => resA Try.prog A h K [.tmp 2]) (aargs [x0_1] 0) h = t162 Try.prog x0_1 h K := by kernel_rfl
theorem c162 (x0_1 : Value) (h : Heap) (K : Value → Heap → Prop) (H : t162 Try.prog x0_1 h K) : callM Try.prog 162 #[x0_1] h K :=
  callM_of_wpA mixed (fn := Try.f162) Try.func162 (c := bodyOf Try.f162) rfl (of_decide_eq_true (by kernel_rfl)) (anOf []) 5 6 (by kernel_rfl) rfl [.tmp 2] (by kernel_rfl) (args := [x0_1]) (by rw [e162]; exact H)
end Go.Proofs.Ytkjkfjkapbpgiaa
