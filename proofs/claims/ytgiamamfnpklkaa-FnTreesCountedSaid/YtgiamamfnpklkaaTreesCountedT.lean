/-
  What each function that the law 'FnTreesCounted' comes to asks of the heap, named; tied to the loaded program by the kernel. Written by a program.
-/
import Derived.Test.YtgiamamfnpklkaaProg
import Derived.Test.YtgiamamfnpklkaaM1
set_option linter.unusedVariables false
namespace Go.Proofs.Ytgiamamfnpklkaa
open Go Go.Mx
theorem mixed : Try.prog.follows .mixedOrders = true := by kernel_rfl
/-! laws.FnTreesCounted -/
def t5 (P : Program) (code0_1 : Value) (more1_1 : Value) (h : Heap) (K : Value → Heap → Prop) : Prop :=
  callM P 6 #[code0_1, more1_1] h fun t54_1 h_1 =>
  condM t54_1
  (K (Value.bool true) h_1)
  (callM P 37 #[code0_1] h_1 fun t57_1 h_2 =>
  pop P (Instr.extract t57_1 0) fun t58_1 =>
  pop P (Instr.extract t57_1 1) fun t59_1 =>
  eop P (Instr.alloc 26 true (.tuple #[])) h_2 fun g5_1 h_3 =>
  uop P (Instr.storeAt 26 g5_1 t58_1) h_3 fun u_1 h_4 =>
  rop P (Instr.loadAt 26 g5_1) h_4 fun t61_1 =>
  callM P 38 #[t61_1, t59_1] h_4 fun t63_1 h_5 =>
  pop P (Instr.extract t63_1 0) fun t64_1 =>
  pop P (Instr.extract t63_1 1) fun t65_1 =>
  rop P (Instr.loadAt 26 g5_1) h_5 fun t67_1 =>
  callM P 39 #[t67_1, t59_1] h_5 fun t69_1 h_6 =>
  pop P (Instr.extract t69_1 0) fun t70_1 =>
  pop P (Instr.extract t69_1 1) fun t71_1 =>
  rop P (Instr.loadAt 26 g5_1) h_6 fun t73_1 =>
  callM P 40 #[t73_1, t59_1] h_6 fun t75_1 h_7 =>
  pop P (Instr.extract t75_1 0) fun t76_1 =>
  pop P (Instr.extract t75_1 1) fun t77_1 =>
  rop P (Instr.loadAt 26 g5_1) h_7 fun t79_1 =>
  callM P 41 #[t79_1, t59_1] h_7 fun t81_1 h_8 =>
  pop P (Instr.extract t81_1 0) fun t82_1 =>
  pop P (Instr.extract t81_1 1) fun t83_1 =>
  rop P (Instr.loadAt 26 g5_1) h_8 fun t85_1 =>
  callM P 42 #[t85_1, t59_1] h_8 fun t87_1 h_9 =>
  pop P (Instr.extract t87_1 0) fun t88_1 =>
  pop P (Instr.extract t87_1 1) fun t89_1 =>
  rop P (Instr.loadAt 26 g5_1) h_9 fun t91_1 =>
  callM P 43 #[t91_1, t59_1] h_9 fun t93_1 h_10 =>
  pop P (Instr.extract t93_1 0) fun t94_1 =>
  pop P (Instr.extract t93_1 1) fun t95_1 =>
  rop P (Instr.loadAt 26 g5_1) h_10 fun t97_1 =>
  callM P 44 #[t97_1, t59_1] h_10 fun t99_1 h_11 =>
  pop P (Instr.extract t99_1 0) fun t100_1 =>
  pop P (Instr.extract t99_1 1) fun t101_1 =>
  rop P (Instr.loadAt 26 g5_1) h_11 fun t103_1 =>
  callM P 45 #[t103_1, t59_1] h_11 fun t105_1 h_12 =>
  pop P (Instr.extract t105_1 0) fun t106_1 =>
  pop P (Instr.extract t105_1 1) fun t107_1 =>
  pop P (binE .neq 4 (.tmp 108) (.tmp 109) t65_1 t71_1) fun t110_1 =>
  guardM (asG t110_1 false) false (fun k_1 => k_1 t64_1 h_12) h_12 fun t112_1 h_13 =>
  guardM (asG t110_1 false) false (fun k_2 => k_2 t70_1 h_13) h_13 fun t113_1 h_14 =>
  guardM (asG t110_1 false) false (fun k_3 => callM P 46 #[t112_1, t113_1] h_14 fun t114_1 h_15 =>
  k_3 t114_1 h_15) h_14 fun t114_2 h_16 =>
  guardM (asG t110_1 false) false (fun k_4 => pop P (Op.unary .not t114_2) fun t115_1 =>
  k_4 t115_1 h_16) h_16 fun t115_2 h_17 =>
  pop P (pickS t110_1 (Value.bool true) t115_2) fun t116_1 =>
  guardM (asG t116_1 false) false (fun k_5 => k_5 t77_1 h_17) h_17 fun t118_1 h_18 =>
  guardM (asG t116_1 false) false (fun k_6 => k_6 t83_1 h_18) h_18 fun t119_1 h_19 =>
  guardM (asG t116_1 false) false (fun k_7 => pop P (binE .neq 4 (.tmp 118) (.tmp 119) t118_1 t119_1) fun t120_1 =>
  k_7 t120_1 h_19) h_19 fun t120_2 h_20 =>
  pop P (pickS t116_1 (Value.bool true) t120_2) fun t121_1 =>
  guardM (asG t121_1 false) false (fun k_8 => k_8 t76_1 h_20) h_20 fun t123_1 h_21 =>
  guardM (asG t121_1 false) false (fun k_9 => k_9 t82_1 h_21) h_21 fun t124_1 h_22 =>
  guardM (asG t121_1 false) false (fun k_10 => pop P (binE .neq 3 (.tmp 123) (.tmp 124) t123_1 t124_1) fun t125_1 =>
  k_10 t125_1 h_22) h_22 fun t125_2 h_23 =>
  pop P (pickS t121_1 (Value.bool true) t125_2) fun t126_1 =>
  guardM (asG t126_1 false) false (fun k_11 => k_11 t89_1 h_23) h_23 fun t128_1 h_24 =>
  guardM (asG t126_1 false) false (fun k_12 => k_12 t95_1 h_24) h_24 fun t129_1 h_25 =>
  guardM (asG t126_1 false) false (fun k_13 => pop P (binE .neq 4 (.tmp 128) (.tmp 129) t128_1 t129_1) fun t130_1 =>
  k_13 t130_1 h_25) h_25 fun t130_2 h_26 =>
  pop P (pickS t126_1 (Value.bool true) t130_2) fun t131_1 =>
  guardM (asG t131_1 false) false (fun k_14 => k_14 t88_1 h_26) h_26 fun t133_1 h_27 =>
  guardM (asG t131_1 false) false (fun k_15 => k_15 t94_1 h_27) h_27 fun t134_1 h_28 =>
  guardM (asG t131_1 false) false (fun k_16 => callM P 46 #[t133_1, t134_1] h_28 fun t135_1 h_29 =>
  k_16 t135_1 h_29) h_28 fun t135_2 h_30 =>
  guardM (asG t131_1 false) false (fun k_17 => pop P (Op.unary .not t135_2) fun t136_1 =>
  k_17 t136_1 h_30) h_30 fun t136_2 h_31 =>
  pop P (pickS t131_1 (Value.bool true) t136_2) fun t137_1 =>
  guardM (asG t137_1 false) false (fun k_18 => k_18 t101_1 h_31) h_31 fun t139_1 h_32 =>
  guardM (asG t137_1 false) false (fun k_19 => k_19 t107_1 h_32) h_32 fun t140_1 h_33 =>
  guardM (asG t137_1 false) false (fun k_20 => pop P (binE .neq 4 (.tmp 139) (.tmp 140) t139_1 t140_1) fun t141_1 =>
  k_20 t141_1 h_33) h_33 fun t141_2 h_34 =>
  pop P (pickS t137_1 (Value.bool true) t141_2) fun t142_1 =>
  guardM (asG t142_1 false) false (fun k_21 => k_21 t100_1 h_34) h_34 fun t144_1 h_35 =>
  guardM (asG t142_1 false) false (fun k_22 => k_22 t106_1 h_35) h_35 fun t145_1 h_36 =>
  guardM (asG t142_1 false) false (fun k_23 => callM P 32 #[t144_1, t145_1] h_36 fun t146_1 h_37 =>
  k_23 t146_1 h_37) h_36 fun t146_2 h_38 =>
  guardM (asG t142_1 false) false (fun k_24 => pop P (Op.unary .not t146_2) fun t147_1 =>
  k_24 t147_1 h_38) h_38 fun t147_2 h_39 =>
  pop P (pickS t142_1 (Value.bool true) t147_2) fun t148_1 =>
  guardM (asG t148_1 false) false (fun k_25 => k_25 t89_1 h_39) h_39 fun t150_1 h_40 =>
  guardM (asG t148_1 false) false (fun k_26 => k_26 t77_1 h_40) h_40 fun t151_1 h_41 =>
  guardM (asG t148_1 false) false (fun k_27 => pop P (binE .neq 4 (.tmp 150) (.tmp 151) t150_1 t151_1) fun t152_1 =>
  k_27 t152_1 h_41) h_41 fun t152_2 h_42 =>
  pop P (pickS t148_1 (Value.bool true) t152_2) fun t153_1 =>
  guardM (asG t153_1 false) false (fun k_28 => k_28 t65_1 h_42) h_42 fun t155_1 h_43 =>
  guardM (asG t153_1 false) false (fun k_29 => k_29 t155_1 h_43) h_43 fun t156_1 h_44 =>
  guardM (asG t156_1 true) true (fun k_30 => k_30 t77_1 h_44) h_44 fun t157_1 h_45 =>
  guardM (asG t156_1 true) true (fun k_31 => pop P (Op.unary .not t157_1) fun t158_1 =>
  k_31 t158_1 h_45) h_45 fun t158_2 h_46 =>
  guardM (asG t153_1 false) false (fun k_32 => pop P (pickS t156_1 t158_2 (Value.bool false)) fun t159_1 =>
  k_32 t159_1 h_46) h_46 fun t159_2 h_47 =>
  pop P (pickS t153_1 (Value.bool true) t159_2) fun t160_1 =>
  condM t160_1
  (K (Value.bool false) h_47)
  (∃ J_1 : List Value → Heap → Prop, (condM t77_1
  (callM P 47 #[t88_1] h_47 fun t164_1 h_48 =>
  pop P (Instr.extract t164_1 0) fun t165_1 =>
  pop P (Instr.extract t164_1 1) fun t166_1 =>
  rop P (Instr.loadAt 26 g5_1) h_48 fun t168_1 =>
  callM P 48 #[t168_1, t59_1] h_48 fun t170_1 h_49 =>
  pop P (Instr.extract t170_1 0) fun t171_1 =>
  pop P (Instr.extract t170_1 1) fun t172_1 =>
  pop P (Op.unary .not t166_1) fun t174_1 =>
  guardM (asG t174_1 false) false (fun k_33 => k_33 t165_1 h_49) h_49 fun t176_1 h_50 =>
  guardM (asG t174_1 false) false (fun k_34 => k_34 t76_1 h_50) h_50 fun t177_1 h_51 =>
  guardM (asG t174_1 false) false (fun k_35 => pop P (binE .neq 3 (.tmp 176) (.tmp 177) t176_1 t177_1) fun t178_1 =>
  k_35 t178_1 h_51) h_51 fun t178_2 h_52 =>
  pop P (pickS t174_1 (Value.bool true) t178_2) fun t179_1 =>
  guardM (asG t179_1 false) false (fun k_36 => k_36 t76_1 h_52) h_52 fun t181_1 h_53 =>
  guardM (asG t179_1 false) false (fun k_37 => pop P (binA .lss 3 t181_1 (Value.int IntKind.i64 0)) fun t182_1 =>
  k_37 t182_1 h_53) h_53 fun t182_2 h_54 =>
  pop P (pickS t179_1 (Value.bool true) t182_2) fun t183_1 =>
  guardM (asG t183_1 false) false (fun k_38 => k_38 t172_1 h_54) h_54 fun t185_1 h_55 =>
  guardM (asG t183_1 false) false (fun k_39 => pop P (Op.unary .not t185_1) fun t186_1 =>
  k_39 t186_1 h_55) h_55 fun t186_2 h_56 =>
  pop P (pickS t183_1 (Value.bool true) t186_2) fun t187_1 =>
  guardM (asG t187_1 false) false (fun k_40 => k_40 t171_1 h_56) h_56 fun t189_1 h_57 =>
  guardM (asG t187_1 false) false (fun k_41 => k_41 t76_1 h_57) h_57 fun t190_1 h_58 =>
  guardM (asG t187_1 false) false (fun k_42 => pop P (binA .gtr 3 t190_1 (Value.int IntKind.i64 0)) fun t191_1 =>
  k_42 t191_1 h_58) h_58 fun t191_2 h_59 =>
  guardM (asG t187_1 false) false (fun k_43 => pop P (binE .neq 4 (.tmp 189) (.tmp 191) t189_1 t191_2) fun t192_1 =>
  k_43 t192_1 h_59) h_59 fun t192_2 h_60 =>
  pop P (pickS t187_1 (Value.bool true) t192_2) fun t193_1 =>
  guardM (asG t193_1 false) false (fun k_44 => k_44 t101_1 h_60) h_60 fun t195_1 h_61 =>
  guardM (asG t193_1 false) false (fun k_45 => k_45 t171_1 h_61) h_61 fun t196_1 h_62 =>
  guardM (asG t193_1 false) false (fun k_46 => pop P (binE .neq 4 (.tmp 195) (.tmp 196) t195_1 t196_1) fun t197_1 =>
  k_46 t197_1 h_62) h_62 fun t197_2 h_63 =>
  pop P (pickS t193_1 (Value.bool true) t197_2) fun t198_1 =>
  guardM (asG t198_1 false) false (fun k_47 => k_47 t65_1 h_63) h_63 fun t200_1 h_64 =>
  guardM (asG t198_1 false) false (fun k_48 => k_48 t76_1 h_64) h_64 fun t201_1 h_65 =>
  guardM (asG t198_1 false) false (fun k_49 => pop P (binA .leq 3 t201_1 (Value.int IntKind.i64 300)) fun t202_1 =>
  k_49 t202_1 h_65) h_65 fun t202_2 h_66 =>
  guardM (asG t198_1 false) false (fun k_50 => pop P (binE .neq 4 (.tmp 200) (.tmp 202) t200_1 t202_2) fun t203_1 =>
  k_50 t203_1 h_66) h_66 fun t203_2 h_67 =>
  pop P (pickS t198_1 (Value.bool true) t203_2) fun t204_1 =>
  condM t204_1
  (K (Value.bool false) h_67)
  (J_1 [] h_67))
  (J_1 [] h_47)) ∧
  ∀ (junk_1 : Nat → Value) (h_68 : Heap), J_1 [] h_68 →
  ∃ J_2 : List Value → Heap → Prop, (condM t65_1
  (pop P (lenS 24 3 t64_1) fun t207_1 =>
  ∃ (I_1 : List Value → Heap → Prop) (μ_1 : List Value → Heap → Nat), I_1 [(Value.int IntKind.i64 0)] h_68 ∧
  ∀ (junk_2 : Nat → Value) (t208_1 : Value) (h_69 : Heap), I_1 [t208_1] h_69 →
  pop P (binA .lss 3 t208_1 t207_1) fun t209_1 =>
  condM t209_1
  (pop P (Instr.indexAt 24 t64_1 t208_1) fun t211_1 =>
  rop P (Instr.loadAt 37 t211_1) h_69 fun t212_1 =>
  rop P (Instr.loadAt 26 g5_1) h_69 fun t214_1 =>
  callM P 49 #[t214_1, t59_1, t212_1] h_69 fun t217_1 h_70 =>
  pop P (Instr.extract t217_1 0) fun t218_1 =>
  pop P (Instr.extract t217_1 1) fun t219_1 =>
  pop P (Op.unary .not t219_1) fun t221_1 =>
  guardM (asG t221_1 false) false (fun k_51 => k_51 t218_1 h_70) h_70 fun t223_1 h_71 =>
  guardM (asG t221_1 false) false (fun k_52 => pop P (Op.unary .not t223_1) fun t224_1 =>
  k_52 t224_1 h_71) h_71 fun t224_2 h_72 =>
  pop P (pickS t221_1 (Value.bool true) t224_2) fun t225_1 =>
  guardM (asG t225_1 false) false (fun k_53 => k_53 t208_1 h_72) h_72 fun t227_1 h_73 =>
  guardM (asG t225_1 false) false (fun k_54 => pop P (binA .gtr 3 t227_1 (Value.int IntKind.i64 0)) fun t228_1 =>
  k_54 t228_1 h_73) h_73 fun t228_2 h_74 =>
  guardM (asG t225_1 false) false (fun k_55 => k_55 t228_2 h_74) h_74 fun t229_1 h_75 =>
  guardM (asG t229_1 true) true (fun k_56 => k_56 t64_1 h_75) h_75 fun t230_1 h_76 =>
  guardM (asG t229_1 true) true (fun k_57 => k_57 t208_1 h_76) h_76 fun t231_1 h_77 =>
  guardM (asG t229_1 true) true (fun k_58 => pop P (binA .sub 3 t231_1 (Value.int IntKind.i64 1)) fun t232_1 =>
  k_58 t232_1 h_77) h_77 fun t232_2 h_78 =>
  guardM (asG t229_1 true) true (fun k_59 => pop P (Instr.indexAt 24 t230_1 t232_2) fun t233_1 =>
  k_59 t233_1 h_78) h_78 fun t233_2 h_79 =>
  guardM (asG t229_1 true) true (fun k_60 => rop P (Instr.loadAt 37 t233_2) h_79 fun t234_1 =>
  k_60 t234_1 h_79) h_79 fun t234_2 h_80 =>
  guardM (asG t229_1 true) true (fun k_61 => k_61 t212_1 h_80) h_80 fun t235_1 h_81 =>
  guardM (asG t229_1 true) true (fun k_62 => callM P 50 #[t234_2, t235_1] h_81 fun t236_1 h_82 =>
  k_62 t236_1 h_82) h_81 fun t236_2 h_83 =>
  guardM (asG t229_1 true) true (fun k_63 => pop P (Op.unary .not t236_2) fun t237_1 =>
  k_63 t237_1 h_83) h_83 fun t237_2 h_84 =>
  guardM (asG t225_1 false) false (fun k_64 => pop P (pickS t229_1 t237_2 (Value.bool false)) fun t238_1 =>
  k_64 t238_1 h_84) h_84 fun t238_2 h_85 =>
  pop P (pickS t225_1 (Value.bool true) t238_2) fun t239_1 =>
  condM t239_1
  (K (Value.bool false) h_85)
  (pop P (binA .add 3 t208_1 (Value.int IntKind.i64 1)) fun t240_1 =>
  I_1 [t240_1] h_85 ∧ μ_1 [t240_1] h_85 < μ_1 [t208_1] h_69))
  (pop P (lenS 24 3 t64_1) fun t242_1 =>
  pop P (binE .neq 3 (.tmp 242) (.tmp 243) t242_1 t76_1) fun t244_1 =>
  guardM (asG t244_1 false) false (fun k_65 => k_65 t101_1 h_69) h_69 fun t246_1 h_86 =>
  guardM (asG t244_1 false) false (fun k_66 => k_66 t246_1 h_86) h_86 fun t247_1 h_87 =>
  guardM (asG t247_1 true) true (fun k_67 => k_67 t100_1 h_87) h_87 fun t248_1 h_88 =>
  guardM (asG t247_1 true) true (fun k_68 => k_68 t64_1 h_88) h_88 fun t249_1 h_89 =>
  guardM (asG t247_1 true) true (fun k_69 => pop P (Instr.indexAt 24 t249_1 (Value.int IntKind.i64 0)) fun t250_1 =>
  k_69 t250_1 h_89) h_89 fun t250_2 h_90 =>
  guardM (asG t247_1 true) true (fun k_70 => rop P (Instr.loadAt 37 t250_2) h_90 fun t251_1 =>
  k_70 t251_1 h_90) h_90 fun t251_2 h_91 =>
  guardM (asG t247_1 true) true (fun k_71 => callM P 32 #[t248_1, t251_2] h_91 fun t252_1 h_92 =>
  k_71 t252_1 h_92) h_91 fun t252_2 h_93 =>
  guardM (asG t247_1 true) true (fun k_72 => pop P (Op.unary .not t252_2) fun t253_1 =>
  k_72 t253_1 h_93) h_93 fun t253_2 h_94 =>
  guardM (asG t244_1 false) false (fun k_73 => pop P (pickS t247_1 t253_2 (Value.bool false)) fun t254_1 =>
  k_73 t254_1 h_94) h_94 fun t254_2 h_95 =>
  pop P (pickS t244_1 (Value.bool true) t254_2) fun t255_1 =>
  condM t255_1
  (K (Value.bool false) h_95)
  (J_2 [] h_95)))
  (J_2 [] h_68)) ∧
  ∀ (junk_3 : Nat → Value) (h_96 : Heap), J_2 [] h_96 →
  callM P 51 #[more1_1] h_96 fun t258_1 h_97 =>
  pop P (Instr.extract t258_1 0) fun t259_1 =>
  pop P (Instr.extract t258_1 1) fun t260_1 =>
  pop P (Instr.extract t258_1 2) fun t261_1 =>
  eop P (Instr.alloc 26 true (.tuple #[])) h_97 fun h31_1 h_98 =>
  uop P (Instr.storeAt 26 h31_1 t259_1) h_98 fun u_2 h_99 =>
  rop P (Instr.loadAt 26 h31_1) h_99 fun t263_1 =>
  callM P 49 #[t263_1, t260_1, t261_1] h_99 fun t266_1 h_100 =>
  pop P (Instr.extract t266_1 0) fun t267_1 =>
  pop P (Instr.extract t266_1 1) fun t268_1 =>
  rop P (Instr.loadAt 26 h31_1) h_100 fun t270_1 =>
  callM P 52 #[t270_1, t260_1, t261_1] h_100 fun t273_1 h_101 =>
  pop P (Instr.extract t273_1 0) fun t274_1 =>
  pop P (Instr.extract t273_1 1) fun t275_1 =>
  rop P (Instr.loadAt 26 h31_1) h_101 fun t277_1 =>
  callM P 53 #[t277_1, t260_1, t261_1] h_101 fun t280_1 h_102 =>
  pop P (Instr.extract t280_1 0) fun t281_1 =>
  pop P (Instr.extract t280_1 1) fun t282_1 =>
  rop P (Instr.loadAt 26 h31_1) h_102 fun t284_1 =>
  callM P 54 #[t284_1, t260_1, t261_1] h_102 fun t287_1 h_103 =>
  pop P (Instr.extract t287_1 0) fun t288_1 =>
  pop P (Instr.extract t287_1 1) fun t289_1 =>
  pop P (binE .neq 4 (.tmp 290) (.tmp 291) t268_1 t275_1) fun t292_1 =>
  guardM (asG t292_1 false) false (fun k_74 => k_74 t267_1 h_103) h_103 fun t294_1 h_104 =>
  guardM (asG t292_1 false) false (fun k_75 => k_75 t274_1 h_104) h_104 fun t295_1 h_105 =>
  guardM (asG t292_1 false) false (fun k_76 => pop P (binE .neq 4 (.tmp 294) (.tmp 295) t294_1 t295_1) fun t296_1 =>
  k_76 t296_1 h_105) h_105 fun t296_2 h_106 =>
  pop P (pickS t292_1 (Value.bool true) t296_2) fun t297_1 =>
  guardM (asG t297_1 false) false (fun k_77 => k_77 t282_1 h_106) h_106 fun t299_1 h_107 =>
  guardM (asG t297_1 false) false (fun k_78 => k_78 t289_1 h_107) h_107 fun t300_1 h_108 =>
  guardM (asG t297_1 false) false (fun k_79 => pop P (binE .neq 4 (.tmp 299) (.tmp 300) t299_1 t300_1) fun t301_1 =>
  k_79 t301_1 h_108) h_108 fun t301_2 h_109 =>
  pop P (pickS t297_1 (Value.bool true) t301_2) fun t302_1 =>
  guardM (asG t302_1 false) false (fun k_80 => k_80 t281_1 h_109) h_109 fun t304_1 h_110 =>
  guardM (asG t302_1 false) false (fun k_81 => k_81 t288_1 h_110) h_110 fun t305_1 h_111 =>
  guardM (asG t302_1 false) false (fun k_82 => callM P 32 #[t304_1, t305_1] h_111 fun t306_1 h_112 =>
  k_82 t306_1 h_112) h_111 fun t306_2 h_113 =>
  guardM (asG t302_1 false) false (fun k_83 => pop P (Op.unary .not t306_2) fun t307_1 =>
  k_83 t307_1 h_113) h_113 fun t307_2 h_114 =>
  pop P (pickS t302_1 (Value.bool true) t307_2) fun t308_1 =>
  guardM (asG t308_1 false) false (fun k_84 => k_84 t282_1 h_114) h_114 fun t310_1 h_115 =>
  guardM (asG t308_1 false) false (fun k_85 => k_85 t268_1 h_115) h_115 fun t311_1 h_116 =>
  guardM (asG t308_1 false) false (fun k_86 => k_86 t311_1 h_116) h_116 fun t312_1 h_117 =>
  guardM (asG t312_1 true) true (fun k_87 => k_87 t267_1 h_117) h_117 fun t313_1 h_118 =>
  guardM (asG t308_1 false) false (fun k_88 => pop P (pickS t312_1 t313_1 (Value.bool false)) fun t314_1 =>
  k_88 t314_1 h_118) h_118 fun t314_2 h_119 =>
  guardM (asG t308_1 false) false (fun k_89 => pop P (binE .neq 4 (.tmp 310) (.tmp 314) t310_1 t314_2) fun t315_1 =>
  k_89 t315_1 h_119) h_119 fun t315_2 h_120 =>
  pop P (pickS t308_1 (Value.bool true) t315_2) fun t316_1 =>
  condM t316_1
  (K (Value.bool false) h_120)
  (∃ J_3 : List Value → Heap → Prop, (condM t282_1
  (pop P (lenS 37 3 t281_1) fun t319_1 =>
  ∃ (I_2 : List Value → Heap → Prop) (μ_2 : List Value → Heap → Nat), I_2 [(Value.int IntKind.i64 0)] h_120 ∧
  ∀ (junk_4 : Nat → Value) (t320_1 : Value) (h_121 : Heap), I_2 [t320_1] h_121 →
  pop P (binA .lss 3 t320_1 t319_1) fun t321_1 =>
  condM t321_1
  (pop P (Instr.indexAt 37 t281_1 t320_1) fun t323_1 =>
  rop P (Instr.loadAt 3 t323_1) h_121 fun t324_1 =>
  pop P (binE .eql 3 (.tmp 325) (.const (Value.int IntKind.i64 0)) t324_1 (Value.int IntKind.i64 0)) fun t326_1 =>
  pop P (binE .eql 3 (.tmp 327) (.tmp 328) t320_1 t260_1) fun t329_1 =>
  pop P (binE .neq 4 (.tmp 326) (.tmp 329) t326_1 t329_1) fun t330_1 =>
  guardM (asG t330_1 false) false (fun k_90 => k_90 t324_1 h_121) h_121 fun t332_1 h_122 =>
  guardM (asG t330_1 false) false (fun k_91 => pop P (binA .gtr 3 t332_1 (Value.int IntKind.i64 0)) fun t333_1 =>
  k_91 t333_1 h_122) h_122 fun t333_2 h_123 =>
  guardM (asG t330_1 false) false (fun k_92 => k_92 t333_2 h_123) h_123 fun t334_1 h_124 =>
  guardM (asG t334_1 true) true (fun k_93 => k_93 t281_1 h_124) h_124 fun t335_1 h_125 =>
  guardM (asG t334_1 true) true (fun k_94 => pop P (Instr.fieldAt 26 h31_1 0) fun t336_1 =>
  k_94 t336_1 h_125) h_125 fun t336_2 h_126 =>
  guardM (asG t334_1 true) true (fun k_95 => rop P (Instr.loadAt 24 t336_2) h_126 fun t337_1 =>
  k_95 t337_1 h_126) h_126 fun t337_2 h_127 =>
  guardM (asG t334_1 true) true (fun k_96 => k_96 t320_1 h_127) h_127 fun t338_1 h_128 =>
  guardM (asG t334_1 true) true (fun k_97 => pop P (Instr.indexAt 24 t337_2 t338_1) fun t339_1 =>
  k_97 t339_1 h_128) h_128 fun t339_2 h_129 =>
  guardM (asG t334_1 true) true (fun k_98 => rop P (Instr.loadAt 37 t339_2) h_129 fun t340_1 =>
  k_98 t340_1 h_129) h_129 fun t340_2 h_130 =>
  guardM (asG t334_1 true) true (fun k_99 => k_99 t261_1 h_130) h_130 fun t341_1 h_131 =>
  guardM (asG t334_1 true) true (fun k_100 => k_100 t320_1 h_131) h_131 fun t342_1 h_132 =>
  guardM (asG t334_1 true) true (fun k_101 => pop P (Instr.indexAt 37 t341_1 t342_1) fun t343_1 =>
  k_101 t343_1 h_132) h_132 fun t343_2 h_133 =>
  guardM (asG t334_1 true) true (fun k_102 => rop P (Instr.loadAt 3 t343_2) h_133 fun t344_1 =>
  k_102 t344_1 h_133) h_133 fun t344_2 h_134 =>
  guardM (asG t334_1 true) true (fun k_103 => pop P (Instr.indexAt 37 t340_2 t344_2) fun t345_1 =>
  k_103 t345_1 h_134) h_134 fun t345_2 h_135 =>
  guardM (asG t334_1 true) true (fun k_104 => rop P (Instr.loadAt 3 t345_2) h_135 fun t346_1 =>
  k_104 t346_1 h_135) h_135 fun t346_2 h_136 =>
  guardM (asG t334_1 true) true (fun k_105 => pop P (Instr.indexAt 37 t335_1 t346_2) fun t347_1 =>
  k_105 t347_1 h_136) h_136 fun t347_2 h_137 =>
  guardM (asG t334_1 true) true (fun k_106 => rop P (Instr.loadAt 3 t347_2) h_137 fun t348_1 =>
  k_106 t348_1 h_137) h_137 fun t348_2 h_138 =>
  guardM (asG t334_1 true) true (fun k_107 => k_107 t324_1 h_138) h_138 fun t349_1 h_139 =>
  guardM (asG t334_1 true) true (fun k_108 => pop P (binA .sub 3 t349_1 (Value.int IntKind.i64 1)) fun t350_1 =>
  k_108 t350_1 h_139) h_139 fun t350_2 h_140 =>
  guardM (asG t334_1 true) true (fun k_109 => pop P (binE .neq 3 (.tmp 348) (.tmp 350) t348_2 t350_2) fun t351_1 =>
  k_109 t351_1 h_140) h_140 fun t351_2 h_141 =>
  guardM (asG t330_1 false) false (fun k_110 => pop P (pickS t334_1 t351_2 (Value.bool false)) fun t352_1 =>
  k_110 t352_1 h_141) h_141 fun t352_2 h_142 =>
  pop P (pickS t330_1 (Value.bool true) t352_2) fun t353_1 =>
  condM t353_1
  (K (Value.bool false) h_142)
  (pop P (binA .add 3 t320_1 (Value.int IntKind.i64 1)) fun t354_1 =>
  I_2 [t354_1] h_142 ∧ μ_2 [t354_1] h_142 < μ_2 [t320_1] h_121))
  (J_3 [] h_121))
  (J_3 [] h_120)) ∧
  ∀ (junk_5 : Nat → Value) (h_143 : Heap), J_3 [] h_143 →
  callM P 55 #[more1_1] h_143 fun t356_1 h_144 =>
  callM P 47 #[t356_1] h_144 fun t359_1 h_145 =>
  pop P (Instr.extract t359_1 0) fun t360_1 =>
  pop P (Instr.extract t359_1 1) fun t361_1 =>
  callM P 56 #[t356_1] h_145 fun t364_1 h_146 =>
  pop P (Instr.extract t364_1 0) fun t365_1 =>
  pop P (Instr.extract t364_1 1) fun t366_1 =>
  pop P (binE .neq 4 (.tmp 367) (.tmp 368) t361_1 t366_1) fun t369_1 =>
  guardM (asG t369_1 false) false (fun k_111 => k_111 t360_1 h_146) h_146 fun t371_1 h_147 =>
  guardM (asG t369_1 false) false (fun k_112 => k_112 t365_1 h_147) h_147 fun t372_1 h_148 =>
  guardM (asG t369_1 false) false (fun k_113 => pop P (binE .neq 3 (.tmp 371) (.tmp 372) t371_1 t372_1) fun t373_1 =>
  k_113 t373_1 h_148) h_148 fun t373_2 h_149 =>
  pop P (pickS t369_1 (Value.bool true) t373_2) fun t374_1 =>
  condM t374_1
  (K (Value.bool false) h_149)
  (guardM (asG t361_1 true) true (fun k_114 => k_114 t356_1 h_149) h_149 fun t377_1 h_150 =>
  guardM (asG t361_1 true) true (fun k_115 => pop P (lenS 24 3 t377_1) fun t378_1 =>
  k_115 t378_1 h_150) h_150 fun t378_2 h_151 =>
  guardM (asG t361_1 true) true (fun k_116 => pop P (binA .geq 3 t378_2 (Value.int IntKind.i64 2)) fun t379_1 =>
  k_116 t379_1 h_151) h_151 fun t379_2 h_152 =>
  pop P (pickS t361_1 t379_2 (Value.bool false)) fun t380_1 =>
  condM t380_1
  (pop P (Instr.indexAt 24 t356_1 (Value.int IntKind.i64 1)) fun t382_1 =>
  rop P (Instr.loadAt 37 t382_1) h_152 fun t383_1 =>
  pop P (Instr.indexAt 24 t356_1 (Value.int IntKind.i64 0)) fun t385_1 =>
  rop P (Instr.loadAt 37 t385_1) h_152 fun t386_1 =>
  pop P (Instr.sliceAt 24 t356_1 (some (Value.int IntKind.i64 2)) none none) fun t389_1 =>
  eop P (Instr.buildSlice 24 2 #[(0, t383_1), (1, t386_1)]) h_152 fun t387_1 h_153 =>
  eop P (appS 24 24 24 t387_1 t389_1) h_153 fun t390_1 h_154 =>
  callM P 47 #[t390_1] h_154 fun t393_1 h_155 =>
  pop P (Instr.extract t393_1 0) fun t394_1 =>
  pop P (Instr.extract t393_1 1) fun t395_1 =>
  guardM (asG t395_1 true) true (fun k_117 => k_117 t394_1 h_155) h_155 fun t398_1 h_156 =>
  guardM (asG t395_1 true) true (fun k_118 => k_118 t360_1 h_156) h_156 fun t399_1 h_157 =>
  guardM (asG t395_1 true) true (fun k_119 => pop P (Op.unary .neg t399_1) fun t400_1 =>
  k_119 t400_1 h_157) h_157 fun t400_2 h_158 =>
  guardM (asG t395_1 true) true (fun k_120 => pop P (binE .eql 3 (.tmp 398) (.tmp 400) t398_1 t400_2) fun t401_1 =>
  k_120 t401_1 h_158) h_158 fun t401_2 h_159 =>
  pop P (pickS t395_1 t401_2 (Value.bool false)) fun t402_1 =>
  K t402_1 h_159)
  (K (Value.bool true) h_152)))))
theorem e5 (code0_1 : Value) (more1_1 : Value) (h : Heap) (K : Value → Heap → Prop) : wpA Try.prog 403 (anOf [(8191, []), (16383, []), (1048530, [208]), (2097151, []), (67108842, [320])]) (bodyOf Try.f5) 1 (fun A h => resA Try.prog A h K [.tmp 4]) (fun _ _ _ => False) (fun A h => resA Try.prog A h K [.tmp 4]) (aargs [code0_1, more1_1] 0) h = t5 Try.prog code0_1 more1_1 h K := by kernel_rfl
theorem c5 (code0_1 : Value) (more1_1 : Value) (h : Heap) (K : Value → Heap → Prop) (H : t5 Try.prog code0_1 more1_1 h K) : callM Try.prog 5 #[code0_1, more1_1] h K :=
  callM_of_wpA mixed (fn := Try.f5) Try.func5 (c := bodyOf Try.f5) rfl (of_decide_eq_true (by kernel_rfl)) (anOf [(8191, []), (16383, []), (1048530, [208]), (2097151, []), (67108842, [320])]) 401 403 (by kernel_rfl) rfl [.tmp 4] (by kernel_rfl) (args := [code0_1, more1_1]) (by rw [e5]; exact H)

/-! laws.big -/
def t6 (P : Program) (code0_1 : Value) (more1_1 : Value) (h : Heap) (K : Value → Heap → Prop) : Prop :=
  pop P (lenS 22 3 code0_1) fun t6_1 =>
  pop P (binA .gtr 3 t6_1 (Value.int IntKind.i64 1048576)) fun t7_1 =>
  guardM (asG t7_1 false) false (fun k_1 => k_1 more1_1 h) h fun t9_1 h_1 =>
  guardM (asG t7_1 false) false (fun k_2 => pop P (lenS 22 3 t9_1) fun t10_1 =>
  k_2 t10_1 h_1) h_1 fun t10_2 h_2 =>
  guardM (asG t7_1 false) false (fun k_3 => k_3 code0_1 h_2) h_2 fun t11_1 h_3 =>
  guardM (asG t7_1 false) false (fun k_4 => pop P (lenS 22 3 t11_1) fun t12_1 =>
  k_4 t12_1 h_3) h_3 fun t12_2 h_4 =>
  guardM (asG t7_1 false) false (fun k_5 => pop P (binA .sub 3 (Value.int IntKind.i64 1048576) t12_2) fun t13_1 =>
  k_5 t13_1 h_4) h_4 fun t13_2 h_5 =>
  guardM (asG t7_1 false) false (fun k_6 => pop P (binA .gtr 3 t10_2 t13_2) fun t14_1 =>
  k_6 t14_1 h_5) h_5 fun t14_2 h_6 =>
  pop P (pickS t7_1 (Value.bool true) t14_2) fun t15_1 =>
  K t15_1 h_6
theorem e6 (code0_1 : Value) (more1_1 : Value) (h : Heap) (K : Value → Heap → Prop) : wpA Try.prog 16 (anOf []) (bodyOf Try.f6) 1 (fun A h => resA Try.prog A h K [.tmp 4]) (fun _ _ _ => False) (fun A h => resA Try.prog A h K [.tmp 4]) (aargs [code0_1, more1_1] 0) h = t6 Try.prog code0_1 more1_1 h K := by kernel_rfl
theorem c6 (code0_1 : Value) (more1_1 : Value) (h : Heap) (K : Value → Heap → Prop) (H : t6 Try.prog code0_1 more1_1 h K) : callM Try.prog 6 #[code0_1, more1_1] h K :=
  callM_of_wpA mixed (fn := Try.f6) Try.func6 (c := bodyOf Try.f6) rfl (of_decide_eq_true (by kernel_rfl)) (anOf []) 14 16 (by kernel_rfl) rfl [.tmp 4] (by kernel_rfl) (args := [code0_1, more1_1]) (by rw [e6]; exact H)

/-! laws.wSame -/
def t32 (P : Program) (a0_1 : Value) (b1_1 : Value) (h : Heap) (K : Value → Heap → Prop) : Prop :=
  pop P (lenS 37 3 a0_1) fun t7_1 =>
  pop P (lenS 37 3 b1_1) fun t9_1 =>
  pop P (binE .neq 3 (.tmp 7) (.tmp 9) t7_1 t9_1) fun t10_1 =>
  condM t10_1
  (K (Value.bool false) h)
  (pop P (lenS 37 3 a0_1) fun t12_1 =>
  ∃ (I_1 : List Value → Heap → Prop) (μ_1 : List Value → Heap → Nat), I_1 [(Value.int IntKind.i64 0)] h ∧
  ∀ (junk_1 : Nat → Value) (t13_1 : Value) (h_1 : Heap), I_1 [t13_1] h_1 →
  pop P (binA .lss 3 t13_1 t12_1) fun t14_1 =>
  condM t14_1
  (pop P (Instr.indexAt 37 a0_1 t13_1) fun t18_1 =>
  rop P (Instr.loadAt 3 t18_1) h_1 fun t19_1 =>
  pop P (Instr.indexAt 37 b1_1 t13_1) fun t22_1 =>
  rop P (Instr.loadAt 3 t22_1) h_1 fun t23_1 =>
  pop P (binE .neq 3 (.tmp 19) (.tmp 23) t19_1 t23_1) fun t24_1 =>
  condM t24_1
  (K (Value.bool false) h_1)
  (pop P (binA .add 3 t13_1 (Value.int IntKind.i64 1)) fun t25_1 =>
  I_1 [t25_1] h_1 ∧ μ_1 [t25_1] h_1 < μ_1 [t13_1] h_1))
  (K (Value.bool true) h_1))
theorem e32 (a0_1 : Value) (b1_1 : Value) (h : Heap) (K : Value → Heap → Prop) : wpA Try.prog 26 (anOf [(58, [13])]) (bodyOf Try.f32) 1 (fun A h => resA Try.prog A h K [.tmp 4]) (fun _ _ _ => False) (fun A h => resA Try.prog A h K [.tmp 4]) (aargs [a0_1, b1_1] 0) h = t32 Try.prog a0_1 b1_1 h K := by kernel_rfl
theorem c32 (a0_1 : Value) (b1_1 : Value) (h : Heap) (K : Value → Heap → Prop) (H : t32 Try.prog a0_1 b1_1 h K) : callM Try.prog 32 #[a0_1, b1_1] h K :=
  callM_of_wpA mixed (fn := Try.f32) Try.func32 (c := bodyOf Try.f32) rfl (of_decide_eq_true (by kernel_rfl)) (anOf [(58, [13])]) 24 26 (by kernel_rfl) rfl [.tmp 4] (by kernel_rfl) (args := [a0_1, b1_1]) (by rw [e32]; exact H)

/-! spec.DrawAllTrees -/
def t37 (P : Program) (code0_1 : Value) (h : Heap) (K : Value → Heap → Prop) : Prop :=
  eop P (Instr.alloc 26 true (.tuple #[])) h fun t2_1 h_1 =>
  callM P 87 #[code0_1] h_1 fun t5_1 h_2 =>
  pop P (Instr.extract t5_1 0) fun t6_1 =>
  pop P (Instr.extract t5_1 1) fun t7_1 =>
  uop P (Instr.storeAt 26 t2_1 t6_1) h_2 fun u_1 h_3 =>
  rop P (Instr.loadAt 26 t2_1) h_3 fun r_1 =>
  K (.tuple #[r_1, t7_1]) h_3
theorem e37 (code0_1 : Value) (h : Heap) (K : Value → Heap → Prop) : wpA Try.prog 8 (anOf []) (bodyOf Try.f37) 1 (fun A h => resA Try.prog A h K [.cell 2 26, .tmp 3]) (fun _ _ _ => False) (fun A h => resA Try.prog A h K [.cell 2 26, .tmp 3]) (aargs [code0_1] 0) h = t37 Try.prog code0_1 h K := by kernel_rfl
theorem c37 (code0_1 : Value) (h : Heap) (K : Value → Heap → Prop) (H : t37 Try.prog code0_1 h K) : callM Try.prog 37 #[code0_1] h K :=
  callM_of_wpA mixed (fn := Try.f37) Try.func37 (c := bodyOf Try.f37) rfl (of_decide_eq_true (by kernel_rfl)) (anOf []) 7 8 (by kernel_rfl) rfl [.cell 2 26, .tmp 3] (by kernel_rfl) (args := [code0_1]) (by rw [e37]; exact H)

/-! impl.AllTrees -/
def t38 (P : Program) (g0_1 : Value) (sink1_1 : Value) (h : Heap) (K : Value → Heap → Prop) : Prop :=
  eop P (Instr.box 26 g0_1) h fun g2_1 h_1 =>
  rop P (Instr.loadAt 26 g2_1) h_1 fun t6_1 =>
  eop P (Instr.buildSlice 37 1 #[(0, sink1_1)]) h_1 fun t8_1 h_2 =>
  callM P 63 #[t6_1, t8_1] h_2 fun t9_1 h_3 =>
  pop P (Op.unary .not t9_1) fun t10_1 =>
  guardM (asG t10_1 false) false (fun k_1 => rop P (Instr.loadAt 26 g2_1) h_3 fun t12_1 =>
  k_1 t12_1 h_3) h_3 fun t12_2 h_4 =>
  guardM (asG t10_1 false) false (fun k_2 => k_2 sink1_1 h_4) h_4 fun t13_1 h_5 =>
  guardM (asG t10_1 false) false (fun k_3 => callM P 89 #[t12_2, t13_1] h_5 fun t14_1 h_6 =>
  k_3 t14_1 h_6) h_5 fun t14_2 h_7 =>
  guardM (asG t10_1 false) false (fun k_4 => callM P 88 #[t14_2] h_7 fun t15_1 h_8 =>
  k_4 t15_1 h_8) h_7 fun t15_2 h_9 =>
  guardM (asG t10_1 false) false (fun k_5 => pop P (binA .gtr 3 t15_2 (Value.int IntKind.i64 300)) fun t16_1 =>
  k_5 t16_1 h_9) h_9 fun t16_2 h_10 =>
  pop P (pickS t10_1 (Value.bool true) t16_2) fun t17_1 =>
  condM t17_1
  (K (.tuple #[(Value.slice none 0 0), (Value.bool false)]) h_10)
  (rop P (Instr.loadAt 26 g2_1) h_10 fun t18_1 =>
  callM P 90 #[t18_1, sink1_1, (Value.int IntKind.i64 301)] h_10 fun t20_1 h_11 =>
  K (.tuple #[t20_1, (Value.bool true)]) h_11)
theorem e38 (g0_1 : Value) (sink1_1 : Value) (h : Heap) (K : Value → Heap → Prop) : wpA Try.prog 21 (anOf []) (bodyOf Try.f38) 1 (fun A h => resA Try.prog A h K [.tmp 4, .tmp 5]) (fun _ _ _ => False) (fun A h => resA Try.prog A h K [.tmp 4, .tmp 5]) (aargs [g0_1, sink1_1] 0) h = t38 Try.prog g0_1 sink1_1 h K := by kernel_rfl
theorem c38 (g0_1 : Value) (sink1_1 : Value) (h : Heap) (K : Value → Heap → Prop) (H : t38 Try.prog g0_1 sink1_1 h K) : callM Try.prog 38 #[g0_1, sink1_1] h K :=
  callM_of_wpA mixed (fn := Try.f38) Try.func38 (c := bodyOf Try.f38) rfl (of_decide_eq_true (by kernel_rfl)) (anOf []) 19 21 (by kernel_rfl) rfl [.tmp 4, .tmp 5] (by kernel_rfl) (args := [g0_1, sink1_1]) (by rw [e38]; exact H)

/-! spec.AllTrees -/
def t39 (P : Program) (g0_1 : Value) (sink1_1 : Value) (h : Heap) (K : Value → Heap → Prop) : Prop :=
  eop P (Instr.box 26 g0_1) h fun g2_1 h_1 =>
  rop P (Instr.loadAt 26 g2_1) h_1 fun t6_1 =>
  callM P 72 #[t6_1, sink1_1] h_1 fun t8_1 h_2 =>
  pop P (Op.unary .not t8_1) fun t9_1 =>
  guardM (asG t9_1 false) false (fun k_1 => rop P (Instr.loadAt 26 g2_1) h_2 fun t11_1 =>
  k_1 t11_1 h_2) h_2 fun t11_2 h_3 =>
  guardM (asG t9_1 false) false (fun k_2 => k_2 sink1_1 h_3) h_3 fun t12_1 h_4 =>
  guardM (asG t9_1 false) false (fun k_3 => callM P 92 #[t11_2, t12_1] h_4 fun t13_1 h_5 =>
  k_3 t13_1 h_5) h_4 fun t13_2 h_6 =>
  guardM (asG t9_1 false) false (fun k_4 => callM P 91 #[t13_2] h_6 fun t14_1 h_7 =>
  k_4 t14_1 h_7) h_6 fun t14_2 h_8 =>
  guardM (asG t9_1 false) false (fun k_5 => pop P (binA .gtr 3 t14_2 (Value.int IntKind.i64 300)) fun t15_1 =>
  k_5 t15_1 h_8) h_8 fun t15_2 h_9 =>
  pop P (pickS t9_1 (Value.bool true) t15_2) fun t16_1 =>
  condM t16_1
  (K (.tuple #[(Value.slice none 0 0), (Value.bool false)]) h_9)
  (rop P (Instr.loadAt 26 g2_1) h_9 fun t17_1 =>
  callM P 93 #[t17_1, sink1_1, (Value.int IntKind.i64 300)] h_9 fun t19_1 h_10 =>
  K (.tuple #[t19_1, (Value.bool true)]) h_10)
theorem e39 (g0_1 : Value) (sink1_1 : Value) (h : Heap) (K : Value → Heap → Prop) : wpA Try.prog 20 (anOf []) (bodyOf Try.f39) 1 (fun A h => resA Try.prog A h K [.tmp 4, .tmp 5]) (fun _ _ _ => False) (fun A h => resA Try.prog A h K [.tmp 4, .tmp 5]) (aargs [g0_1, sink1_1] 0) h = t39 Try.prog g0_1 sink1_1 h K := by kernel_rfl
theorem c39 (g0_1 : Value) (sink1_1 : Value) (h : Heap) (K : Value → Heap → Prop) (H : t39 Try.prog g0_1 sink1_1 h K) : callM Try.prog 39 #[g0_1, sink1_1] h K :=
  callM_of_wpA mixed (fn := Try.f39) Try.func39 (c := bodyOf Try.f39) rfl (of_decide_eq_true (by kernel_rfl)) (anOf []) 18 20 (by kernel_rfl) rfl [.tmp 4, .tmp 5] (by kernel_rfl) (args := [g0_1, sink1_1]) (by rw [e39]; exact H)

/-! impl.CountTrees -/
def t40 (P : Program) (g0_1 : Value) (sink1_1 : Value) (h : Heap) (K : Value → Heap → Prop) : Prop :=
  eop P (Instr.box 26 g0_1) h fun g2_1 h_1 =>
  rop P (Instr.loadAt 26 g2_1) h_1 fun t6_1 =>
  eop P (Instr.buildSlice 37 1 #[(0, sink1_1)]) h_1 fun t8_1 h_2 =>
  callM P 63 #[t6_1, t8_1] h_2 fun t9_1 h_3 =>
  pop P (Op.unary .not t9_1) fun t10_1 =>
  condM t10_1
  (K (.tuple #[(Value.int IntKind.i64 0), (Value.bool false)]) h_3)
  (rop P (Instr.loadAt 26 g2_1) h_3 fun t11_1 =>
  callM P 89 #[t11_1, sink1_1] h_3 fun t13_1 h_4 =>
  callM P 88 #[t13_1] h_4 fun t14_1 h_5 =>
  K (.tuple #[t14_1, (Value.bool true)]) h_5)
theorem e40 (g0_1 : Value) (sink1_1 : Value) (h : Heap) (K : Value → Heap → Prop) : wpA Try.prog 15 (anOf []) (bodyOf Try.f40) 1 (fun A h => resA Try.prog A h K [.tmp 4, .tmp 5]) (fun _ _ _ => False) (fun A h => resA Try.prog A h K [.tmp 4, .tmp 5]) (aargs [g0_1, sink1_1] 0) h = t40 Try.prog g0_1 sink1_1 h K := by kernel_rfl
theorem c40 (g0_1 : Value) (sink1_1 : Value) (h : Heap) (K : Value → Heap → Prop) (H : t40 Try.prog g0_1 sink1_1 h K) : callM Try.prog 40 #[g0_1, sink1_1] h K :=
  callM_of_wpA mixed (fn := Try.f40) Try.func40 (c := bodyOf Try.f40) rfl (of_decide_eq_true (by kernel_rfl)) (anOf []) 13 15 (by kernel_rfl) rfl [.tmp 4, .tmp 5] (by kernel_rfl) (args := [g0_1, sink1_1]) (by rw [e40]; exact H)

/-! spec.CountTrees -/
def t41 (P : Program) (g0_1 : Value) (sink1_1 : Value) (h : Heap) (K : Value → Heap → Prop) : Prop :=
  eop P (Instr.box 26 g0_1) h fun g2_1 h_1 =>
  rop P (Instr.loadAt 26 g2_1) h_1 fun t6_1 =>
  callM P 72 #[t6_1, sink1_1] h_1 fun t8_1 h_2 =>
  pop P (Op.unary .not t8_1) fun t9_1 =>
  condM t9_1
  (K (.tuple #[(Value.int IntKind.i64 0), (Value.bool false)]) h_2)
  (rop P (Instr.loadAt 26 g2_1) h_2 fun t10_1 =>
  callM P 92 #[t10_1, sink1_1] h_2 fun t12_1 h_3 =>
  callM P 91 #[t12_1] h_3 fun t13_1 h_4 =>
  K (.tuple #[t13_1, (Value.bool true)]) h_4)
theorem e41 (g0_1 : Value) (sink1_1 : Value) (h : Heap) (K : Value → Heap → Prop) : wpA Try.prog 14 (anOf []) (bodyOf Try.f41) 1 (fun A h => resA Try.prog A h K [.tmp 4, .tmp 5]) (fun _ _ _ => False) (fun A h => resA Try.prog A h K [.tmp 4, .tmp 5]) (aargs [g0_1, sink1_1] 0) h = t41 Try.prog g0_1 sink1_1 h K := by kernel_rfl
theorem c41 (g0_1 : Value) (sink1_1 : Value) (h : Heap) (K : Value → Heap → Prop) (H : t41 Try.prog g0_1 sink1_1 h K) : callM Try.prog 41 #[g0_1, sink1_1] h K :=
  callM_of_wpA mixed (fn := Try.f41) Try.func41 (c := bodyOf Try.f41) rfl (of_decide_eq_true (by kernel_rfl)) (anOf []) 12 14 (by kernel_rfl) rfl [.tmp 4, .tmp 5] (by kernel_rfl) (args := [g0_1, sink1_1]) (by rw [e41]; exact H)

/-! impl.LaplaceOf -/
def t42 (P : Program) (g0_1 : Value) (sink1_1 : Value) (h : Heap) (K : Value → Heap → Prop) : Prop :=
  eop P (Instr.box 26 g0_1) h fun g2_1 h_1 =>
  rop P (Instr.loadAt 26 g2_1) h_1 fun t6_1 =>
  eop P (Instr.buildSlice 37 1 #[(0, sink1_1)]) h_1 fun t8_1 h_2 =>
  callM P 63 #[t6_1, t8_1] h_2 fun t9_1 h_3 =>
  pop P (Op.unary .not t9_1) fun t10_1 =>
  condM t10_1
  (K (.tuple #[(Value.slice none 0 0), (Value.bool false)]) h_3)
  (rop P (Instr.loadAt 26 g2_1) h_3 fun t11_1 =>
  callM P 89 #[t11_1, sink1_1] h_3 fun t13_1 h_4 =>
  K (.tuple #[t13_1, (Value.bool true)]) h_4)
theorem e42 (g0_1 : Value) (sink1_1 : Value) (h : Heap) (K : Value → Heap → Prop) : wpA Try.prog 14 (anOf []) (bodyOf Try.f42) 1 (fun A h => resA Try.prog A h K [.tmp 4, .tmp 5]) (fun _ _ _ => False) (fun A h => resA Try.prog A h K [.tmp 4, .tmp 5]) (aargs [g0_1, sink1_1] 0) h = t42 Try.prog g0_1 sink1_1 h K := by kernel_rfl
theorem c42 (g0_1 : Value) (sink1_1 : Value) (h : Heap) (K : Value → Heap → Prop) (H : t42 Try.prog g0_1 sink1_1 h K) : callM Try.prog 42 #[g0_1, sink1_1] h K :=
  callM_of_wpA mixed (fn := Try.f42) Try.func42 (c := bodyOf Try.f42) rfl (of_decide_eq_true (by kernel_rfl)) (anOf []) 12 14 (by kernel_rfl) rfl [.tmp 4, .tmp 5] (by kernel_rfl) (args := [g0_1, sink1_1]) (by rw [e42]; exact H)

/-! spec.LaplaceOf -/
def t43 (P : Program) (g0_1 : Value) (sink1_1 : Value) (h : Heap) (K : Value → Heap → Prop) : Prop :=
  eop P (Instr.box 26 g0_1) h fun g2_1 h_1 =>
  rop P (Instr.loadAt 26 g2_1) h_1 fun t6_1 =>
  callM P 72 #[t6_1, sink1_1] h_1 fun t8_1 h_2 =>
  pop P (Op.unary .not t8_1) fun t9_1 =>
  condM t9_1
  (K (.tuple #[(Value.slice none 0 0), (Value.bool false)]) h_2)
  (rop P (Instr.loadAt 26 g2_1) h_2 fun t10_1 =>
  callM P 92 #[t10_1, sink1_1] h_2 fun t12_1 h_3 =>
  K (.tuple #[t12_1, (Value.bool true)]) h_3)
theorem e43 (g0_1 : Value) (sink1_1 : Value) (h : Heap) (K : Value → Heap → Prop) : wpA Try.prog 13 (anOf []) (bodyOf Try.f43) 1 (fun A h => resA Try.prog A h K [.tmp 4, .tmp 5]) (fun _ _ _ => False) (fun A h => resA Try.prog A h K [.tmp 4, .tmp 5]) (aargs [g0_1, sink1_1] 0) h = t43 Try.prog g0_1 sink1_1 h K := by kernel_rfl
theorem c43 (g0_1 : Value) (sink1_1 : Value) (h : Heap) (K : Value → Heap → Prop) (H : t43 Try.prog g0_1 sink1_1 h K) : callM Try.prog 43 #[g0_1, sink1_1] h K :=
  callM_of_wpA mixed (fn := Try.f43) Try.func43 (c := bodyOf Try.f43) rfl (of_decide_eq_true (by kernel_rfl)) (anOf []) 11 13 (by kernel_rfl) rfl [.tmp 4, .tmp 5] (by kernel_rfl) (args := [g0_1, sink1_1]) (by rw [e43]; exact H)

/-! impl.FirstTree -/
def t44 (P : Program) (g0_1 : Value) (sink1_1 : Value) (h : Heap) (K : Value → Heap → Prop) : Prop :=
  eop P (Instr.box 26 g0_1) h fun g2_1 h_1 =>
  rop P (Instr.loadAt 26 g2_1) h_1 fun t6_1 =>
  callM P 94 #[t6_1, sink1_1] h_1 fun t8_1 h_2 =>
  pop P (Op.unary .not t8_1) fun t9_1 =>
  condM t9_1
  (K (.tuple #[(Value.slice none 0 0), (Value.bool false)]) h_2)
  (rop P (Instr.loadAt 26 g2_1) h_2 fun t10_1 =>
  callM P 90 #[t10_1, sink1_1, (Value.int IntKind.i64 1)] h_2 fun t12_1 h_3 =>
  pop P (Instr.indexAt 24 t12_1 (Value.int IntKind.i64 0)) fun t13_1 =>
  rop P (Instr.loadAt 37 t13_1) h_3 fun t14_1 =>
  K (.tuple #[t14_1, (Value.bool true)]) h_3)
theorem e44 (g0_1 : Value) (sink1_1 : Value) (h : Heap) (K : Value → Heap → Prop) : wpA Try.prog 15 (anOf []) (bodyOf Try.f44) 1 (fun A h => resA Try.prog A h K [.tmp 4, .tmp 5]) (fun _ _ _ => False) (fun A h => resA Try.prog A h K [.tmp 4, .tmp 5]) (aargs [g0_1, sink1_1] 0) h = t44 Try.prog g0_1 sink1_1 h K := by kernel_rfl
theorem c44 (g0_1 : Value) (sink1_1 : Value) (h : Heap) (K : Value → Heap → Prop) (H : t44 Try.prog g0_1 sink1_1 h K) : callM Try.prog 44 #[g0_1, sink1_1] h K :=
  callM_of_wpA mixed (fn := Try.f44) Try.func44 (c := bodyOf Try.f44) rfl (of_decide_eq_true (by kernel_rfl)) (anOf []) 13 15 (by kernel_rfl) rfl [.tmp 4, .tmp 5] (by kernel_rfl) (args := [g0_1, sink1_1]) (by rw [e44]; exact H)

/-! spec.FirstTree -/
def t45 (P : Program) (g0_1 : Value) (sink1_1 : Value) (h : Heap) (K : Value → Heap → Prop) : Prop :=
  eop P (Instr.box 26 g0_1) h fun g2_1 h_1 =>
  rop P (Instr.loadAt 26 g2_1) h_1 fun t6_1 =>
  callM P 72 #[t6_1, sink1_1] h_1 fun t8_1 h_2 =>
  pop P (Op.unary .not t8_1) fun t9_1 =>
  guardM (asG t9_1 false) false (fun k_1 => rop P (Instr.loadAt 26 g2_1) h_2 fun t11_1 =>
  k_1 t11_1 h_2) h_2 fun t11_2 h_3 =>
  guardM (asG t9_1 false) false (fun k_2 => k_2 sink1_1 h_3) h_3 fun t12_1 h_4 =>
  guardM (asG t9_1 false) false (fun k_3 => callM P 95 #[t11_2, t12_1] h_4 fun t13_1 h_5 =>
  k_3 t13_1 h_5) h_4 fun t13_2 h_6 =>
  guardM (asG t9_1 false) false (fun k_4 => pop P (Op.unary .not t13_2) fun t14_1 =>
  k_4 t14_1 h_6) h_6 fun t14_2 h_7 =>
  pop P (pickS t9_1 (Value.bool true) t14_2) fun t15_1 =>
  condM t15_1
  (K (.tuple #[(Value.slice none 0 0), (Value.bool false)]) h_7)
  (rop P (Instr.loadAt 26 g2_1) h_7 fun t16_1 =>
  callM P 93 #[t16_1, sink1_1, (Value.int IntKind.i64 0)] h_7 fun t18_1 h_8 =>
  pop P (Instr.indexAt 24 t18_1 (Value.int IntKind.i64 0)) fun t19_1 =>
  rop P (Instr.loadAt 37 t19_1) h_8 fun t20_1 =>
  K (.tuple #[t20_1, (Value.bool true)]) h_8)
theorem e45 (g0_1 : Value) (sink1_1 : Value) (h : Heap) (K : Value → Heap → Prop) : wpA Try.prog 21 (anOf []) (bodyOf Try.f45) 1 (fun A h => resA Try.prog A h K [.tmp 4, .tmp 5]) (fun _ _ _ => False) (fun A h => resA Try.prog A h K [.tmp 4, .tmp 5]) (aargs [g0_1, sink1_1] 0) h = t45 Try.prog g0_1 sink1_1 h K := by kernel_rfl
theorem c45 (g0_1 : Value) (sink1_1 : Value) (h : Heap) (K : Value → Heap → Prop) (H : t45 Try.prog g0_1 sink1_1 h K) : callM Try.prog 45 #[g0_1, sink1_1] h K :=
  callM_of_wpA mixed (fn := Try.f45) Try.func45 (c := bodyOf Try.f45) rfl (of_decide_eq_true (by kernel_rfl)) (anOf []) 19 21 (by kernel_rfl) rfl [.tmp 4, .tmp 5] (by kernel_rfl) (args := [g0_1, sink1_1]) (by rw [e45]; exact H)

/-! laws.wRows -/
def t46 (P : Program) (a0_1 : Value) (b1_1 : Value) (h : Heap) (K : Value → Heap → Prop) : Prop :=
  pop P (lenS 24 3 a0_1) fun t7_1 =>
  pop P (lenS 24 3 b1_1) fun t9_1 =>
  pop P (binE .neq 3 (.tmp 7) (.tmp 9) t7_1 t9_1) fun t10_1 =>
  condM t10_1
  (K (Value.bool false) h)
  (pop P (lenS 24 3 a0_1) fun t12_1 =>
  ∃ (I_1 : List Value → Heap → Prop) (μ_1 : List Value → Heap → Nat), I_1 [(Value.int IntKind.i64 0)] h ∧
  ∀ (junk_1 : Nat → Value) (t13_1 : Value) (h_1 : Heap), I_1 [t13_1] h_1 →
  pop P (binA .lss 3 t13_1 t12_1) fun t14_1 =>
  condM t14_1
  (pop P (Instr.indexAt 24 a0_1 t13_1) fun t18_1 =>
  rop P (Instr.loadAt 37 t18_1) h_1 fun t19_1 =>
  pop P (Instr.indexAt 24 b1_1 t13_1) fun t22_1 =>
  rop P (Instr.loadAt 37 t22_1) h_1 fun t23_1 =>
  callM P 32 #[t19_1, t23_1] h_1 fun t24_1 h_2 =>
  pop P (Op.unary .not t24_1) fun t25_1 =>
  condM t25_1
  (K (Value.bool false) h_2)
  (pop P (binA .add 3 t13_1 (Value.int IntKind.i64 1)) fun t26_1 =>
  I_1 [t26_1] h_2 ∧ μ_1 [t26_1] h_2 < μ_1 [t13_1] h_1))
  (K (Value.bool true) h_1))
theorem e46 (a0_1 : Value) (b1_1 : Value) (h : Heap) (K : Value → Heap → Prop) : wpA Try.prog 27 (anOf [(58, [13])]) (bodyOf Try.f46) 1 (fun A h => resA Try.prog A h K [.tmp 4]) (fun _ _ _ => False) (fun A h => resA Try.prog A h K [.tmp 4]) (aargs [a0_1, b1_1] 0) h = t46 Try.prog a0_1 b1_1 h K := by kernel_rfl
theorem c46 (a0_1 : Value) (b1_1 : Value) (h : Heap) (K : Value → Heap → Prop) (H : t46 Try.prog a0_1 b1_1 h K) : callM Try.prog 46 #[a0_1, b1_1] h K :=
  callM_of_wpA mixed (fn := Try.f46) Try.func46 (c := bodyOf Try.f46) rfl (of_decide_eq_true (by kernel_rfl)) (anOf [(58, [13])]) 25 27 (by kernel_rfl) rfl [.tmp 4] (by kernel_rfl) (args := [a0_1, b1_1]) (by rw [e46]; exact H)

/-! impl.DeterminantOf -/
def t47 (P : Program) (m0_1 : Value) (h : Heap) (K : Value → Heap → Prop) : Prop :=
  pop P (lenS 24 3 m0_1) fun t7_1 =>
  pop P (binA .gtr 3 t7_1 (Value.int IntKind.i64 7)) fun t8_1 =>
  condM t8_1
  (K (.tuple #[(Value.int IntKind.i64 0), (Value.bool false)]) h)
  (pop P (lenS 24 3 m0_1) fun t10_1 =>
  ∃ (I_1 : List Value → Heap → Prop) (μ_1 : List Value → Heap → Nat), I_1 [(Value.int IntKind.i64 0)] h ∧
  ∀ (junk_1 : Nat → Value) (t11_1 : Value) (h_1 : Heap), I_1 [t11_1] h_1 →
  pop P (binA .lss 3 t11_1 t10_1) fun t12_1 =>
  condM t12_1
  (pop P (Instr.indexAt 24 m0_1 t11_1) fun t13_1 =>
  rop P (Instr.loadAt 37 t13_1) h_1 fun t14_1 =>
  pop P (lenS 37 3 t14_1) fun t16_1 =>
  pop P (lenS 24 3 m0_1) fun t18_1 =>
  pop P (binE .neq 3 (.tmp 16) (.tmp 18) t16_1 t18_1) fun t19_1 =>
  guardM (asG t19_1 false) false (fun k_1 => k_1 t14_1 h_1) h_1 fun t21_1 h_2 =>
  guardM (asG t19_1 false) false (fun k_2 => callM P 96 #[t21_1, (.func (.func 97) #[] #[])] h_2 fun t22_1 h_3 =>
  k_2 t22_1 h_3) h_2 fun t22_2 h_4 =>
  pop P (pickS t19_1 (Value.bool true) t22_2) fun t23_1 =>
  condM t23_1
  (K (.tuple #[(Value.int IntKind.i64 0), (Value.bool false)]) h_4)
  (pop P (binA .add 3 t11_1 (Value.int IntKind.i64 1)) fun t24_1 =>
  I_1 [t24_1] h_4 ∧ μ_1 [t24_1] h_4 < μ_1 [t11_1] h_1))
  (callM P 88 #[m0_1] h_1 fun t26_1 h_5 =>
  K (.tuple #[t26_1, (Value.bool true)]) h_5))
theorem e47 (m0_1 : Value) (h : Heap) (K : Value → Heap → Prop) : wpA Try.prog 27 (anOf [(58, [11])]) (bodyOf Try.f47) 1 (fun A h => resA Try.prog A h K [.tmp 2, .tmp 3]) (fun _ _ _ => False) (fun A h => resA Try.prog A h K [.tmp 2, .tmp 3]) (aargs [m0_1] 0) h = t47 Try.prog m0_1 h K := by kernel_rfl
theorem c47 (m0_1 : Value) (h : Heap) (K : Value → Heap → Prop) (H : t47 Try.prog m0_1 h K) : callM Try.prog 47 #[m0_1] h K :=
  callM_of_wpA mixed (fn := Try.f47) Try.func47 (c := bodyOf Try.f47) rfl (of_decide_eq_true (by kernel_rfl)) (anOf [(58, [11])]) 26 27 (by kernel_rfl) rfl [.tmp 2, .tmp 3] (by kernel_rfl) (args := [m0_1]) (by rw [e47]; exact H)

/-! impl.LeadsTo -/
def t48 (P : Program) (g0_1 : Value) (p1_1 : Value) (h : Heap) (K : Value → Heap → Prop) : Prop :=
  eop P (Instr.box 26 g0_1) h fun g2_1 h_1 =>
  rop P (Instr.loadAt 26 g2_1) h_1 fun t6_1 =>
  eop P (Instr.buildSlice 37 1 #[(0, p1_1)]) h_1 fun t8_1 h_2 =>
  callM P 63 #[t6_1, t8_1] h_2 fun t9_1 h_3 =>
  pop P (Op.unary .not t9_1) fun t10_1 =>
  condM t10_1
  (K (.tuple #[(Value.bool false), (Value.bool false)]) h_3)
  (rop P (Instr.loadAt 26 g2_1) h_3 fun t11_1 =>
  callM P 98 #[t11_1, p1_1] h_3 fun t13_1 h_4 =>
  K (.tuple #[t13_1, (Value.bool true)]) h_4)
theorem e48 (g0_1 : Value) (p1_1 : Value) (h : Heap) (K : Value → Heap → Prop) : wpA Try.prog 14 (anOf []) (bodyOf Try.f48) 1 (fun A h => resA Try.prog A h K [.tmp 4, .tmp 5]) (fun _ _ _ => False) (fun A h => resA Try.prog A h K [.tmp 4, .tmp 5]) (aargs [g0_1, p1_1] 0) h = t48 Try.prog g0_1 p1_1 h K := by kernel_rfl
theorem c48 (g0_1 : Value) (p1_1 : Value) (h : Heap) (K : Value → Heap → Prop) (H : t48 Try.prog g0_1 p1_1 h K) : callM Try.prog 48 #[g0_1, p1_1] h K :=
  callM_of_wpA mixed (fn := Try.f48) Try.func48 (c := bodyOf Try.f48) rfl (of_decide_eq_true (by kernel_rfl)) (anOf []) 12 14 (by kernel_rfl) rfl [.tmp 4, .tmp 5] (by kernel_rfl) (args := [g0_1, p1_1]) (by rw [e48]; exact H)

/-! impl.IsTree -/
def t49 (P : Program) (g0_1 : Value) (sink1_1 : Value) (rotors2_1 : Value) (h : Heap) (K : Value → Heap → Prop) : Prop :=
  eop P (Instr.box 26 g0_1) h fun g3_1 h_1 =>
  rop P (Instr.loadAt 26 g3_1) h_1 fun t8_1 =>
  callM P 99 #[t8_1, sink1_1, rotors2_1] h_1 fun t11_1 h_2 =>
  pop P (Op.unary .not t11_1) fun t12_1 =>
  condM t12_1
  (K (.tuple #[(Value.bool false), (Value.bool false)]) h_2)
  (rop P (Instr.loadAt 26 g3_1) h_2 fun t13_1 =>
  callM P 100 #[t13_1, sink1_1, rotors2_1] h_2 fun t16_1 h_3 =>
  K (.tuple #[t16_1, (Value.bool true)]) h_3)
theorem e49 (g0_1 : Value) (sink1_1 : Value) (rotors2_1 : Value) (h : Heap) (K : Value → Heap → Prop) : wpA Try.prog 17 (anOf []) (bodyOf Try.f49) 1 (fun A h => resA Try.prog A h K [.tmp 6, .tmp 7]) (fun _ _ _ => False) (fun A h => resA Try.prog A h K [.tmp 6, .tmp 7]) (aargs [g0_1, sink1_1, rotors2_1] 0) h = t49 Try.prog g0_1 sink1_1 rotors2_1 h K := by kernel_rfl
theorem c49 (g0_1 : Value) (sink1_1 : Value) (rotors2_1 : Value) (h : Heap) (K : Value → Heap → Prop) (H : t49 Try.prog g0_1 sink1_1 rotors2_1 h K) : callM Try.prog 49 #[g0_1, sink1_1, rotors2_1] h K :=
  callM_of_wpA mixed (fn := Try.f49) Try.func49 (c := bodyOf Try.f49) rfl (of_decide_eq_true (by kernel_rfl)) (anOf []) 14 17 (by kernel_rfl) rfl [.tmp 6, .tmp 7] (by kernel_rfl) (args := [g0_1, sink1_1, rotors2_1]) (by rw [e49]; exact H)

/-! laws.wLess -/
def t50 (P : Program) (a0_1 : Value) (b1_1 : Value) (h : Heap) (K : Value → Heap → Prop) : Prop :=
  pop P (lenS 37 3 a0_1) fun t7_1 =>
  ∃ (I_1 : List Value → Heap → Prop) (μ_1 : List Value → Heap → Nat), I_1 [(Value.int IntKind.i64 0)] h ∧
  ∀ (junk_1 : Nat → Value) (t8_1 : Value) (h_1 : Heap), I_1 [t8_1] h_1 →
  pop P (binA .lss 3 t8_1 t7_1) fun t9_1 =>
  condM t9_1
  (pop P (Instr.indexAt 37 a0_1 t8_1) fun t13_1 =>
  rop P (Instr.loadAt 3 t13_1) h_1 fun t14_1 =>
  pop P (Instr.indexAt 37 b1_1 t8_1) fun t17_1 =>
  rop P (Instr.loadAt 3 t17_1) h_1 fun t18_1 =>
  pop P (binE .neq 3 (.tmp 14) (.tmp 18) t14_1 t18_1) fun t19_1 =>
  condM t19_1
  (pop P (Instr.indexAt 37 a0_1 t8_1) fun t22_1 =>
  rop P (Instr.loadAt 3 t22_1) h_1 fun t23_1 =>
  pop P (Instr.indexAt 37 b1_1 t8_1) fun t26_1 =>
  rop P (Instr.loadAt 3 t26_1) h_1 fun t27_1 =>
  pop P (binA .lss 3 t23_1 t27_1) fun t28_1 =>
  K t28_1 h_1)
  (pop P (binA .add 3 t8_1 (Value.int IntKind.i64 1)) fun t29_1 =>
  I_1 [t29_1] h_1 ∧ μ_1 [t29_1] h_1 < μ_1 [t8_1] h_1))
  (K (Value.bool false) h_1)
theorem e50 (a0_1 : Value) (b1_1 : Value) (h : Heap) (K : Value → Heap → Prop) : wpA Try.prog 30 (anOf [(26, [8])]) (bodyOf Try.f50) 1 (fun A h => resA Try.prog A h K [.tmp 4]) (fun _ _ _ => False) (fun A h => resA Try.prog A h K [.tmp 4]) (aargs [a0_1, b1_1] 0) h = t50 Try.prog a0_1 b1_1 h K := by kernel_rfl
theorem c50 (a0_1 : Value) (b1_1 : Value) (h : Heap) (K : Value → Heap → Prop) (H : t50 Try.prog a0_1 b1_1 h K) : callM Try.prog 50 #[a0_1, b1_1] h K :=
  callM_of_wpA mixed (fn := Try.f50) Try.func50 (c := bodyOf Try.f50) rfl (of_decide_eq_true (by kernel_rfl)) (anOf [(26, [8])]) 28 30 (by kernel_rfl) rfl [.tmp 4] (by kernel_rfl) (args := [a0_1, b1_1]) (by rw [e50]; exact H)

/-! spec.DrawIsTree -/
def t51 (P : Program) (code0_1 : Value) (h : Heap) (K : Value → Heap → Prop) : Prop :=
  eop P (Instr.alloc 26 true (.tuple #[])) h fun t2_1 h_1 =>
  pop P (Instr.build 69 #[(0, code0_1)]) fun t7_1 =>
  eop P (Instr.box 69 t7_1) h_1 fun t8_1 h_2 =>
  callM P 101 #[t8_1] h_2 fun t10_1 h_3 =>
  pop P (Instr.extract t10_1 0) fun t11_1 =>
  pop P (Instr.extract t10_1 1) fun t12_1 =>
  pop P (Instr.extract t10_1 2) fun t13_1 =>
  uop P (Instr.storeAt 26 t2_1 t11_1) h_3 fun u_1 h_4 =>
  rop P (Instr.loadAt 26 t2_1) h_4 fun r_1 =>
  K (.tuple #[r_1, t12_1, t13_1]) h_4
theorem e51 (code0_1 : Value) (h : Heap) (K : Value → Heap → Prop) : wpA Try.prog 14 (anOf []) (bodyOf Try.f51) 1 (fun A h => resA Try.prog A h K [.cell 2 26, .tmp 3, .tmp 4]) (fun _ _ _ => False) (fun A h => resA Try.prog A h K [.cell 2 26, .tmp 3, .tmp 4]) (aargs [code0_1] 0) h = t51 Try.prog code0_1 h K := by kernel_rfl
theorem c51 (code0_1 : Value) (h : Heap) (K : Value → Heap → Prop) (H : t51 Try.prog code0_1 h K) : callM Try.prog 51 #[code0_1] h K :=
  callM_of_wpA mixed (fn := Try.f51) Try.func51 (c := bodyOf Try.f51) rfl (of_decide_eq_true (by kernel_rfl)) (anOf []) 13 14 (by kernel_rfl) rfl [.cell 2 26, .tmp 3, .tmp 4] (by kernel_rfl) (args := [code0_1]) (by rw [e51]; exact H)

/-! spec.IsTree -/
def t52 (P : Program) (g0_1 : Value) (sink1_1 : Value) (rotors2_1 : Value) (h : Heap) (K : Value → Heap → Prop) : Prop :=
  eop P (Instr.box 26 g0_1) h fun g3_1 h_1 =>
  rop P (Instr.loadAt 26 g3_1) h_1 fun t8_1 =>
  callM P 102 #[t8_1, sink1_1, rotors2_1] h_1 fun t11_1 h_2 =>
  pop P (Op.unary .not t11_1) fun t12_1 =>
  condM t12_1
  (K (.tuple #[(Value.bool false), (Value.bool false)]) h_2)
  (rop P (Instr.loadAt 26 g3_1) h_2 fun t13_1 =>
  callM P 103 #[t13_1, sink1_1, rotors2_1] h_2 fun t16_1 h_3 =>
  K (.tuple #[t16_1, (Value.bool true)]) h_3)
theorem e52 (g0_1 : Value) (sink1_1 : Value) (rotors2_1 : Value) (h : Heap) (K : Value → Heap → Prop) : wpA Try.prog 17 (anOf []) (bodyOf Try.f52) 1 (fun A h => resA Try.prog A h K [.tmp 6, .tmp 7]) (fun _ _ _ => False) (fun A h => resA Try.prog A h K [.tmp 6, .tmp 7]) (aargs [g0_1, sink1_1, rotors2_1] 0) h = t52 Try.prog g0_1 sink1_1 rotors2_1 h K := by kernel_rfl
theorem c52 (g0_1 : Value) (sink1_1 : Value) (rotors2_1 : Value) (h : Heap) (K : Value → Heap → Prop) (H : t52 Try.prog g0_1 sink1_1 rotors2_1 h K) : callM Try.prog 52 #[g0_1, sink1_1, rotors2_1] h K :=
  callM_of_wpA mixed (fn := Try.f52) Try.func52 (c := bodyOf Try.f52) rfl (of_decide_eq_true (by kernel_rfl)) (anOf []) 14 17 (by kernel_rfl) rfl [.tmp 6, .tmp 7] (by kernel_rfl) (args := [g0_1, sink1_1, rotors2_1]) (by rw [e52]; exact H)

/-! impl.TreeWays -/
def t53 (P : Program) (g0_1 : Value) (sink1_1 : Value) (rotors2_1 : Value) (h : Heap) (K : Value → Heap → Prop) : Prop :=
  eop P (Instr.box 26 g0_1) h fun g3_1 h_1 =>
  rop P (Instr.loadAt 26 g3_1) h_1 fun t8_1 =>
  callM P 99 #[t8_1, sink1_1, rotors2_1] h_1 fun t11_1 h_2 =>
  pop P (Op.unary .not t11_1) fun t12_1 =>
  condM t12_1
  (K (.tuple #[(Value.slice none 0 0), (Value.bool false)]) h_2)
  (rop P (Instr.loadAt 26 g3_1) h_2 fun t13_1 =>
  callM P 104 #[t13_1, sink1_1, rotors2_1] h_2 fun t16_1 h_3 =>
  pop P (Instr.extract t16_1 0) fun t17_1 =>
  pop P (Instr.extract t16_1 1) fun t18_1 =>
  K (.tuple #[t17_1, t18_1]) h_3)
theorem e53 (g0_1 : Value) (sink1_1 : Value) (rotors2_1 : Value) (h : Heap) (K : Value → Heap → Prop) : wpA Try.prog 19 (anOf []) (bodyOf Try.f53) 1 (fun A h => resA Try.prog A h K [.tmp 6, .tmp 7]) (fun _ _ _ => False) (fun A h => resA Try.prog A h K [.tmp 6, .tmp 7]) (aargs [g0_1, sink1_1, rotors2_1] 0) h = t53 Try.prog g0_1 sink1_1 rotors2_1 h K := by kernel_rfl
theorem c53 (g0_1 : Value) (sink1_1 : Value) (rotors2_1 : Value) (h : Heap) (K : Value → Heap → Prop) (H : t53 Try.prog g0_1 sink1_1 rotors2_1 h K) : callM Try.prog 53 #[g0_1, sink1_1, rotors2_1] h K :=
  callM_of_wpA mixed (fn := Try.f53) Try.func53 (c := bodyOf Try.f53) rfl (of_decide_eq_true (by kernel_rfl)) (anOf []) 16 19 (by kernel_rfl) rfl [.tmp 6, .tmp 7] (by kernel_rfl) (args := [g0_1, sink1_1, rotors2_1]) (by rw [e53]; exact H)

/-! spec.TreeWays -/
def t54 (P : Program) (g0_1 : Value) (sink1_1 : Value) (rotors2_1 : Value) (h : Heap) (K : Value → Heap → Prop) : Prop :=
  eop P (Instr.box 26 g0_1) h fun g3_1 h_1 =>
  rop P (Instr.loadAt 26 g3_1) h_1 fun t10_1 =>
  callM P 102 #[t10_1, sink1_1, rotors2_1] h_1 fun t13_1 h_2 =>
  pop P (Op.unary .not t13_1) fun t14_1 =>
  guardM (asG t14_1 false) false (fun k_1 => rop P (Instr.loadAt 26 g3_1) h_2 fun t16_1 =>
  k_1 t16_1 h_2) h_2 fun t16_2 h_3 =>
  guardM (asG t14_1 false) false (fun k_2 => k_2 sink1_1 h_3) h_3 fun t17_1 h_4 =>
  guardM (asG t14_1 false) false (fun k_3 => k_3 rotors2_1 h_4) h_4 fun t18_1 h_5 =>
  guardM (asG t14_1 false) false (fun k_4 => callM P 103 #[t16_2, t17_1, t18_1] h_5 fun t19_1 h_6 =>
  k_4 t19_1 h_6) h_5 fun t19_2 h_7 =>
  guardM (asG t14_1 false) false (fun k_5 => pop P (Op.unary .not t19_2) fun t20_1 =>
  k_5 t20_1 h_7) h_7 fun t20_2 h_8 =>
  pop P (pickS t14_1 (Value.bool true) t20_2) fun t21_1 =>
  condM t21_1
  (K (.tuple #[(Value.slice none 0 0), (Value.bool false)]) h_8)
  (pop P (Instr.fieldAt 26 g3_1 0) fun t22_1 =>
  rop P (Instr.loadAt 24 t22_1) h_8 fun t23_1 =>
  pop P (lenS 24 3 t23_1) fun t24_1 =>
  ∃ (I_1 : List Value → Heap → Prop) (μ_1 : List Value → Heap → Nat), I_1 [(Value.slice none 0 0), (Value.int IntKind.i64 0)] h_8 ∧
  ∀ (junk_1 : Nat → Value) (out8_1 : Value) (t25_1 : Value) (h_9 : Heap), I_1 [out8_1, t25_1] h_9 →
  pop P (binA .lss 3 t25_1 t24_1) fun t26_1 =>
  condM t26_1
  (rop P (Instr.loadAt 26 g3_1) h_9 fun t29_1 =>
  callM P 105 #[t29_1, sink1_1, rotors2_1, t25_1] h_9 fun t33_1 h_10 =>
  eop P (Instr.buildSlice 37 1 #[(0, t33_1)]) h_10 fun t34_1 h_11 =>
  eop P (appS 37 37 37 out8_1 t34_1) h_11 fun t35_1 h_12 =>
  pop P (binA .add 3 t25_1 (Value.int IntKind.i64 1)) fun t36_1 =>
  I_1 [t35_1, t36_1] h_12 ∧ μ_1 [t35_1, t36_1] h_12 < μ_1 [out8_1, t25_1] h_9)
  (K (.tuple #[out8_1, (Value.bool true)]) h_9))
theorem e54 (g0_1 : Value) (sink1_1 : Value) (rotors2_1 : Value) (h : Heap) (K : Value → Heap → Prop) : wpA Try.prog 38 (anOf [(122, [8, 25])]) (bodyOf Try.f54) 1 (fun A h => resA Try.prog A h K [.tmp 6, .tmp 7]) (fun _ _ _ => False) (fun A h => resA Try.prog A h K [.tmp 6, .tmp 7]) (aargs [g0_1, sink1_1, rotors2_1] 0) h = t54 Try.prog g0_1 sink1_1 rotors2_1 h K := by kernel_rfl
theorem c54 (g0_1 : Value) (sink1_1 : Value) (rotors2_1 : Value) (h : Heap) (K : Value → Heap → Prop) (H : t54 Try.prog g0_1 sink1_1 rotors2_1 h K) : callM Try.prog 54 #[g0_1, sink1_1, rotors2_1] h K :=
  callM_of_wpA mixed (fn := Try.f54) Try.func54 (c := bodyOf Try.f54) rfl (of_decide_eq_true (by kernel_rfl)) (anOf [(122, [8, 25])]) 35 38 (by kernel_rfl) rfl [.tmp 6, .tmp 7] (by kernel_rfl) (args := [g0_1, sink1_1, rotors2_1]) (by rw [e54]; exact H)

/-! spec.DrawDeterminantOf -/
def t55 (P : Program) (code0_1 : Value) (h : Heap) (K : Value → Heap → Prop) : Prop :=
  pop P (Instr.build 69 #[(0, code0_1)]) fun t11_1 =>
  eop P (Instr.box 69 t11_1) h fun t12_1 h_1 =>
  callM P 70 #[t12_1, (Value.int IntKind.i64 5)] h_1 fun t14_1 h_2 =>
  ∃ J_1 : List Value → Heap → Prop, (callM P 106 #[t12_1, (Value.int IntKind.i64 8)] h_2 fun t16_1 h_3 =>
  condM t16_1
  (callM P 70 #[t12_1, (Value.int IntKind.i64 2)] h_3 fun t18_1 h_4 =>
  pop P (binA .add 3 (Value.int IntKind.i64 7) t18_1) fun t19_1 =>
  J_1 [t19_1] h_4)
  (J_1 [t14_1] h_3)) ∧
  ∀ (junk_1 : Nat → Value) (n4_1 : Value) (h_5 : Heap), J_1 [n4_1] h_5 →
  eop P (Instr.makeSlice 24 n4_1 n4_1) h_5 fun t21_1 h_6 =>
  pop P (lenS 24 3 t21_1) fun t23_1 =>
  ∃ (I_1 : List Value → Heap → Prop) (μ_1 : List Value → Heap → Nat), I_1 [(Value.int IntKind.i64 0)] h_6 ∧
  ∀ (junk_2 : Nat → Value) (t24_1 : Value) (h_7 : Heap), I_1 [t24_1] h_7 →
  pop P (binA .lss 3 t24_1 t23_1) fun t25_1 =>
  condM t25_1
  (eop P (Instr.makeSlice 37 n4_1 n4_1) h_7 fun t30_1 h_8 =>
  pop P (Instr.indexAt 24 t21_1 t24_1) fun t31_1 =>
  uop P (Instr.storeAt 37 t31_1 t30_1) h_8 fun u_1 h_9 =>
  pop P (Instr.indexAt 24 t21_1 t24_1) fun t34_1 =>
  rop P (Instr.loadAt 37 t34_1) h_9 fun t35_1 =>
  pop P (lenS 37 3 t35_1) fun t36_1 =>
  ∃ (I_2 : List Value → Heap → Prop) (μ_2 : List Value → Heap → Nat), I_2 [(Value.int IntKind.i64 0)] h_9 ∧
  ∀ (junk_3 : Nat → Value) (t37_1 : Value) (h_10 : Heap), I_2 [t37_1] h_10 →
  pop P (binA .lss 3 t37_1 t36_1) fun t38_1 =>
  condM t38_1
  (pop P (Instr.indexAt 24 t21_1 t24_1) fun t42_1 =>
  rop P (Instr.loadAt 37 t42_1) h_10 fun t43_1 =>
  callM P 70 #[t12_1, (Value.int IntKind.i64 9)] h_10 fun t47_1 h_11 =>
  pop P (binA .sub 3 t47_1 (Value.int IntKind.i64 4)) fun t48_1 =>
  pop P (Instr.indexAt 37 t43_1 t37_1) fun t49_1 =>
  uop P (Instr.storeAt 3 t49_1 t48_1) h_11 fun u_2 h_12 =>
  pop P (binA .add 3 t37_1 (Value.int IntKind.i64 1)) fun t50_1 =>
  I_2 [t50_1] h_12 ∧ μ_2 [t50_1] h_12 < μ_2 [t37_1] h_10)
  (pop P (binA .add 3 t24_1 (Value.int IntKind.i64 1)) fun t51_1 =>
  I_1 [t51_1] h_10 ∧ μ_1 [t51_1] h_10 < μ_1 [t24_1] h_7))
  (∃ J_2 : List Value → Heap → Prop, (pop P (binA .gtr 3 n4_1 (Value.int IntKind.i64 0)) fun t53_1 =>
  guardM (asG t53_1 true) true (fun k_1 => k_1 t12_1 h_7) h_7 fun t55_1 h_13 =>
  guardM (asG t53_1 true) true (fun k_2 => callM P 106 #[t55_1, (Value.int IntKind.i64 8)] h_13 fun t56_1 h_14 =>
  k_2 t56_1 h_14) h_13 fun t56_2 h_15 =>
  pop P (pickS t53_1 t56_2 (Value.bool false)) fun t57_1 =>
  condM t57_1
  (pop P (Instr.indexAt 24 t21_1 (Value.int IntKind.i64 0)) fun t59_1 =>
  rop P (Instr.loadAt 37 t59_1) h_15 fun t60_1 =>
  eop P (Instr.buildSlice 37 5 #[(0, (Value.int IntKind.i64 10)), (1, (Value.int IntKind.i64 11)), (2, (Value.int IntKind.i64 (-10))), (3, (Value.int IntKind.i64 (-11))), (4, (Value.int IntKind.i64 4611686018427387904))]) h_15 fun t63_1 h_16 =>
  callM P 107 #[t12_1, t63_1] h_16 fun t64_1 h_17 =>
  pop P (Instr.indexAt 37 t60_1 (Value.int IntKind.i64 0)) fun t65_1 =>
  uop P (Instr.storeAt 3 t65_1 t64_1) h_17 fun u_3 h_18 =>
  J_2 [] h_18)
  (J_2 [] h_15)) ∧
  ∀ (junk_4 : Nat → Value) (h_19 : Heap), J_2 [] h_19 →
  pop P (binA .gtr 3 n4_1 (Value.int IntKind.i64 1)) fun t67_1 =>
  guardM (asG t67_1 true) true (fun k_3 => k_3 t12_1 h_19) h_19 fun t69_1 h_20 =>
  guardM (asG t67_1 true) true (fun k_4 => callM P 106 #[t69_1, (Value.int IntKind.i64 12)] h_20 fun t70_1 h_21 =>
  k_4 t70_1 h_21) h_20 fun t70_2 h_22 =>
  pop P (pickS t67_1 t70_2 (Value.bool false)) fun t71_1 =>
  condM t71_1
  (pop P (Instr.indexAt 24 t21_1 (Value.int IntKind.i64 0)) fun t74_1 =>
  rop P (Instr.loadAt 37 t74_1) h_22 fun t75_1 =>
  pop P (Instr.sliceAt 37 t75_1 (some (Value.int IntKind.i64 1)) none none) fun t76_1 =>
  pop P (Instr.indexAt 24 t21_1 (Value.int IntKind.i64 0)) fun t77_1 =>
  uop P (Instr.storeAt 37 t77_1 t76_1) h_22 fun u_4 h_23 =>
  K t21_1 h_23)
  (K t21_1 h_22))
theorem e55 (code0_1 : Value) (h : Heap) (K : Value → Heap → Prop) : wpA Try.prog 79 (anOf [(15, [4]), (127, []), (506, [24]), (259278, [37])]) (bodyOf Try.f55) 1 (fun A h => resA Try.prog A h K [.tmp 2]) (fun _ _ _ => False) (fun A h => resA Try.prog A h K [.tmp 2]) (aargs [code0_1] 0) h = t55 Try.prog code0_1 h K := by kernel_rfl
theorem c55 (code0_1 : Value) (h : Heap) (K : Value → Heap → Prop) (H : t55 Try.prog code0_1 h K) : callM Try.prog 55 #[code0_1] h K :=
  callM_of_wpA mixed (fn := Try.f55) Try.func55 (c := bodyOf Try.f55) rfl (of_decide_eq_true (by kernel_rfl)) (anOf [(15, [4]), (127, []), (506, [24]), (259278, [37])]) 78 79 (by kernel_rfl) rfl [.tmp 2] (by kernel_rfl) (args := [code0_1]) (by rw [e55]; exact H)

/-! spec.DeterminantOf -/
def t56 (P : Program) (m0_1 : Value) (h : Heap) (K : Value → Heap → Prop) : Prop :=
  pop P (lenS 24 3 m0_1) fun t7_1 =>
  pop P (binA .gtr 3 t7_1 (Value.int IntKind.i64 7)) fun t8_1 =>
  condM t8_1
  (K (.tuple #[(Value.int IntKind.i64 0), (Value.bool false)]) h)
  (pop P (lenS 24 3 m0_1) fun t10_1 =>
  ∃ (I_1 : List Value → Heap → Prop) (μ_1 : List Value → Heap → Nat), I_1 [(Value.int IntKind.i64 0)] h ∧
  ∀ (junk_1 : Nat → Value) (t11_1 : Value) (h_1 : Heap), I_1 [t11_1] h_1 →
  pop P (binA .lss 3 t11_1 t10_1) fun t12_1 =>
  condM t12_1
  (pop P (Instr.indexAt 24 m0_1 t11_1) fun t13_1 =>
  rop P (Instr.loadAt 37 t13_1) h_1 fun t14_1 =>
  pop P (lenS 37 3 t14_1) fun t16_1 =>
  pop P (lenS 24 3 m0_1) fun t18_1 =>
  pop P (binE .neq 3 (.tmp 16) (.tmp 18) t16_1 t18_1) fun t19_1 =>
  guardM (asG t19_1 false) false (fun k_1 => k_1 t14_1 h_1) h_1 fun t21_1 h_2 =>
  guardM (asG t19_1 false) false (fun k_2 => callM P 108 #[t21_1, (Value.int IntKind.i64 (-10)), (Value.int IntKind.i64 10)] h_2 fun t22_1 h_3 =>
  k_2 t22_1 h_3) h_2 fun t22_2 h_4 =>
  guardM (asG t19_1 false) false (fun k_3 => pop P (Op.unary .not t22_2) fun t23_1 =>
  k_3 t23_1 h_4) h_4 fun t23_2 h_5 =>
  pop P (pickS t19_1 (Value.bool true) t23_2) fun t24_1 =>
  condM t24_1
  (K (.tuple #[(Value.int IntKind.i64 0), (Value.bool false)]) h_5)
  (pop P (binA .add 3 t11_1 (Value.int IntKind.i64 1)) fun t25_1 =>
  I_1 [t25_1] h_5 ∧ μ_1 [t25_1] h_5 < μ_1 [t11_1] h_1))
  (callM P 91 #[m0_1] h_1 fun t27_1 h_6 =>
  K (.tuple #[t27_1, (Value.bool true)]) h_6))
theorem e56 (m0_1 : Value) (h : Heap) (K : Value → Heap → Prop) : wpA Try.prog 28 (anOf [(58, [11])]) (bodyOf Try.f56) 1 (fun A h => resA Try.prog A h K [.tmp 2, .tmp 3]) (fun _ _ _ => False) (fun A h => resA Try.prog A h K [.tmp 2, .tmp 3]) (aargs [m0_1] 0) h = t56 Try.prog m0_1 h K := by kernel_rfl
theorem c56 (m0_1 : Value) (h : Heap) (K : Value → Heap → Prop) (H : t56 Try.prog m0_1 h K) : callM Try.prog 56 #[m0_1] h K :=
  callM_of_wpA mixed (fn := Try.f56) Try.func56 (c := bodyOf Try.f56) rfl (of_decide_eq_true (by kernel_rfl)) (anOf [(58, [11])]) 27 28 (by kernel_rfl) rfl [.tmp 2, .tmp 3] (by kernel_rfl) (args := [m0_1]) (by rw [e56]; exact H)

/-! impl.has -/
def t63 (P : Program) (g0_1 : Value) (places1_1 : Value) (h : Heap) (K : Value → Heap → Prop) : Prop :=
  eop P (Instr.box 26 g0_1) h fun g2_1 h_1 =>
  rop P (Instr.loadAt 26 g2_1) h_1 fun t5_1 =>
  callM P 113 #[t5_1] h_1 fun t6_1 h_2 =>
  guardM (asG t6_1 true) true (fun k_1 => k_1 places1_1 h_2) h_2 fun t8_1 h_3 =>
  guardM (asG t6_1 true) true (fun k_2 => pop P (Instr.makeFunc (Fn.func 114) #[] #[g2_1]) fun t9_1 =>
  k_2 t9_1 h_3) h_3 fun t9_2 h_4 =>
  guardM (asG t6_1 true) true (fun k_3 => callM P 96 #[t8_1, t9_2] h_4 fun t10_1 h_5 =>
  k_3 t10_1 h_5) h_4 fun t10_2 h_6 =>
  guardM (asG t6_1 true) true (fun k_4 => pop P (Op.unary .not t10_2) fun t11_1 =>
  k_4 t11_1 h_6) h_6 fun t11_2 h_7 =>
  pop P (pickS t6_1 t11_2 (Value.bool false)) fun t12_1 =>
  K t12_1 h_7
theorem e63 (g0_1 : Value) (places1_1 : Value) (h : Heap) (K : Value → Heap → Prop) : wpA Try.prog 13 (anOf []) (bodyOf Try.f63) 1 (fun A h => resA Try.prog A h K [.tmp 4]) (fun _ _ _ => False) (fun A h => resA Try.prog A h K [.tmp 4]) (aargs [g0_1, places1_1] 0) h = t63 Try.prog g0_1 places1_1 h K := by kernel_rfl
theorem c63 (g0_1 : Value) (places1_1 : Value) (h : Heap) (K : Value → Heap → Prop) (H : t63 Try.prog g0_1 places1_1 h K) : callM Try.prog 63 #[g0_1, places1_1] h K :=
  callM_of_wpA mixed (fn := Try.f63) Try.func63 (c := bodyOf Try.f63) rfl (of_decide_eq_true (by kernel_rfl)) (anOf []) 11 13 (by kernel_rfl) rfl [.tmp 4] (by kernel_rfl) (args := [g0_1, places1_1]) (by rw [e63]; exact H)

/-! (*spec.l1Cur).graph -/
def t68 (P : Program) (c0_1 : Value) (h : Heap) (K : Value → Heap → Prop) : Prop :=
  eop P (Instr.alloc 26 true (.tuple #[])) h fun t2_1 h_1 =>
  callM P 118 #[c0_1, (Value.int IntKind.i64 6)] h_1 fun t5_1 h_2 =>
  eop P (Instr.alloc 26 true (.tuple #[])) h_2 fun g3_1 h_3 =>
  uop P (Instr.storeAt 26 g3_1 t5_1) h_3 fun u_1 h_4 =>
  callM P 70 #[c0_1, (Value.int IntKind.i64 16)] h_4 fun t7_1 h_5 =>
  pop P (binE .eql 3 (.tmp 7) (.const (Value.int IntKind.i64 0)) t7_1 (Value.int IntKind.i64 0)) fun t9_1 =>
  condM t9_1
  (pop P (Instr.fieldAt 26 g3_1 0) fun t10_1 =>
  rop P (Instr.loadAt 24 t10_1) h_5 fun t11_1 =>
  pop P (Instr.fieldAt 26 g3_1 0) fun t12_1 =>
  rop P (Instr.loadAt 24 t12_1) h_5 fun t13_1 =>
  pop P (Instr.indexAt 24 t13_1 (Value.int IntKind.i64 0)) fun t14_1 =>
  rop P (Instr.loadAt 37 t14_1) h_5 fun t15_1 =>
  pop P (Instr.fieldAt 26 g3_1 0) fun t17_1 =>
  rop P (Instr.loadAt 24 t17_1) h_5 fun t18_1 =>
  pop P (lenS 24 3 t18_1) fun t19_1 =>
  eop P (Instr.buildSlice 37 3 #[(0, (Value.int IntKind.i64 (-1))), (1, t19_1), (2, (Value.int IntKind.i64 4611686018427387904))]) h_5 fun t20_1 h_6 =>
  (∀ w : World, w.heap = h_6 → (Instr.loadAt 24 t17_1).run P w = .ok t18_1 w) ∧
  (∀ w : World, w.heap = h_6 → (Instr.loadAt 37 t14_1).run P w = .ok t15_1 w) ∧
  (∀ w : World, w.heap = h_6 → (Instr.loadAt 24 t12_1).run P w = .ok t13_1 w) ∧
  (∀ w : World, w.heap = h_6 → (Instr.loadAt 24 t10_1).run P w = .ok t11_1 w) ∧
  callM P 107 #[c0_1, t20_1] h_6 fun t21_1 h_7 =>
  (∀ w : World, w.heap = h_7 → (Instr.loadAt 24 t17_1).run P w = .ok t18_1 w) ∧
  (∀ w : World, w.heap = h_7 → (Instr.loadAt 37 t14_1).run P w = .ok t15_1 w) ∧
  (∀ w : World, w.heap = h_7 → (Instr.loadAt 24 t12_1).run P w = .ok t13_1 w) ∧
  (∀ w : World, w.heap = h_7 → (Instr.loadAt 24 t10_1).run P w = .ok t11_1 w) ∧
  eop P (Instr.buildSlice 37 1 #[(0, t21_1)]) h_7 fun t22_1 h_8 =>
  (∀ w : World, w.heap = h_8 → (Instr.loadAt 24 t17_1).run P w = .ok t18_1 w) ∧
  (∀ w : World, w.heap = h_8 → (Instr.loadAt 37 t14_1).run P w = .ok t15_1 w) ∧
  (∀ w : World, w.heap = h_8 → (Instr.loadAt 24 t12_1).run P w = .ok t13_1 w) ∧
  (∀ w : World, w.heap = h_8 → (Instr.loadAt 24 t10_1).run P w = .ok t11_1 w) ∧
  eop P (appS 37 37 37 t15_1 t22_1) h_8 fun t23_1 h_9 =>
  (∀ w : World, w.heap = h_9 → (Instr.loadAt 24 t17_1).run P w = .ok t18_1 w) ∧
  (∀ w : World, w.heap = h_9 → (Instr.loadAt 24 t12_1).run P w = .ok t13_1 w) ∧
  (∀ w : World, w.heap = h_9 → (Instr.loadAt 24 t10_1).run P w = .ok t11_1 w) ∧
  pop P (Instr.indexAt 24 t11_1 (Value.int IntKind.i64 0)) fun t24_1 =>
  uop P (Instr.storeAt 37 t24_1 t23_1) h_9 fun u_2 h_10 =>
  rop P (Instr.loadAt 26 g3_1) h_10 fun t52_1 =>
  uop P (Instr.storeAt 26 t2_1 t52_1) h_10 fun u_3 h_11 =>
  rop P (Instr.loadAt 26 t2_1) h_11 fun r_1 =>
  K r_1 h_11)
  (pop P (binE .eql 3 (.tmp 7) (.const (Value.int IntKind.i64 1)) t7_1 (Value.int IntKind.i64 1)) fun t26_1 =>
  condM t26_1
  (pop P (Instr.fieldAt 26 g3_1 0) fun t27_1 =>
  rop P (Instr.loadAt 24 t27_1) h_5 fun t28_1 =>
  callM P 70 #[c0_1, (Value.int IntKind.i64 2)] h_5 fun t30_1 h_12 =>
  (∀ w : World, w.heap = h_12 → (Instr.loadAt 24 t27_1).run P w = .ok t28_1 w) ∧
  pop P (binA .add 3 (Value.int IntKind.i64 5) t30_1) fun t31_1 =>
  eop P (Instr.makeSlice 37 t31_1 t31_1) h_12 fun t32_1 h_13 =>
  (∀ w : World, w.heap = h_13 → (Instr.loadAt 24 t27_1).run P w = .ok t28_1 w) ∧
  pop P (Instr.indexAt 24 t28_1 (Value.int IntKind.i64 0)) fun t33_1 =>
  uop P (Instr.storeAt 37 t33_1 t32_1) h_13 fun u_4 h_14 =>
  rop P (Instr.loadAt 26 g3_1) h_14 fun t52_2 =>
  uop P (Instr.storeAt 26 t2_1 t52_2) h_14 fun u_5 h_15 =>
  rop P (Instr.loadAt 26 t2_1) h_15 fun r_2 =>
  K r_2 h_15)
  (pop P (binE .eql 3 (.tmp 7) (.const (Value.int IntKind.i64 2)) t7_1 (Value.int IntKind.i64 2)) fun t35_1 =>
  condM t35_1
  (∃ (I_1 : List Value → Heap → Prop) (μ_1 : List Value → Heap → Nat), I_1 [] h_5 ∧
  ∀ (junk_1 : Nat → Value) (h_16 : Heap), I_1 [] h_16 →
  pop P (Instr.fieldAt 26 g3_1 0) fun t36_1 =>
  rop P (Instr.loadAt 24 t36_1) h_16 fun t37_1 =>
  pop P (lenS 24 3 t37_1) fun t38_1 =>
  callM P 70 #[c0_1, (Value.int IntKind.i64 2)] h_16 fun t40_1 h_17 =>
  (∀ w : World, w.heap = h_17 → (Instr.loadAt 24 t36_1).run P w = .ok t37_1 w) ∧
  pop P (binA .add 3 (Value.int IntKind.i64 8) t40_1) fun t41_1 =>
  pop P (binA .lss 3 t38_1 t41_1) fun t42_1 =>
  condM t42_1
  (pop P (Instr.fieldAt 26 g3_1 0) fun t43_1 =>
  rop P (Instr.loadAt 24 t43_1) h_17 fun t44_1 =>
  eop P (Instr.buildSlice 37 1 #[(0, (Value.int IntKind.i64 0))]) h_17 fun t45_1 h_18 =>
  eop P (Instr.buildSlice 24 1 #[(0, t45_1)]) h_18 fun t46_1 h_19 =>
  eop P (appS 24 24 24 t44_1 t46_1) h_19 fun t47_1 h_20 =>
  pop P (Instr.fieldAt 26 g3_1 0) fun t48_1 =>
  uop P (Instr.storeAt 24 t48_1 t47_1) h_20 fun u_6 h_21 =>
  I_1 [] h_21 ∧ μ_1 [] h_21 < μ_1 [] h_16)
  (rop P (Instr.loadAt 26 g3_1) h_17 fun t52_3 =>
  uop P (Instr.storeAt 26 t2_1 t52_3) h_17 fun u_7 h_22 =>
  rop P (Instr.loadAt 26 t2_1) h_22 fun r_3 =>
  K r_3 h_22))
  (pop P (binE .eql 3 (.tmp 7) (.const (Value.int IntKind.i64 3)) t7_1 (Value.int IntKind.i64 3)) fun t50_1 =>
  condM t50_1
  (pop P (Instr.build 26 #[]) fun t51_1 =>
  uop P (Instr.storeAt 26 g3_1 t51_1) h_5 fun u_8 h_23 =>
  rop P (Instr.loadAt 26 g3_1) h_23 fun t52_4 =>
  uop P (Instr.storeAt 26 t2_1 t52_4) h_23 fun u_9 h_24 =>
  rop P (Instr.loadAt 26 t2_1) h_24 fun r_4 =>
  K r_4 h_24)
  (rop P (Instr.loadAt 26 g3_1) h_5 fun t52_5 =>
  uop P (Instr.storeAt 26 t2_1 t52_5) h_5 fun u_10 h_25 =>
  rop P (Instr.loadAt 26 t2_1) h_25 fun r_5 =>
  K r_5 h_25))))
theorem e68 (c0_1 : Value) (h : Heap) (K : Value → Heap → Prop) : wpA Try.prog 53 (anOf [(7548, [])]) (bodyOf Try.f68) 1 (fun A h => resA Try.prog A h K [.cell 2 26]) (fun _ _ _ => False) (fun A h => resA Try.prog A h K [.cell 2 26]) (aargs [c0_1] 0) h = t68 Try.prog c0_1 h K := by kernel_rfl
theorem c68 (c0_1 : Value) (h : Heap) (K : Value → Heap → Prop) (H : t68 Try.prog c0_1 h K) : callM Try.prog 68 #[c0_1] h K :=
  callM_of_wpA mixed (fn := Try.f68) Try.func68 (c := bodyOf Try.f68) rfl (of_decide_eq_true (by kernel_rfl)) (anOf [(7548, [])]) 52 53 (by kernel_rfl) rfl [.cell 2 26] (by kernel_rfl) (args := [c0_1]) (by rw [e68]; exact H)

/-! (*spec.l1Cur).place -/
def t69 (P : Program) (c0_1 : Value) (g1_1 : Value) (h : Heap) (K : Value → Heap → Prop) : Prop :=
  eop P (Instr.box 26 g1_1) h fun g3_1 h_1 =>
  pop P (Instr.fieldAt 26 g3_1 0) fun t5_1 =>
  rop P (Instr.loadAt 24 t5_1) h_1 fun t6_1 =>
  pop P (lenS 24 3 t6_1) fun t7_1 =>
  pop P (binE .eql 3 (.tmp 7) (.const (Value.int IntKind.i64 0)) t7_1 (Value.int IntKind.i64 0)) fun t8_1 =>
  guardM (asG t8_1 false) false (fun k_1 => k_1 c0_1 h_1) h_1 fun t10_1 h_2 =>
  guardM (asG t8_1 false) false (fun k_2 => callM P 106 #[t10_1, (Value.int IntKind.i64 14)] h_2 fun t11_1 h_3 =>
  k_2 t11_1 h_3) h_2 fun t11_2 h_4 =>
  pop P (pickS t8_1 (Value.bool true) t11_2) fun t12_1 =>
  condM t12_1
  (pop P (Instr.fieldAt 26 g3_1 0) fun t14_1 =>
  rop P (Instr.loadAt 24 t14_1) h_4 fun t15_1 =>
  pop P (lenS 24 3 t15_1) fun t16_1 =>
  eop P (Instr.buildSlice 37 4 #[(0, (Value.int IntKind.i64 (-1))), (1, (Value.int IntKind.i64 0)), (2, t16_1), (3, (Value.int IntKind.i64 4611686018427387904))]) h_4 fun t17_1 h_5 =>
  callM P 107 #[c0_1, t17_1] h_5 fun t18_1 h_6 =>
  K t18_1 h_6)
  (pop P (Instr.fieldAt 26 g3_1 0) fun t20_1 =>
  rop P (Instr.loadAt 24 t20_1) h_4 fun t21_1 =>
  pop P (lenS 24 3 t21_1) fun t22_1 =>
  callM P 70 #[c0_1, t22_1] h_4 fun t23_1 h_7 =>
  K t23_1 h_7)
theorem e69 (c0_1 : Value) (g1_1 : Value) (h : Heap) (K : Value → Heap → Prop) : wpA Try.prog 24 (anOf []) (bodyOf Try.f69) 1 (fun A h => resA Try.prog A h K [.tmp 4]) (fun _ _ _ => False) (fun A h => resA Try.prog A h K [.tmp 4]) (aargs [c0_1, g1_1] 0) h = t69 Try.prog c0_1 g1_1 h K := by kernel_rfl
theorem c69 (c0_1 : Value) (g1_1 : Value) (h : Heap) (K : Value → Heap → Prop) (H : t69 Try.prog c0_1 g1_1 h K) : callM Try.prog 69 #[c0_1, g1_1] h K :=
  callM_of_wpA mixed (fn := Try.f69) Try.func69 (c := bodyOf Try.f69) rfl (of_decide_eq_true (by kernel_rfl)) (anOf []) 22 24 (by kernel_rfl) rfl [.tmp 4] (by kernel_rfl) (args := [c0_1, g1_1]) (by rw [e69]; exact H)

/-! (*spec.l1Cur).pick -/
def t70 (P : Program) (c0_1 : Value) (n1_1 : Value) (h : Heap) (K : Value → Heap → Prop) : Prop :=
  pop P (binA .leq 3 n1_1 (Value.int IntKind.i64 1)) fun t7_1 =>
  condM t7_1
  (K (Value.int IntKind.i64 0) h)
  (callM P 119 #[c0_1] h fun t9_1 h_1 =>
  ∃ J_1 : List Value → Heap → Prop, (pop P (binA .gtr 3 n1_1 (Value.int IntKind.i64 200)) fun t11_1 =>
  condM t11_1
  (pop P (binA .mul 3 t9_1 (Value.int IntKind.i64 256)) fun t13_1 =>
  callM P 119 #[c0_1] h_1 fun t15_1 h_2 =>
  pop P (binA .add 3 t13_1 t15_1) fun t16_1 =>
  J_1 [t16_1] h_2)
  (J_1 [t9_1] h_1)) ∧
  ∀ (junk_1 : Nat → Value) (x5_1 : Value) (h_3 : Heap), J_1 [x5_1] h_3 →
  pop P (binA .rem 3 x5_1 n1_1) fun t19_1 =>
  K t19_1 h_3)
theorem e70 (c0_1 : Value) (n1_1 : Value) (h : Heap) (K : Value → Heap → Prop) : wpA Try.prog 20 (anOf [(15, [5])]) (bodyOf Try.f70) 1 (fun A h => resA Try.prog A h K [.tmp 4]) (fun _ _ _ => False) (fun A h => resA Try.prog A h K [.tmp 4]) (aargs [c0_1, n1_1] 0) h = t70 Try.prog c0_1 n1_1 h K := by kernel_rfl
theorem c70 (c0_1 : Value) (n1_1 : Value) (h : Heap) (K : Value → Heap → Prop) (H : t70 Try.prog c0_1 n1_1 h K) : callM Try.prog 70 #[c0_1, n1_1] h K :=
  callM_of_wpA mixed (fn := Try.f70) Try.func70 (c := bodyOf Try.f70) rfl (of_decide_eq_true (by kernel_rfl)) (anOf [(15, [5])]) 18 20 (by kernel_rfl) rfl [.tmp 4] (by kernel_rfl) (args := [c0_1, n1_1]) (by rw [e70]; exact H)

/-! impl.in -/
def t71 (P : Program) (n0_1 : Value) (low1_1 : Value) (high2_1 : Value) (h : Heap) (K : Value → Heap → Prop) : Prop :=
  pop P (binA .leq 3 low1_1 n0_1) fun t9_1 =>
  guardM (asG t9_1 true) true (fun k_1 => k_1 n0_1 h) h fun t11_1 h_1 =>
  guardM (asG t9_1 true) true (fun k_2 => k_2 high2_1 h_1) h_1 fun t12_1 h_2 =>
  guardM (asG t9_1 true) true (fun k_3 => pop P (binA .leq 3 t11_1 t12_1) fun t13_1 =>
  k_3 t13_1 h_2) h_2 fun t13_2 h_3 =>
  pop P (pickS t9_1 t13_2 (Value.bool false)) fun t14_1 =>
  K t14_1 h_3
theorem e71 (n0_1 : Value) (low1_1 : Value) (high2_1 : Value) (h : Heap) (K : Value → Heap → Prop) : wpA Try.prog 15 (anOf []) (bodyOf Try.f71) 1 (fun A h => resA Try.prog A h K [.tmp 6]) (fun _ _ _ => False) (fun A h => resA Try.prog A h K [.tmp 6]) (aargs [n0_1, low1_1, high2_1] 0) h = t71 Try.prog n0_1 low1_1 high2_1 h K := by kernel_rfl
theorem c71 (n0_1 : Value) (low1_1 : Value) (high2_1 : Value) (h : Heap) (K : Value → Heap → Prop) (H : t71 Try.prog n0_1 low1_1 high2_1 h K) : callM Try.prog 71 #[n0_1, low1_1, high2_1] h K :=
  callM_of_wpA mixed (fn := Try.f71) Try.func71 (c := bodyOf Try.f71) rfl (of_decide_eq_true (by kernel_rfl)) (anOf []) 12 15 (by kernel_rfl) rfl [.tmp 6] (by kernel_rfl) (args := [n0_1, low1_1, high2_1]) (by rw [e71]; exact H)

/-! spec.grPlace -/
def t72 (P : Program) (g0_1 : Value) (p1_1 : Value) (h : Heap) (K : Value → Heap → Prop) : Prop :=
  eop P (Instr.box 26 g0_1) h fun g2_1 h_1 =>
  rop P (Instr.loadAt 26 g2_1) h_1 fun t5_1 =>
  callM P 120 #[t5_1] h_1 fun t6_1 h_2 =>
  guardM (asG t6_1 true) true (fun k_1 => k_1 p1_1 h_2) h_2 fun t8_1 h_3 =>
  guardM (asG t6_1 true) true (fun k_2 => pop P (Instr.fieldAt 26 g2_1 0) fun t9_1 =>
  k_2 t9_1 h_3) h_3 fun t9_2 h_4 =>
  guardM (asG t6_1 true) true (fun k_3 => rop P (Instr.loadAt 24 t9_2) h_4 fun t10_1 =>
  k_3 t10_1 h_4) h_4 fun t10_2 h_5 =>
  guardM (asG t6_1 true) true (fun k_4 => pop P (lenS 24 3 t10_2) fun t11_1 =>
  k_4 t11_1 h_5) h_5 fun t11_2 h_6 =>
  guardM (asG t6_1 true) true (fun k_5 => pop P (binA .sub 3 t11_2 (Value.int IntKind.i64 1)) fun t12_1 =>
  k_5 t12_1 h_6) h_6 fun t12_2 h_7 =>
  guardM (asG t6_1 true) true (fun k_6 => callM P 73 #[t8_1, (Value.int IntKind.i64 0), t12_2] h_7 fun t13_1 h_8 =>
  k_6 t13_1 h_8) h_7 fun t13_2 h_9 =>
  pop P (pickS t6_1 t13_2 (Value.bool false)) fun t14_1 =>
  K t14_1 h_9
theorem e72 (g0_1 : Value) (p1_1 : Value) (h : Heap) (K : Value → Heap → Prop) : wpA Try.prog 15 (anOf []) (bodyOf Try.f72) 1 (fun A h => resA Try.prog A h K [.tmp 4]) (fun _ _ _ => False) (fun A h => resA Try.prog A h K [.tmp 4]) (aargs [g0_1, p1_1] 0) h = t72 Try.prog g0_1 p1_1 h K := by kernel_rfl
theorem c72 (g0_1 : Value) (p1_1 : Value) (h : Heap) (K : Value → Heap → Prop) (H : t72 Try.prog g0_1 p1_1 h K) : callM Try.prog 72 #[g0_1, p1_1] h K :=
  callM_of_wpA mixed (fn := Try.f72) Try.func72 (c := bodyOf Try.f72) rfl (of_decide_eq_true (by kernel_rfl)) (anOf []) 13 15 (by kernel_rfl) rfl [.tmp 4] (by kernel_rfl) (args := [g0_1, p1_1]) (by rw [e72]; exact H)

/-! spec.l1In -/
def t73 (P : Program) (n0_1 : Value) (lo1_1 : Value) (hi2_1 : Value) (h : Heap) (K : Value → Heap → Prop) : Prop :=
  pop P (binA .geq 3 n0_1 lo1_1) fun t9_1 =>
  guardM (asG t9_1 true) true (fun k_1 => k_1 n0_1 h) h fun t11_1 h_1 =>
  guardM (asG t9_1 true) true (fun k_2 => k_2 hi2_1 h_1) h_1 fun t12_1 h_2 =>
  guardM (asG t9_1 true) true (fun k_3 => pop P (binA .leq 3 t11_1 t12_1) fun t13_1 =>
  k_3 t13_1 h_2) h_2 fun t13_2 h_3 =>
  pop P (pickS t9_1 t13_2 (Value.bool false)) fun t14_1 =>
  K t14_1 h_3
theorem e73 (n0_1 : Value) (lo1_1 : Value) (hi2_1 : Value) (h : Heap) (K : Value → Heap → Prop) : wpA Try.prog 15 (anOf []) (bodyOf Try.f73) 1 (fun A h => resA Try.prog A h K [.tmp 6]) (fun _ _ _ => False) (fun A h => resA Try.prog A h K [.tmp 6]) (aargs [n0_1, lo1_1, hi2_1] 0) h = t73 Try.prog n0_1 lo1_1 hi2_1 h K := by kernel_rfl
theorem c73 (n0_1 : Value) (lo1_1 : Value) (hi2_1 : Value) (h : Heap) (K : Value → Heap → Prop) (H : t73 Try.prog n0_1 lo1_1 hi2_1 h K) : callM Try.prog 73 #[n0_1, lo1_1, hi2_1] h K :=
  callM_of_wpA mixed (fn := Try.f73) Try.func73 (c := bodyOf Try.f73) rfl (of_decide_eq_true (by kernel_rfl)) (anOf []) 12 15 (by kernel_rfl) rfl [.tmp 6] (by kernel_rfl) (args := [n0_1, lo1_1, hi2_1]) (by rw [e73]; exact H)

/-! spec.DrawCountTrees -/
def t87 (P : Program) (code0_1 : Value) (h : Heap) (K : Value → Heap → Prop) : Prop :=
  eop P (Instr.alloc 26 true (.tuple #[])) h fun t2_1 h_1 =>
  pop P (Instr.build 69 #[(0, code0_1)]) fun t6_1 =>
  eop P (Instr.box 69 t6_1) h_1 fun t7_1 h_2 =>
  callM P 127 #[t7_1] h_2 fun t9_1 h_3 =>
  pop P (Instr.extract t9_1 0) fun t10_1 =>
  pop P (Instr.extract t9_1 1) fun t11_1 =>
  uop P (Instr.storeAt 26 t2_1 t10_1) h_3 fun u_1 h_4 =>
  rop P (Instr.loadAt 26 t2_1) h_4 fun r_1 =>
  K (.tuple #[r_1, t11_1]) h_4
theorem e87 (code0_1 : Value) (h : Heap) (K : Value → Heap → Prop) : wpA Try.prog 12 (anOf []) (bodyOf Try.f87) 1 (fun A h => resA Try.prog A h K [.cell 2 26, .tmp 3]) (fun _ _ _ => False) (fun A h => resA Try.prog A h K [.cell 2 26, .tmp 3]) (aargs [code0_1] 0) h = t87 Try.prog code0_1 h K := by kernel_rfl
theorem c87 (code0_1 : Value) (h : Heap) (K : Value → Heap → Prop) (H : t87 Try.prog code0_1 h K) : callM Try.prog 87 #[code0_1] h K :=
  callM_of_wpA mixed (fn := Try.f87) Try.func87 (c := bodyOf Try.f87) rfl (of_decide_eq_true (by kernel_rfl)) (anOf []) 11 12 (by kernel_rfl) rfl [.cell 2 26, .tmp 3] (by kernel_rfl) (args := [code0_1]) (by rw [e87]; exact H)

/-! impl.determinant -/
def t88 (P : Program) (m0_1 : Value) (h : Heap) (K : Value → Heap → Prop) : Prop :=
  pop P (lenS 24 3 m0_1) fun t14_1 =>
  eop P (Instr.buildSlice 24 0 #[]) h fun t15_1 h_1 =>
  pop P (lenS 24 3 m0_1) fun t17_1 =>
  ∃ (I_1 : List Value → Heap → Prop) (μ_1 : List Value → Heap → Nat), I_1 [t15_1, (Value.int IntKind.i64 0)] h_1 ∧
  ∀ (junk_1 : Nat → Value) (a6_1 : Value) (t18_1 : Value) (h_2 : Heap), I_1 [a6_1, t18_1] h_2 →
  pop P (binA .lss 3 t18_1 t17_1) fun t19_1 =>
  condM t19_1
  (pop P (Instr.indexAt 24 m0_1 t18_1) fun t20_1 =>
  rop P (Instr.loadAt 37 t20_1) h_2 fun t21_1 =>
  callM P 117 #[t21_1] h_2 fun t24_1 h_3 =>
  eop P (Instr.buildSlice 24 1 #[(0, t24_1)]) h_3 fun t25_1 h_4 =>
  eop P (appS 24 24 24 a6_1 t25_1) h_4 fun t26_1 h_5 =>
  pop P (binA .add 3 t18_1 (Value.int IntKind.i64 1)) fun t27_1 =>
  I_1 [t26_1, t27_1] h_5 ∧ μ_1 [t26_1, t27_1] h_5 < μ_1 [a6_1, t18_1] h_2)
  (∃ (I_2 : List Value → Heap → Prop) (μ_2 : List Value → Heap → Nat), I_2 [(Value.int IntKind.i64 1), (Value.int IntKind.i64 1), (Value.int IntKind.i64 0)] h_2 ∧
  ∀ (junk_2 : Nat → Value) (sign4_1 : Value) (last5_1 : Value) (t29_1 : Value) (h_6 : Heap), I_2 [sign4_1, last5_1, t29_1] h_6 →
  pop P (binA .lss 3 t29_1 t14_1) fun t30_1 =>
  condM t30_1
  (∃ (I_3 : List Value → Heap → Prop) (μ_3 : List Value → Heap → Nat), I_3 [t29_1] h_6 ∧
  ∀ (junk_3 : Nat → Value) (pivot10_1 : Value) (h_7 : Heap), I_3 [pivot10_1] h_7 →
  pop P (binA .lss 3 pivot10_1 t14_1) fun t35_1 =>
  guardM (asG t35_1 true) true (fun k_1 => k_1 a6_1 h_7) h_7 fun t37_1 h_8 =>
  guardM (asG t35_1 true) true (fun k_2 => k_2 pivot10_1 h_8) h_8 fun t38_1 h_9 =>
  guardM (asG t35_1 true) true (fun k_3 => pop P (Instr.indexAt 24 t37_1 t38_1) fun t39_1 =>
  k_3 t39_1 h_9) h_9 fun t39_2 h_10 =>
  guardM (asG t35_1 true) true (fun k_4 => rop P (Instr.loadAt 37 t39_2) h_10 fun t40_1 =>
  k_4 t40_1 h_10) h_10 fun t40_2 h_11 =>
  guardM (asG t35_1 true) true (fun k_5 => k_5 t29_1 h_11) h_11 fun t41_1 h_12 =>
  guardM (asG t35_1 true) true (fun k_6 => pop P (Instr.indexAt 37 t40_2 t41_1) fun t42_1 =>
  k_6 t42_1 h_12) h_12 fun t42_2 h_13 =>
  guardM (asG t35_1 true) true (fun k_7 => rop P (Instr.loadAt 3 t42_2) h_13 fun t43_1 =>
  k_7 t43_1 h_13) h_13 fun t43_2 h_14 =>
  guardM (asG t35_1 true) true (fun k_8 => pop P (binE .eql 3 (.tmp 43) (.const (Value.int IntKind.i64 0)) t43_2 (Value.int IntKind.i64 0)) fun t44_1 =>
  k_8 t44_1 h_14) h_14 fun t44_2 h_15 =>
  pop P (pickS t35_1 t44_2 (Value.bool false)) fun t45_1 =>
  condM t45_1
  (pop P (binA .add 3 pivot10_1 (Value.int IntKind.i64 1)) fun t47_1 =>
  I_3 [t47_1] h_15 ∧ μ_3 [t47_1] h_15 < μ_3 [pivot10_1] h_7)
  (pop P (binE .eql 3 (.tmp 48) (.tmp 49) pivot10_1 t14_1) fun t50_1 =>
  condM t50_1
  (K (Value.int IntKind.i64 0) h_15)
  (∃ J_1 : List Value → Heap → Prop, (pop P (binE .neq 3 (.tmp 51) (.tmp 52) pivot10_1 t29_1) fun t53_1 =>
  condM t53_1
  (pop P (Instr.indexAt 24 a6_1 t29_1) fun t60_1 =>
  rop P (Instr.loadAt 37 t60_1) h_15 fun t61_1 =>
  pop P (Instr.indexAt 24 a6_1 pivot10_1) fun t64_1 =>
  rop P (Instr.loadAt 37 t64_1) h_15 fun t65_1 =>
  pop P (Instr.indexAt 24 a6_1 pivot10_1) fun t66_1 =>
  uop P (Instr.storeAt 37 t66_1 t61_1) h_15 fun u_1 h_16 =>
  pop P (Instr.indexAt 24 a6_1 t29_1) fun t67_1 =>
  uop P (Instr.storeAt 37 t67_1 t65_1) h_16 fun u_2 h_17 =>
  pop P (Op.unary .neg sign4_1) fun t69_1 =>
  J_1 [t69_1] h_17)
  (J_1 [sign4_1] h_15)) ∧
  ∀ (junk_4 : Nat → Value) (sign4_2 : Value) (h_18 : Heap), J_1 [sign4_2] h_18 →
  pop P (binA .add 3 t29_1 (Value.int IntKind.i64 1)) fun t71_1 =>
  ∃ (I_4 : List Value → Heap → Prop) (μ_4 : List Value → Heap → Nat), I_4 [t71_1] h_18 ∧
  ∀ (junk_5 : Nat → Value) (i11_1 : Value) (h_19 : Heap), I_4 [i11_1] h_19 →
  pop P (binA .lss 3 i11_1 t14_1) fun t74_1 =>
  condM t74_1
  (pop P (binA .add 3 t29_1 (Value.int IntKind.i64 1)) fun t78_1 =>
  ∃ (I_5 : List Value → Heap → Prop) (μ_5 : List Value → Heap → Nat), I_5 [t78_1] h_19 ∧
  ∀ (junk_6 : Nat → Value) (j12_1 : Value) (h_20 : Heap), I_5 [j12_1] h_20 →
  pop P (binA .lss 3 j12_1 t14_1) fun t81_1 =>
  condM t81_1
  (pop P (Instr.indexAt 24 a6_1 i11_1) fun t86_1 =>
  rop P (Instr.loadAt 37 t86_1) h_20 fun t87_1 =>
  pop P (Instr.indexAt 24 a6_1 i11_1) fun t91_1 =>
  rop P (Instr.loadAt 37 t91_1) h_20 fun t92_1 =>
  pop P (Instr.indexAt 37 t92_1 j12_1) fun t94_1 =>
  rop P (Instr.loadAt 3 t94_1) h_20 fun t95_1 =>
  pop P (Instr.indexAt 24 a6_1 t29_1) fun t98_1 =>
  rop P (Instr.loadAt 37 t98_1) h_20 fun t99_1 =>
  pop P (Instr.indexAt 37 t99_1 t29_1) fun t101_1 =>
  rop P (Instr.loadAt 3 t101_1) h_20 fun t102_1 =>
  pop P (binA .mul 3 t95_1 t102_1) fun t103_1 =>
  pop P (Instr.indexAt 24 a6_1 i11_1) fun t106_1 =>
  rop P (Instr.loadAt 37 t106_1) h_20 fun t107_1 =>
  pop P (Instr.indexAt 37 t107_1 t29_1) fun t109_1 =>
  rop P (Instr.loadAt 3 t109_1) h_20 fun t110_1 =>
  pop P (Instr.indexAt 24 a6_1 t29_1) fun t113_1 =>
  rop P (Instr.loadAt 37 t113_1) h_20 fun t114_1 =>
  pop P (Instr.indexAt 37 t114_1 j12_1) fun t116_1 =>
  rop P (Instr.loadAt 3 t116_1) h_20 fun t117_1 =>
  pop P (binA .mul 3 t110_1 t117_1) fun t118_1 =>
  pop P (binA .sub 3 t103_1 t118_1) fun t119_1 =>
  pop P (binA .quo 3 t119_1 last5_1) fun t121_1 =>
  pop P (Instr.indexAt 37 t87_1 j12_1) fun t122_1 =>
  uop P (Instr.storeAt 3 t122_1 t121_1) h_20 fun u_3 h_21 =>
  pop P (binA .add 3 j12_1 (Value.int IntKind.i64 1)) fun t83_1 =>
  I_5 [t83_1] h_21 ∧ μ_5 [t83_1] h_21 < μ_5 [j12_1] h_20)
  (pop P (binA .add 3 i11_1 (Value.int IntKind.i64 1)) fun t76_1 =>
  I_4 [t76_1] h_20 ∧ μ_4 [t76_1] h_20 < μ_4 [i11_1] h_19))
  (pop P (Instr.indexAt 24 a6_1 t29_1) fun t125_1 =>
  rop P (Instr.loadAt 37 t125_1) h_19 fun t126_1 =>
  pop P (Instr.indexAt 37 t126_1 t29_1) fun t128_1 =>
  rop P (Instr.loadAt 3 t128_1) h_19 fun t129_1 =>
  pop P (binA .add 3 t29_1 (Value.int IntKind.i64 1)) fun t130_1 =>
  I_2 [sign4_2, t129_1, t130_1] h_19 ∧ μ_2 [sign4_2, t129_1, t130_1] h_19 < μ_2 [sign4_1, last5_1, t29_1] h_6))))
  (pop P (binA .mul 3 sign4_1 last5_1) fun t133_1 =>
  K t133_1 h_6))
theorem e88 (m0_1 : Value) (h : Heap) (K : Value → Heap → Prop) : wpA Try.prog 134 (anOf [(122, [6, 18]), (250, [4, 5, 29]), (128204, [10]), (128207, [4]), (2051322, [11]), (131284626, [12])]) (bodyOf Try.f88) 1 (fun A h => resA Try.prog A h K [.tmp 2]) (fun _ _ _ => False) (fun A h => resA Try.prog A h K [.tmp 2]) (aargs [m0_1] 0) h = t88 Try.prog m0_1 h K := by kernel_rfl
theorem c88 (m0_1 : Value) (h : Heap) (K : Value → Heap → Prop) (H : t88 Try.prog m0_1 h K) : callM Try.prog 88 #[m0_1] h K :=
  callM_of_wpA mixed (fn := Try.f88) Try.func88 (c := bodyOf Try.f88) rfl (of_decide_eq_true (by kernel_rfl)) (anOf [(122, [6, 18]), (250, [4, 5, 29]), (128204, [10]), (128207, [4]), (2051322, [11]), (131284626, [12])]) 133 134 (by kernel_rfl) rfl [.tmp 2] (by kernel_rfl) (args := [m0_1]) (by rw [e88]; exact H)

/-! impl.laplace -/
def t89 (P : Program) (g0_1 : Value) (sink1_1 : Value) (h : Heap) (K : Value → Heap → Prop) : Prop :=
  eop P (Instr.box 26 g0_1) h fun g2_1 h_1 =>
  eop P (Instr.buildSlice 24 0 #[]) h_1 fun t11_1 h_2 =>
  pop P (Instr.fieldAt 26 g2_1 0) fun t12_1 =>
  rop P (Instr.loadAt 24 t12_1) h_2 fun t13_1 =>
  pop P (lenS 24 3 t13_1) fun t14_1 =>
  ∃ (I_1 : List Value → Heap → Prop) (μ_1 : List Value → Heap → Nat), I_1 [t11_1, (Value.int IntKind.i64 0)] h_2 ∧
  ∀ (junk_1 : Nat → Value) (out5_1 : Value) (t15_1 : Value) (h_3 : Heap), I_1 [out5_1, t15_1] h_3 →
  pop P (binA .lss 3 t15_1 t14_1) fun t16_1 =>
  condM t16_1
  (pop P (Instr.indexAt 24 t13_1 t15_1) fun t18_1 =>
  rop P (Instr.loadAt 37 t18_1) h_3 fun t19_1 =>
  pop P (binE .eql 3 (.tmp 20) (.tmp 21) t15_1 sink1_1) fun t22_1 =>
  condM t22_1
  (pop P (binA .add 3 t15_1 (Value.int IntKind.i64 1)) fun t53_1 =>
  I_1 [out5_1, t53_1] h_3 ∧ μ_1 [out5_1, t53_1] h_3 < μ_1 [out5_1, t15_1] h_3)
  (pop P (Instr.fieldAt 26 g2_1 0) fun t23_1 =>
  rop P (Instr.loadAt 24 t23_1) h_3 fun t24_1 =>
  pop P (lenS 24 3 t24_1) fun t25_1 =>
  eop P (Instr.makeSlice 37 t25_1 t25_1) h_3 fun t26_1 h_4 =>
  pop P (lenS 37 3 t19_1) fun t30_1 =>
  pop P (Instr.indexAt 37 t26_1 t15_1) fun t31_1 =>
  uop P (Instr.storeAt 3 t31_1 t30_1) h_4 fun u_1 h_5 =>
  pop P (lenS 37 3 t19_1) fun t33_1 =>
  ∃ (I_2 : List Value → Heap → Prop) (μ_2 : List Value → Heap → Nat), I_2 [(Value.int IntKind.i64 0)] h_5 ∧
  ∀ (junk_2 : Nat → Value) (t34_1 : Value) (h_6 : Heap), I_2 [t34_1] h_6 →
  pop P (binA .lss 3 t34_1 t33_1) fun t35_1 =>
  condM t35_1
  (pop P (Instr.indexAt 37 t19_1 t34_1) fun t36_1 =>
  rop P (Instr.loadAt 3 t36_1) h_6 fun t37_1 =>
  pop P (Instr.indexAt 37 t26_1 t37_1) fun t40_1 =>
  rop P (Instr.loadAt 3 t40_1) h_6 fun t41_1 =>
  pop P (binA .sub 3 t41_1 (Value.int IntKind.i64 1)) fun t42_1 =>
  pop P (Instr.indexAt 37 t26_1 t37_1) fun t43_1 =>
  uop P (Instr.storeAt 3 t43_1 t42_1) h_6 fun u_2 h_7 =>
  pop P (binA .add 3 t34_1 (Value.int IntKind.i64 1)) fun t44_1 =>
  I_2 [t44_1] h_7 ∧ μ_2 [t44_1] h_7 < μ_2 [t34_1] h_6)
  (pop P (binA .add 3 sink1_1 (Value.int IntKind.i64 1)) fun t49_1 =>
  callM P 128 #[t26_1, sink1_1, t49_1] h_6 fun t50_1 h_8 =>
  eop P (Instr.buildSlice 24 1 #[(0, t50_1)]) h_8 fun t51_1 h_9 =>
  eop P (appS 24 24 24 out5_1 t51_1) h_9 fun t52_1 h_10 =>
  pop P (binA .add 3 t15_1 (Value.int IntKind.i64 1)) fun t53_2 =>
  I_1 [t52_1, t53_2] h_10 ∧ μ_1 [t52_1, t53_2] h_10 < μ_1 [out5_1, t15_1] h_3)))
  (K out5_1 h_3)
theorem e89 (g0_1 : Value) (sink1_1 : Value) (h : Heap) (K : Value → Heap → Prop) : wpA Try.prog 55 (anOf [(58, [5, 15]), (239226, [34])]) (bodyOf Try.f89) 1 (fun A h => resA Try.prog A h K [.tmp 4]) (fun _ _ _ => False) (fun A h => resA Try.prog A h K [.tmp 4]) (aargs [g0_1, sink1_1] 0) h = t89 Try.prog g0_1 sink1_1 h K := by kernel_rfl
theorem c89 (g0_1 : Value) (sink1_1 : Value) (h : Heap) (K : Value → Heap → Prop) (H : t89 Try.prog g0_1 sink1_1 h K) : callM Try.prog 89 #[g0_1, sink1_1] h K :=
  callM_of_wpA mixed (fn := Try.f89) Try.func89 (c := bodyOf Try.f89) rfl (of_decide_eq_true (by kernel_rfl)) (anOf [(58, [5, 15]), (239226, [34])]) 53 55 (by kernel_rfl) rfl [.tmp 4] (by kernel_rfl) (args := [g0_1, sink1_1]) (by rw [e89]; exact H)

/-! impl.allTrees -/
def t90 (P : Program) (g0_1 : Value) (sink1_1 : Value) (most2_1 : Value) (h : Heap) (K : Value → Heap → Prop) : Prop :=
  eop P (Instr.box 26 g0_1) h fun g3_1 h_1 =>
  eop P (Instr.box 3 sink1_1) h_1 fun sink4_1 h_2 =>
  eop P (Instr.box 3 most2_1) h_2 fun most5_1 h_3 =>
  eop P (Instr.buildSlice 24 0 #[]) h_3 fun t8_1 h_4 =>
  eop P (Instr.alloc 24 true (.tuple #[])) h_4 fun out7_1 h_5 =>
  uop P (Instr.storeAt 24 out7_1 t8_1) h_5 fun u_1 h_6 =>
  rop P (Instr.loadAt 26 g3_1) h_6 fun t9_1 =>
  rop P (Instr.loadAt 3 sink4_1) h_6 fun t10_1 =>
  pop P (Instr.makeFunc (Fn.func 130) #[] #[g3_1, sink4_1, out7_1, most5_1]) fun t11_1 =>
  callM P 129 #[t9_1, t10_1, t11_1] h_6 fun t12_1 h_7 =>
  rop P (Instr.loadAt 24 out7_1) h_7 fun t13_1 =>
  K t13_1 h_7
theorem e90 (g0_1 : Value) (sink1_1 : Value) (most2_1 : Value) (h : Heap) (K : Value → Heap → Prop) : wpA Try.prog 14 (anOf []) (bodyOf Try.f90) 1 (fun A h => resA Try.prog A h K [.tmp 6]) (fun _ _ _ => False) (fun A h => resA Try.prog A h K [.tmp 6]) (aargs [g0_1, sink1_1, most2_1] 0) h = t90 Try.prog g0_1 sink1_1 most2_1 h K := by kernel_rfl
theorem c90 (g0_1 : Value) (sink1_1 : Value) (most2_1 : Value) (h : Heap) (K : Value → Heap → Prop) (H : t90 Try.prog g0_1 sink1_1 most2_1 h K) : callM Try.prog 90 #[g0_1, sink1_1, most2_1] h K :=
  callM_of_wpA mixed (fn := Try.f90) Try.func90 (c := bodyOf Try.f90) rfl (of_decide_eq_true (by kernel_rfl)) (anOf []) 11 14 (by kernel_rfl) rfl [.tmp 6] (by kernel_rfl) (args := [g0_1, sink1_1, most2_1]) (by rw [e90]; exact H)

/-! spec.trDet -/
def t91 (P : Program) (m0_1 : Value) (h : Heap) (K : Value → Heap → Prop) : Prop :=
  pop P (lenS 24 3 m0_1) fun t11_1 =>
  pop P (binE .eql 3 (.tmp 11) (.const (Value.int IntKind.i64 0)) t11_1 (Value.int IntKind.i64 0)) fun t12_1 =>
  condM t12_1
  (K (Value.int IntKind.i64 1) h)
  (pop P (Instr.indexAt 24 m0_1 (Value.int IntKind.i64 0)) fun t14_1 =>
  rop P (Instr.loadAt 37 t14_1) h fun t15_1 =>
  pop P (lenS 37 3 t15_1) fun t16_1 =>
  ∃ (I_1 : List Value → Heap → Prop) (μ_1 : List Value → Heap → Nat), I_1 [(Value.int IntKind.i64 0), (Value.int IntKind.i64 1), (Value.int IntKind.i64 0)] h ∧
  ∀ (junk_1 : Nat → Value) (sum3_1 : Value) (sign4_1 : Value) (t17_1 : Value) (h_1 : Heap), I_1 [sum3_1, sign4_1, t17_1] h_1 →
  pop P (binA .lss 3 t17_1 t16_1) fun t18_1 =>
  condM t18_1
  (pop P (Instr.indexAt 37 t15_1 t17_1) fun t20_1 =>
  rop P (Instr.loadAt 3 t20_1) h_1 fun t21_1 =>
  ∃ J_1 : List Value → Heap → Prop, (pop P (binE .neq 3 (.tmp 22) (.const (Value.int IntKind.i64 0)) t21_1 (Value.int IntKind.i64 0)) fun t23_1 =>
  condM t23_1
  (pop P (Instr.sliceAt 24 m0_1 (some (Value.int IntKind.i64 1)) none none) fun t25_1 =>
  pop P (lenS 24 3 t25_1) fun t26_1 =>
  ∃ (I_2 : List Value → Heap → Prop) (μ_2 : List Value → Heap → Nat), I_2 [(Value.slice none 0 0), (Value.int IntKind.i64 0)] h_1 ∧
  ∀ (junk_2 : Nat → Value) (rest7_1 : Value) (t27_1 : Value) (h_2 : Heap), I_2 [rest7_1, t27_1] h_2 →
  pop P (binA .lss 3 t27_1 t26_1) fun t28_1 =>
  condM t28_1
  (pop P (Instr.indexAt 24 t25_1 t27_1) fun t29_1 =>
  rop P (Instr.loadAt 37 t29_1) h_2 fun t30_1 =>
  pop P (Instr.sliceAt 37 t30_1 none (some t17_1) none) fun t34_1 =>
  pop P (binA .add 3 t17_1 (Value.int IntKind.i64 1)) fun t38_1 =>
  pop P (Instr.sliceAt 37 t30_1 (some t38_1) none none) fun t39_1 =>
  callM P 121 #[t34_1] h_2 fun t35_1 h_3 =>
  eop P (appS 37 37 37 t35_1 t39_1) h_3 fun t40_1 h_4 =>
  eop P (Instr.buildSlice 24 1 #[(0, t40_1)]) h_4 fun t41_1 h_5 =>
  eop P (appS 24 24 24 rest7_1 t41_1) h_5 fun t42_1 h_6 =>
  pop P (binA .add 3 t27_1 (Value.int IntKind.i64 1)) fun t43_1 =>
  I_2 [t42_1, t43_1] h_6 ∧ μ_2 [t42_1, t43_1] h_6 < μ_2 [rest7_1, t27_1] h_2)
  (pop P (binA .mul 3 sign4_1 t21_1) fun t47_1 =>
  callM P 91 #[rest7_1] h_2 fun t49_1 h_7 =>
  pop P (binA .mul 3 t47_1 t49_1) fun t50_1 =>
  pop P (binA .add 3 sum3_1 t50_1) fun t51_1 =>
  J_1 [t51_1] h_7))
  (J_1 [sum3_1] h_1)) ∧
  ∀ (junk_3 : Nat → Value) (sum3_2 : Value) (h_8 : Heap), J_1 [sum3_2] h_8 →
  pop P (Op.unary .neg sign4_1) fun t53_1 =>
  pop P (binA .add 3 t17_1 (Value.int IntKind.i64 1)) fun t54_1 =>
  I_1 [sum3_2, t53_1, t54_1] h_8 ∧ μ_1 [sum3_2, t53_1, t54_1] h_8 < μ_1 [sum3_1, sign4_1, t17_1] h_1)
  (K sum3_1 h_1))
theorem e91 (m0_1 : Value) (h : Heap) (K : Value → Heap → Prop) : wpA Try.prog 56 (anOf [(122, [3, 4, 17]), (7833, [3]), (1002666, [7, 27])]) (bodyOf Try.f91) 1 (fun A h => resA Try.prog A h K [.tmp 2]) (fun _ _ _ => False) (fun A h => resA Try.prog A h K [.tmp 2]) (aargs [m0_1] 0) h = t91 Try.prog m0_1 h K := by kernel_rfl
theorem c91 (m0_1 : Value) (h : Heap) (K : Value → Heap → Prop) (H : t91 Try.prog m0_1 h K) : callM Try.prog 91 #[m0_1] h K :=
  callM_of_wpA mixed (fn := Try.f91) Try.func91 (c := bodyOf Try.f91) rfl (of_decide_eq_true (by kernel_rfl)) (anOf [(122, [3, 4, 17]), (7833, [3]), (1002666, [7, 27])]) 55 56 (by kernel_rfl) rfl [.tmp 2] (by kernel_rfl) (args := [m0_1]) (by rw [e91]; exact H)

/-! spec.trLaplace -/
def t92 (P : Program) (g0_1 : Value) (sink1_1 : Value) (h : Heap) (K : Value → Heap → Prop) : Prop :=
  eop P (Instr.box 26 g0_1) h fun g2_1 h_1 =>
  pop P (Instr.fieldAt 26 g2_1 0) fun t11_1 =>
  rop P (Instr.loadAt 24 t11_1) h_1 fun t12_1 =>
  pop P (lenS 24 3 t12_1) fun t13_1 =>
  ∃ (I_1 : List Value → Heap → Prop) (μ_1 : List Value → Heap → Nat), I_1 [(Value.slice none 0 0), (Value.int IntKind.i64 0)] h_1 ∧
  ∀ (junk_1 : Nat → Value) (out5_1 : Value) (t14_1 : Value) (h_2 : Heap), I_1 [out5_1, t14_1] h_2 →
  pop P (binA .lss 3 t14_1 t13_1) fun t15_1 =>
  condM t15_1
  (pop P (Instr.indexAt 24 t12_1 t14_1) fun t17_1 =>
  rop P (Instr.loadAt 37 t17_1) h_2 fun t18_1 =>
  pop P (binE .eql 3 (.tmp 19) (.tmp 20) t14_1 sink1_1) fun t21_1 =>
  condM t21_1
  (pop P (binA .add 3 t14_1 (Value.int IntKind.i64 1)) fun t56_1 =>
  I_1 [out5_1, t56_1] h_2 ∧ μ_1 [out5_1, t56_1] h_2 < μ_1 [out5_1, t14_1] h_2)
  (pop P (Instr.fieldAt 26 g2_1 0) fun t22_1 =>
  rop P (Instr.loadAt 24 t22_1) h_2 fun t23_1 =>
  pop P (lenS 24 3 t23_1) fun t24_1 =>
  eop P (Instr.makeSlice 37 t24_1 t24_1) h_2 fun t25_1 h_3 =>
  pop P (lenS 37 3 t18_1) fun t29_1 =>
  pop P (Instr.indexAt 37 t25_1 t14_1) fun t30_1 =>
  uop P (Instr.storeAt 3 t30_1 t29_1) h_3 fun u_1 h_4 =>
  pop P (lenS 37 3 t18_1) fun t32_1 =>
  ∃ (I_2 : List Value → Heap → Prop) (μ_2 : List Value → Heap → Nat), I_2 [(Value.int IntKind.i64 0)] h_4 ∧
  ∀ (junk_2 : Nat → Value) (t33_1 : Value) (h_5 : Heap), I_2 [t33_1] h_5 →
  pop P (binA .lss 3 t33_1 t32_1) fun t34_1 =>
  condM t34_1
  (pop P (Instr.indexAt 37 t18_1 t33_1) fun t35_1 =>
  rop P (Instr.loadAt 3 t35_1) h_5 fun t36_1 =>
  pop P (Instr.indexAt 37 t25_1 t36_1) fun t39_1 =>
  rop P (Instr.loadAt 3 t39_1) h_5 fun t40_1 =>
  pop P (binA .sub 3 t40_1 (Value.int IntKind.i64 1)) fun t41_1 =>
  pop P (Instr.indexAt 37 t25_1 t36_1) fun t42_1 =>
  uop P (Instr.storeAt 3 t42_1 t41_1) h_5 fun u_2 h_6 =>
  pop P (binA .add 3 t33_1 (Value.int IntKind.i64 1)) fun t43_1 =>
  I_2 [t43_1] h_6 ∧ μ_2 [t43_1] h_6 < μ_2 [t33_1] h_5)
  (pop P (Instr.sliceAt 37 t25_1 none (some sink1_1) none) fun t47_1 =>
  pop P (binA .add 3 sink1_1 (Value.int IntKind.i64 1)) fun t51_1 =>
  pop P (Instr.sliceAt 37 t25_1 (some t51_1) none none) fun t52_1 =>
  callM P 121 #[t47_1] h_5 fun t48_1 h_7 =>
  eop P (appS 37 37 37 t48_1 t52_1) h_7 fun t53_1 h_8 =>
  eop P (Instr.buildSlice 24 1 #[(0, t53_1)]) h_8 fun t54_1 h_9 =>
  eop P (appS 24 24 24 out5_1 t54_1) h_9 fun t55_1 h_10 =>
  pop P (binA .add 3 t14_1 (Value.int IntKind.i64 1)) fun t56_2 =>
  I_1 [t55_1, t56_2] h_10 ∧ μ_1 [t55_1, t56_2] h_10 < μ_1 [out5_1, t14_1] h_2)))
  (K out5_1 h_2)
theorem e92 (g0_1 : Value) (sink1_1 : Value) (h : Heap) (K : Value → Heap → Prop) : wpA Try.prog 58 (anOf [(58, [5, 14]), (239226, [33])]) (bodyOf Try.f92) 1 (fun A h => resA Try.prog A h K [.tmp 4]) (fun _ _ _ => False) (fun A h => resA Try.prog A h K [.tmp 4]) (aargs [g0_1, sink1_1] 0) h = t92 Try.prog g0_1 sink1_1 h K := by kernel_rfl
theorem c92 (g0_1 : Value) (sink1_1 : Value) (h : Heap) (K : Value → Heap → Prop) (H : t92 Try.prog g0_1 sink1_1 h K) : callM Try.prog 92 #[g0_1, sink1_1] h K :=
  callM_of_wpA mixed (fn := Try.f92) Try.func92 (c := bodyOf Try.f92) rfl (of_decide_eq_true (by kernel_rfl)) (anOf [(58, [5, 14]), (239226, [33])]) 56 58 (by kernel_rfl) rfl [.tmp 4] (by kernel_rfl) (args := [g0_1, sink1_1]) (by rw [e92]; exact H)

/-! spec.trAll -/
def t93 (P : Program) (g0_1 : Value) (sink1_1 : Value) (most2_1 : Value) (h : Heap) (K : Value → Heap → Prop) : Prop :=
  eop P (Instr.box 26 g0_1) h fun g3_1 h_1 =>
  rop P (Instr.loadAt 26 g3_1) h_1 fun t8_1 =>
  pop P (Instr.fieldAt 26 g3_1 0) fun t10_1 =>
  rop P (Instr.loadAt 24 t10_1) h_1 fun t11_1 =>
  pop P (lenS 24 3 t11_1) fun t12_1 =>
  eop P (Instr.makeSlice 37 t12_1 t12_1) h_1 fun t13_1 h_2 =>
  (∀ w : World, w.heap = h_2 → (Instr.loadAt 24 t10_1).run P w = .ok t11_1 w) ∧
  (∀ w : World, w.heap = h_2 → (Instr.loadAt 26 g3_1).run P w = .ok t8_1 w) ∧
  pop P (Instr.build 126 #[(0, t8_1), (1, sink1_1), (2, t13_1), (4, most2_1)]) fun t15_1 =>
  eop P (Instr.box 126 t15_1) h_2 fun t16_1 h_3 =>
  (∀ w : World, w.heap = h_3 → (Instr.loadAt 24 t10_1).run P w = .ok t11_1 w) ∧
  (∀ w : World, w.heap = h_3 → (Instr.loadAt 26 g3_1).run P w = .ok t8_1 w) ∧
  callM P 131 #[t16_1, (Value.int IntKind.i64 0)] h_3 fun t18_1 h_4 =>
  pop P (nilS t16_1) fun t20_1 =>
  pop P (Instr.fieldAt 126 t20_1 3) fun t21_1 =>
  rop P (Instr.loadAt 24 t21_1) h_4 fun t22_1 =>
  K t22_1 h_4
theorem e93 (g0_1 : Value) (sink1_1 : Value) (most2_1 : Value) (h : Heap) (K : Value → Heap → Prop) : wpA Try.prog 23 (anOf []) (bodyOf Try.f93) 1 (fun A h => resA Try.prog A h K [.tmp 6]) (fun _ _ _ => False) (fun A h => resA Try.prog A h K [.tmp 6]) (aargs [g0_1, sink1_1, most2_1] 0) h = t93 Try.prog g0_1 sink1_1 most2_1 h K := by kernel_rfl
theorem c93 (g0_1 : Value) (sink1_1 : Value) (most2_1 : Value) (h : Heap) (K : Value → Heap → Prop) (H : t93 Try.prog g0_1 sink1_1 most2_1 h K) : callM Try.prog 93 #[g0_1, sink1_1, most2_1] h K :=
  callM_of_wpA mixed (fn := Try.f93) Try.func93 (c := bodyOf Try.f93) rfl (of_decide_eq_true (by kernel_rfl)) (anOf []) 20 23 (by kernel_rfl) rfl [.tmp 6] (by kernel_rfl) (args := [g0_1, sink1_1, most2_1]) (by rw [e93]; exact H)

/-! impl.hasSink -/
def t94 (P : Program) (g0_1 : Value) (sink1_1 : Value) (h : Heap) (K : Value → Heap → Prop) : Prop :=
  eop P (Instr.box 26 g0_1) h fun g2_1 h_1 =>
  rop P (Instr.loadAt 26 g2_1) h_1 fun t5_1 =>
  eop P (Instr.buildSlice 37 1 #[(0, sink1_1)]) h_1 fun t7_1 h_2 =>
  callM P 63 #[t5_1, t7_1] h_2 fun t8_1 h_3 =>
  guardM (asG t8_1 true) true (fun k_1 => rop P (Instr.loadAt 26 g2_1) h_3 fun t10_1 =>
  k_1 t10_1 h_3) h_3 fun t10_2 h_4 =>
  guardM (asG t8_1 true) true (fun k_2 => k_2 sink1_1 h_4) h_4 fun t11_1 h_5 =>
  guardM (asG t8_1 true) true (fun k_3 => callM P 98 #[t10_2, t11_1] h_5 fun t12_1 h_6 =>
  k_3 t12_1 h_6) h_5 fun t12_2 h_7 =>
  pop P (pickS t8_1 t12_2 (Value.bool false)) fun t13_1 =>
  K t13_1 h_7
theorem e94 (g0_1 : Value) (sink1_1 : Value) (h : Heap) (K : Value → Heap → Prop) : wpA Try.prog 14 (anOf []) (bodyOf Try.f94) 1 (fun A h => resA Try.prog A h K [.tmp 4]) (fun _ _ _ => False) (fun A h => resA Try.prog A h K [.tmp 4]) (aargs [g0_1, sink1_1] 0) h = t94 Try.prog g0_1 sink1_1 h K := by kernel_rfl
theorem c94 (g0_1 : Value) (sink1_1 : Value) (h : Heap) (K : Value → Heap → Prop) (H : t94 Try.prog g0_1 sink1_1 h K) : callM Try.prog 94 #[g0_1, sink1_1] h K :=
  callM_of_wpA mixed (fn := Try.f94) Try.func94 (c := bodyOf Try.f94) rfl (of_decide_eq_true (by kernel_rfl)) (anOf []) 12 14 (by kernel_rfl) rfl [.tmp 4] (by kernel_rfl) (args := [g0_1, sink1_1]) (by rw [e94]; exact H)

/-! spec.grLeads -/
def t95 (P : Program) (g0_1 : Value) (p1_1 : Value) (h : Heap) (K : Value → Heap → Prop) : Prop :=
  eop P (Instr.box 26 g0_1) h fun g2_1 h_1 =>
  pop P (Instr.fieldAt 26 g2_1 0) fun t6_1 =>
  rop P (Instr.loadAt 24 t6_1) h_1 fun t7_1 =>
  pop P (lenS 24 3 t7_1) fun t8_1 =>
  ∃ (I_1 : List Value → Heap → Prop) (μ_1 : List Value → Heap → Nat), I_1 [(Value.int IntKind.i64 0)] h_1 ∧
  ∀ (junk_1 : Nat → Value) (t9_1 : Value) (h_2 : Heap), I_1 [t9_1] h_2 →
  pop P (binA .lss 3 t9_1 t8_1) fun t10_1 =>
  condM t10_1
  (rop P (Instr.loadAt 26 g2_1) h_2 fun t12_1 =>
  callM P 115 #[t12_1, t9_1] h_2 fun t14_1 h_3 =>
  pop P (Instr.indexAt 37 t14_1 p1_1) fun t16_1 =>
  rop P (Instr.loadAt 3 t16_1) h_3 fun t17_1 =>
  pop P (binA .lss 3 t17_1 (Value.int IntKind.i64 0)) fun t18_1 =>
  condM t18_1
  (K (Value.bool false) h_3)
  (pop P (binA .add 3 t9_1 (Value.int IntKind.i64 1)) fun t19_1 =>
  I_1 [t19_1] h_3 ∧ μ_1 [t19_1] h_3 < μ_1 [t9_1] h_2))
  (K (Value.bool true) h_2)
theorem e95 (g0_1 : Value) (p1_1 : Value) (h : Heap) (K : Value → Heap → Prop) : wpA Try.prog 20 (anOf [(26, [9])]) (bodyOf Try.f95) 1 (fun A h => resA Try.prog A h K [.tmp 4]) (fun _ _ _ => False) (fun A h => resA Try.prog A h K [.tmp 4]) (aargs [g0_1, p1_1] 0) h = t95 Try.prog g0_1 p1_1 h K := by kernel_rfl
theorem c95 (g0_1 : Value) (p1_1 : Value) (h : Heap) (K : Value → Heap → Prop) (H : t95 Try.prog g0_1 p1_1 h K) : callM Try.prog 95 #[g0_1, p1_1] h K :=
  callM_of_wpA mixed (fn := Try.f95) Try.func95 (c := bodyOf Try.f95) rfl (of_decide_eq_true (by kernel_rfl)) (anOf [(26, [9])]) 18 20 (by kernel_rfl) rfl [.tmp 4] (by kernel_rfl) (args := [g0_1, p1_1]) (by rw [e95]; exact H)

/-! slices.ContainsFunc[[]int,int] -/
def t96 (P : Program) (s0_1 : Value) (f1_1 : Value) (h : Heap) (K : Value → Heap → Prop) : Prop :=
  callM P 132 #[s0_1, f1_1] h fun t7_1 h_1 =>
  pop P (binA .geq 3 t7_1 (Value.int IntKind.i64 0)) fun t8_1 =>
  K t8_1 h_1
theorem e96 (s0_1 : Value) (f1_1 : Value) (h : Heap) (K : Value → Heap → Prop) : wpA Try.prog 9 (anOf []) (bodyOf Try.f96) 1 (fun A h => resA Try.prog A h K [.tmp 4]) (fun _ _ _ => False) (fun A h => resA Try.prog A h K [.tmp 4]) (aargs [s0_1, f1_1] 0) h = t96 Try.prog s0_1 f1_1 h K := by kernel_rfl
theorem c96 (s0_1 : Value) (f1_1 : Value) (h : Heap) (K : Value → Heap → Prop) (H : t96 Try.prog s0_1 f1_1 h K) : callM Try.prog 96 #[s0_1, f1_1] h K :=
  callM_of_wpA mixed (fn := Try.f96) Try.func96 (c := bodyOf Try.f96) rfl (of_decide_eq_true (by kernel_rfl)) (anOf []) 7 9 (by kernel_rfl) rfl [.tmp 4] (by kernel_rfl) (args := [s0_1, f1_1]) (by rw [e96]; exact H)

/-! impl.DeterminantOf$1 -/
def t97 (P : Program) (x0_1 : Value) (h : Heap) (K : Value → Heap → Prop) : Prop :=
  callM P 71 #[x0_1, (Value.int IntKind.i64 (-10)), (Value.int IntKind.i64 10)] h fun t4_1 h_1 =>
  pop P (Op.unary .not t4_1) fun t5_1 =>
  K t5_1 h_1
theorem e97 (x0_1 : Value) (h : Heap) (K : Value → Heap → Prop) : wpA Try.prog 6 (anOf []) (bodyOf Try.f97) 1 (fun A h => resA Try.prog A h K [.tmp 2]) (fun _ _ _ => False) (fun A h => resA Try.prog A h K [.tmp 2]) (aargs [x0_1] 0) h = t97 Try.prog x0_1 h K := by kernel_rfl
theorem c97 (x0_1 : Value) (h : Heap) (K : Value → Heap → Prop) (H : t97 Try.prog x0_1 h K) : callM Try.prog 97 #[x0_1] h K :=
  callM_of_wpA mixed (fn := Try.f97) Try.func97 (c := bodyOf Try.f97) rfl (of_decide_eq_true (by kernel_rfl)) (anOf []) 5 6 (by kernel_rfl) rfl [.tmp 2] (by kernel_rfl) (args := [x0_1]) (by rw [e97]; exact H)

/-! (impl.Graph).leadsTo -/
def t98 (P : Program) (g0_1 : Value) (p1_1 : Value) (h : Heap) (K : Value → Heap → Prop) : Prop :=
  eop P (Instr.box 26 g0_1) h fun g2_1 h_1 =>
  pop P (Instr.fieldAt 26 g2_1 0) fun t6_1 =>
  rop P (Instr.loadAt 24 t6_1) h_1 fun t7_1 =>
  pop P (lenS 24 3 t7_1) fun t8_1 =>
  ∃ (I_1 : List Value → Heap → Prop) (μ_1 : List Value → Heap → Nat), I_1 [(Value.int IntKind.i64 0)] h_1 ∧
  ∀ (junk_1 : Nat → Value) (t9_1 : Value) (h_2 : Heap), I_1 [t9_1] h_2 →
  pop P (binA .lss 3 t9_1 t8_1) fun t10_1 =>
  condM t10_1
  (rop P (Instr.loadAt 26 g2_1) h_2 fun t12_1 =>
  callM P 110 #[t12_1, t9_1] h_2 fun t14_1 h_3 =>
  pop P (Instr.indexAt 37 t14_1 p1_1) fun t16_1 =>
  rop P (Instr.loadAt 3 t16_1) h_3 fun t17_1 =>
  pop P (binA .lss 3 t17_1 (Value.int IntKind.i64 0)) fun t18_1 =>
  condM t18_1
  (K (Value.bool false) h_3)
  (pop P (binA .add 3 t9_1 (Value.int IntKind.i64 1)) fun t19_1 =>
  I_1 [t19_1] h_3 ∧ μ_1 [t19_1] h_3 < μ_1 [t9_1] h_2))
  (K (Value.bool true) h_2)
theorem e98 (g0_1 : Value) (p1_1 : Value) (h : Heap) (K : Value → Heap → Prop) : wpA Try.prog 20 (anOf [(26, [9])]) (bodyOf Try.f98) 1 (fun A h => resA Try.prog A h K [.tmp 4]) (fun _ _ _ => False) (fun A h => resA Try.prog A h K [.tmp 4]) (aargs [g0_1, p1_1] 0) h = t98 Try.prog g0_1 p1_1 h K := by kernel_rfl
theorem c98 (g0_1 : Value) (p1_1 : Value) (h : Heap) (K : Value → Heap → Prop) (H : t98 Try.prog g0_1 p1_1 h K) : callM Try.prog 98 #[g0_1, p1_1] h K :=
  callM_of_wpA mixed (fn := Try.f98) Try.func98 (c := bodyOf Try.f98) rfl (of_decide_eq_true (by kernel_rfl)) (anOf [(26, [9])]) 18 20 (by kernel_rfl) rfl [.tmp 4] (by kernel_rfl) (args := [g0_1, p1_1]) (by rw [e98]; exact H)

/-! impl.areSinkRotors -/
def t99 (P : Program) (g0_1 : Value) (sink1_1 : Value) (rotors2_1 : Value) (h : Heap) (K : Value → Heap → Prop) : Prop :=
  eop P (Instr.box 26 g0_1) h fun g3_1 h_1 =>
  rop P (Instr.loadAt 26 g3_1) h_1 fun t7_1 =>
  eop P (Instr.buildSlice 37 1 #[(0, sink1_1)]) h_1 fun t9_1 h_2 =>
  callM P 63 #[t7_1, t9_1] h_2 fun t10_1 h_3 =>
  guardM (asG t10_1 true) true (fun k_1 => rop P (Instr.loadAt 26 g3_1) h_3 fun t12_1 =>
  k_1 t12_1 h_3) h_3 fun t12_2 h_4 =>
  guardM (asG t10_1 true) true (fun k_2 => k_2 rotors2_1 h_4) h_4 fun t13_1 h_5 =>
  guardM (asG t10_1 true) true (fun k_3 => callM P 123 #[t12_2, t13_1] h_5 fun t14_1 h_6 =>
  k_3 t14_1 h_6) h_5 fun t14_2 h_7 =>
  pop P (pickS t10_1 t14_2 (Value.bool false)) fun t15_1 =>
  guardM (asG t15_1 true) true (fun k_4 => k_4 rotors2_1 h_7) h_7 fun t17_1 h_8 =>
  guardM (asG t15_1 true) true (fun k_5 => k_5 sink1_1 h_8) h_8 fun t18_1 h_9 =>
  guardM (asG t15_1 true) true (fun k_6 => pop P (Instr.indexAt 37 t17_1 t18_1) fun t19_1 =>
  k_6 t19_1 h_9) h_9 fun t19_2 h_10 =>
  guardM (asG t15_1 true) true (fun k_7 => rop P (Instr.loadAt 3 t19_2) h_10 fun t20_1 =>
  k_7 t20_1 h_10) h_10 fun t20_2 h_11 =>
  guardM (asG t15_1 true) true (fun k_8 => pop P (binE .eql 3 (.tmp 20) (.const (Value.int IntKind.i64 0)) t20_2 (Value.int IntKind.i64 0)) fun t21_1 =>
  k_8 t21_1 h_11) h_11 fun t21_2 h_12 =>
  pop P (pickS t15_1 t21_2 (Value.bool false)) fun t22_1 =>
  K t22_1 h_12
theorem e99 (g0_1 : Value) (sink1_1 : Value) (rotors2_1 : Value) (h : Heap) (K : Value → Heap → Prop) : wpA Try.prog 23 (anOf []) (bodyOf Try.f99) 1 (fun A h => resA Try.prog A h K [.tmp 6]) (fun _ _ _ => False) (fun A h => resA Try.prog A h K [.tmp 6]) (aargs [g0_1, sink1_1, rotors2_1] 0) h = t99 Try.prog g0_1 sink1_1 rotors2_1 h K := by kernel_rfl
theorem c99 (g0_1 : Value) (sink1_1 : Value) (rotors2_1 : Value) (h : Heap) (K : Value → Heap → Prop) (H : t99 Try.prog g0_1 sink1_1 rotors2_1 h K) : callM Try.prog 99 #[g0_1, sink1_1, rotors2_1] h K :=
  callM_of_wpA mixed (fn := Try.f99) Try.func99 (c := bodyOf Try.f99) rfl (of_decide_eq_true (by kernel_rfl)) (anOf []) 20 23 (by kernel_rfl) rfl [.tmp 6] (by kernel_rfl) (args := [g0_1, sink1_1, rotors2_1]) (by rw [e99]; exact H)

/-! (impl.Graph).isTree -/
def t100 (P : Program) (g0_1 : Value) (sink1_1 : Value) (rotors2_1 : Value) (h : Heap) (K : Value → Heap → Prop) : Prop :=
  eop P (Instr.box 26 g0_1) h fun g3_1 h_1 =>
  rop P (Instr.loadAt 26 g3_1) h_1 fun t10_1 =>
  callM P 104 #[t10_1, sink1_1, rotors2_1] h_1 fun t13_1 h_2 =>
  pop P (Instr.extract t13_1 0) fun t14_1 =>
  pop P (Instr.extract t13_1 1) fun t15_1 =>
  K t15_1 h_2
theorem e100 (g0_1 : Value) (sink1_1 : Value) (rotors2_1 : Value) (h : Heap) (K : Value → Heap → Prop) : wpA Try.prog 17 (anOf []) (bodyOf Try.f100) 1 (fun A h => resA Try.prog A h K [.tmp 6]) (fun _ _ _ => False) (fun A h => resA Try.prog A h K [.tmp 6]) (aargs [g0_1, sink1_1, rotors2_1] 0) h = t100 Try.prog g0_1 sink1_1 rotors2_1 h K := by kernel_rfl
theorem c100 (g0_1 : Value) (sink1_1 : Value) (rotors2_1 : Value) (h : Heap) (K : Value → Heap → Prop) (H : t100 Try.prog g0_1 sink1_1 rotors2_1 h K) : callM Try.prog 100 #[g0_1, sink1_1, rotors2_1] h K :=
  callM_of_wpA mixed (fn := Try.f100) Try.func100 (c := bodyOf Try.f100) rfl (of_decide_eq_true (by kernel_rfl)) (anOf []) 14 17 (by kernel_rfl) rfl [.tmp 6] (by kernel_rfl) (args := [g0_1, sink1_1, rotors2_1]) (by rw [e100]; exact H)

/-! (*spec.l1Cur).rooted -/
def t101 (P : Program) (c0_1 : Value) (h : Heap) (K : Value → Heap → Prop) : Prop :=
  eop P (Instr.alloc 26 true (.tuple #[])) h fun t2_1 h_1 =>
  callM P 127 #[c0_1] h_1 fun t11_1 h_2 =>
  pop P (Instr.extract t11_1 0) fun t12_1 =>
  pop P (Instr.extract t11_1 1) fun t13_1 =>
  eop P (Instr.alloc 26 true (.tuple #[])) h_2 fun g5_1 h_3 =>
  uop P (Instr.storeAt 26 g5_1 t12_1) h_3 fun u_1 h_4 =>
  rop P (Instr.loadAt 26 g5_1) h_4 fun t14_1 =>
  callM P 72 #[t14_1, t13_1] h_4 fun t16_1 h_5 =>
  pop P (Op.unary .not t16_1) fun t17_1 =>
  condM t17_1
  (rop P (Instr.loadAt 26 g5_1) h_5 fun t18_1 =>
  uop P (Instr.storeAt 26 t2_1 t18_1) h_5 fun u_2 h_6 =>
  rop P (Instr.loadAt 26 t2_1) h_6 fun r_1 =>
  K (.tuple #[r_1, t13_1, (Value.slice none 0 0)]) h_6)
  (rop P (Instr.loadAt 26 g5_1) h_5 fun t20_1 =>
  callM P 95 #[t20_1, t13_1] h_5 fun t22_1 h_7 =>
  guardM (asG t22_1 true) true (fun k_1 => k_1 c0_1 h_7) h_7 fun t24_1 h_8 =>
  guardM (asG t22_1 true) true (fun k_2 => callM P 106 #[t24_1, (Value.int IntKind.i64 3)] h_8 fun t25_1 h_9 =>
  k_2 t25_1 h_9) h_8 fun t25_2 h_10 =>
  guardM (asG t22_1 true) true (fun k_3 => pop P (Op.unary .not t25_2) fun t26_1 =>
  k_3 t26_1 h_10) h_10 fun t26_2 h_11 =>
  pop P (pickS t22_1 t26_2 (Value.bool false)) fun t27_1 =>
  condM t27_1
  (rop P (Instr.loadAt 26 g5_1) h_11 fun t28_1 =>
  callM P 93 #[t28_1, t13_1, (Value.int IntKind.i64 20)] h_11 fun t30_1 h_12 =>
  rop P (Instr.loadAt 26 g5_1) h_12 fun t31_1 =>
  pop P (lenS 24 3 t30_1) fun t36_1 =>
  callM P 70 #[c0_1, t36_1] h_12 fun t37_1 h_13 =>
  (∀ w : World, w.heap = h_13 → (Instr.loadAt 26 g5_1).run P w = .ok t31_1 w) ∧
  pop P (Instr.indexAt 24 t30_1 t37_1) fun t38_1 =>
  rop P (Instr.loadAt 37 t38_1) h_13 fun t39_1 =>
  callM P 121 #[t39_1] h_13 fun t40_1 h_14 =>
  (∀ w : World, w.heap = h_14 → (Instr.loadAt 26 g5_1).run P w = .ok t31_1 w) ∧
  uop P (Instr.storeAt 26 t2_1 t31_1) h_14 fun u_3 h_15 =>
  rop P (Instr.loadAt 26 t2_1) h_15 fun r_2 =>
  K (.tuple #[r_2, t13_1, t40_1]) h_15)
  (rop P (Instr.loadAt 26 g5_1) h_11 fun t42_1 =>
  callM P 122 #[c0_1, t42_1] h_11 fun t43_1 h_16 =>
  eop P (Instr.alloc 114 true (.tuple #[])) h_16 fun w8_1 h_17 =>
  uop P (Instr.storeAt 114 w8_1 t43_1) h_17 fun u_4 h_18 =>
  ∃ J_1 : List Value → Heap → Prop, (callM P 106 #[c0_1, (Value.int IntKind.i64 8)] h_18 fun t45_1 h_19 =>
  pop P (Op.unary .not t45_1) fun t46_1 =>
  condM t46_1
  (pop P (Instr.fieldAt 114 w8_1 0) fun t47_1 =>
  rop P (Instr.loadAt 37 t47_1) h_19 fun t48_1 =>
  pop P (Instr.indexAt 37 t48_1 t13_1) fun t50_1 =>
  uop P (Instr.storeAt 3 t50_1 (Value.int IntKind.i64 0)) h_19 fun u_5 h_20 =>
  J_1 [] h_20)
  (J_1 [] h_19)) ∧
  ∀ (junk_1 : Nat → Value) (h_21 : Heap), J_1 [] h_21 →
  rop P (Instr.loadAt 26 g5_1) h_21 fun t51_1 =>
  pop P (Instr.fieldAt 114 w8_1 0) fun t53_1 =>
  rop P (Instr.loadAt 37 t53_1) h_21 fun t54_1 =>
  uop P (Instr.storeAt 26 t2_1 t51_1) h_21 fun u_6 h_22 =>
  (∀ w : World, w.heap = h_22 → (Instr.loadAt 37 t53_1).run P w = .ok t54_1 w) ∧
  rop P (Instr.loadAt 26 t2_1) h_22 fun r_3 =>
  K (.tuple #[r_3, t13_1, t54_1]) h_22))
theorem e101 (c0_1 : Value) (h : Heap) (K : Value → Heap → Prop) : wpA Try.prog 55 (anOf [(63, [])]) (bodyOf Try.f101) 1 (fun A h => resA Try.prog A h K [.cell 2 26, .tmp 3, .tmp 4]) (fun _ _ _ => False) (fun A h => resA Try.prog A h K [.cell 2 26, .tmp 3, .tmp 4]) (aargs [c0_1] 0) h = t101 Try.prog c0_1 h K := by kernel_rfl
theorem c101 (c0_1 : Value) (h : Heap) (K : Value → Heap → Prop) (H : t101 Try.prog c0_1 h K) : callM Try.prog 101 #[c0_1] h K :=
  callM_of_wpA mixed (fn := Try.f101) Try.func101 (c := bodyOf Try.f101) rfl (of_decide_eq_true (by kernel_rfl)) (anOf [(63, [])]) 54 55 (by kernel_rfl) rfl [.cell 2 26, .tmp 3, .tmp 4] (by kernel_rfl) (args := [c0_1]) (by rw [e101]; exact H)

/-! spec.trGood -/
def t102 (P : Program) (g0_1 : Value) (sink1_1 : Value) (rotors2_1 : Value) (h : Heap) (K : Value → Heap → Prop) : Prop :=
  eop P (Instr.box 26 g0_1) h fun g3_1 h_1 =>
  rop P (Instr.loadAt 26 g3_1) h_1 fun t7_1 =>
  callM P 72 #[t7_1, sink1_1] h_1 fun t9_1 h_2 =>
  guardM (asG t9_1 true) true (fun k_1 => rop P (Instr.loadAt 26 g3_1) h_2 fun t11_1 =>
  k_1 t11_1 h_2) h_2 fun t11_2 h_3 =>
  guardM (asG t9_1 true) true (fun k_2 => k_2 rotors2_1 h_3) h_3 fun t12_1 h_4 =>
  guardM (asG t9_1 true) true (fun k_3 => k_3 sink1_1 h_4) h_4 fun t13_1 h_5 =>
  guardM (asG t9_1 true) true (fun k_4 => pop P (Instr.build 114 #[(0, t12_1), (1, t13_1)]) fun t14_1 =>
  k_4 t14_1 h_5) h_5 fun t14_2 h_6 =>
  guardM (asG t9_1 true) true (fun k_5 => callM P 125 #[t11_2, t14_2] h_6 fun t15_1 h_7 =>
  k_5 t15_1 h_7) h_6 fun t15_2 h_8 =>
  pop P (pickS t9_1 t15_2 (Value.bool false)) fun t16_1 =>
  guardM (asG t16_1 true) true (fun k_6 => k_6 rotors2_1 h_8) h_8 fun t18_1 h_9 =>
  guardM (asG t16_1 true) true (fun k_7 => k_7 sink1_1 h_9) h_9 fun t19_1 h_10 =>
  guardM (asG t16_1 true) true (fun k_8 => pop P (Instr.indexAt 37 t18_1 t19_1) fun t20_1 =>
  k_8 t20_1 h_10) h_10 fun t20_2 h_11 =>
  guardM (asG t16_1 true) true (fun k_9 => rop P (Instr.loadAt 3 t20_2) h_11 fun t21_1 =>
  k_9 t21_1 h_11) h_11 fun t21_2 h_12 =>
  guardM (asG t16_1 true) true (fun k_10 => pop P (binE .eql 3 (.tmp 21) (.const (Value.int IntKind.i64 0)) t21_2 (Value.int IntKind.i64 0)) fun t22_1 =>
  k_10 t22_1 h_12) h_12 fun t22_2 h_13 =>
  pop P (pickS t16_1 t22_2 (Value.bool false)) fun t23_1 =>
  K t23_1 h_13
theorem e102 (g0_1 : Value) (sink1_1 : Value) (rotors2_1 : Value) (h : Heap) (K : Value → Heap → Prop) : wpA Try.prog 24 (anOf []) (bodyOf Try.f102) 1 (fun A h => resA Try.prog A h K [.tmp 6]) (fun _ _ _ => False) (fun A h => resA Try.prog A h K [.tmp 6]) (aargs [g0_1, sink1_1, rotors2_1] 0) h = t102 Try.prog g0_1 sink1_1 rotors2_1 h K := by kernel_rfl
theorem c102 (g0_1 : Value) (sink1_1 : Value) (rotors2_1 : Value) (h : Heap) (K : Value → Heap → Prop) (H : t102 Try.prog g0_1 sink1_1 rotors2_1 h K) : callM Try.prog 102 #[g0_1, sink1_1, rotors2_1] h K :=
  callM_of_wpA mixed (fn := Try.f102) Try.func102 (c := bodyOf Try.f102) rfl (of_decide_eq_true (by kernel_rfl)) (anOf []) 21 24 (by kernel_rfl) rfl [.tmp 6] (by kernel_rfl) (args := [g0_1, sink1_1, rotors2_1]) (by rw [e102]; exact H)

/-! spec.trIs -/
def t103 (P : Program) (g0_1 : Value) (sink1_1 : Value) (rotors2_1 : Value) (h : Heap) (K : Value → Heap → Prop) : Prop :=
  eop P (Instr.box 26 g0_1) h fun g3_1 h_1 =>
  pop P (Instr.fieldAt 26 g3_1 0) fun t8_1 =>
  rop P (Instr.loadAt 24 t8_1) h_1 fun t9_1 =>
  pop P (lenS 24 3 t9_1) fun t10_1 =>
  ∃ (I_1 : List Value → Heap → Prop) (μ_1 : List Value → Heap → Nat), I_1 [(Value.int IntKind.i64 0)] h_1 ∧
  ∀ (junk_1 : Nat → Value) (t11_1 : Value) (h_2 : Heap), I_1 [t11_1] h_2 →
  pop P (binA .lss 3 t11_1 t10_1) fun t12_1 =>
  condM t12_1
  (rop P (Instr.loadAt 26 g3_1) h_2 fun t14_1 =>
  callM P 105 #[t14_1, sink1_1, rotors2_1, t11_1] h_2 fun t18_1 h_3 =>
  pop P (binA .lss 3 t18_1 (Value.int IntKind.i64 0)) fun t19_1 =>
  condM t19_1
  (K (Value.bool false) h_3)
  (pop P (binA .add 3 t11_1 (Value.int IntKind.i64 1)) fun t20_1 =>
  I_1 [t20_1] h_3 ∧ μ_1 [t20_1] h_3 < μ_1 [t11_1] h_2))
  (K (Value.bool true) h_2)
theorem e103 (g0_1 : Value) (sink1_1 : Value) (rotors2_1 : Value) (h : Heap) (K : Value → Heap → Prop) : wpA Try.prog 21 (anOf [(26, [11])]) (bodyOf Try.f103) 1 (fun A h => resA Try.prog A h K [.tmp 6]) (fun _ _ _ => False) (fun A h => resA Try.prog A h K [.tmp 6]) (aargs [g0_1, sink1_1, rotors2_1] 0) h = t103 Try.prog g0_1 sink1_1 rotors2_1 h K := by kernel_rfl
theorem c103 (g0_1 : Value) (sink1_1 : Value) (rotors2_1 : Value) (h : Heap) (K : Value → Heap → Prop) (H : t103 Try.prog g0_1 sink1_1 rotors2_1 h K) : callM Try.prog 103 #[g0_1, sink1_1, rotors2_1] h K :=
  callM_of_wpA mixed (fn := Try.f103) Try.func103 (c := bodyOf Try.f103) rfl (of_decide_eq_true (by kernel_rfl)) (anOf [(26, [11])]) 18 21 (by kernel_rfl) rfl [.tmp 6] (by kernel_rfl) (args := [g0_1, sink1_1, rotors2_1]) (by rw [e103]; exact H)

/-! (impl.Graph).treeWays -/
def t104 (P : Program) (g0_1 : Value) (sink1_1 : Value) (rotors2_1 : Value) (h : Heap) (K : Value → Heap → Prop) : Prop :=
  eop P (Instr.box 26 g0_1) h fun g3_1 h_1 =>
  eop P (Instr.buildSlice 37 0 #[]) h_1 fun t12_1 h_2 =>
  pop P (Instr.fieldAt 26 g3_1 0) fun t13_1 =>
  rop P (Instr.loadAt 24 t13_1) h_2 fun t14_1 =>
  pop P (lenS 24 3 t14_1) fun t15_1 =>
  ∃ (I_1 : List Value → Heap → Prop) (μ_1 : List Value → Heap → Nat), I_1 [t12_1, (Value.int IntKind.i64 0)] h_2 ∧
  ∀ (junk_1 : Nat → Value) (out8_1 : Value) (t16_1 : Value) (h_3 : Heap), I_1 [out8_1, t16_1] h_3 →
  pop P (binA .lss 3 t16_1 t15_1) fun t17_1 =>
  condM t17_1
  (∃ (I_2 : List Value → Heap → Prop) (μ_2 : List Value → Heap → Nat), I_2 [(Value.int IntKind.i64 0), t16_1] h_3 ∧
  ∀ (junk_2 : Nat → Value) (many10_1 : Value) (at11_1 : Value) (h_4 : Heap), I_2 [many10_1, at11_1] h_4 →
  pop P (binE .neq 3 (.tmp 20) (.tmp 21) at11_1 sink1_1) fun t22_1 =>
  condM t22_1
  (rop P (Instr.loadAt 26 g3_1) h_4 fun t25_1 =>
  callM P 133 #[t25_1, rotors2_1, at11_1] h_4 fun t28_1 h_5 =>
  pop P (binA .lss 3 t28_1 (Value.int IntKind.i64 0)) fun t30_1 =>
  guardM (asG t30_1 false) false (fun k_1 => k_1 many10_1 h_5) h_5 fun t32_1 h_6 =>
  guardM (asG t30_1 false) false (fun k_2 => pop P (Instr.fieldAt 26 g3_1 0) fun t33_1 =>
  k_2 t33_1 h_6) h_6 fun t33_2 h_7 =>
  guardM (asG t30_1 false) false (fun k_3 => rop P (Instr.loadAt 24 t33_2) h_7 fun t34_1 =>
  k_3 t34_1 h_7) h_7 fun t34_2 h_8 =>
  guardM (asG t30_1 false) false (fun k_4 => pop P (lenS 24 3 t34_2) fun t35_1 =>
  k_4 t35_1 h_8) h_8 fun t35_2 h_9 =>
  guardM (asG t30_1 false) false (fun k_5 => pop P (binA .gtr 3 t32_1 t35_2) fun t36_1 =>
  k_5 t36_1 h_9) h_9 fun t36_2 h_10 =>
  pop P (pickS t30_1 (Value.bool true) t36_2) fun t37_1 =>
  condM t37_1
  (K (.tuple #[(Value.slice none 0 0), (Value.bool false)]) h_10)
  (pop P (binA .add 3 many10_1 (Value.int IntKind.i64 1)) fun t24_1 =>
  I_2 [t24_1, t28_1] h_10 ∧ μ_2 [t24_1, t28_1] h_10 < μ_2 [many10_1, at11_1] h_4))
  (eop P (Instr.buildSlice 37 1 #[(0, many10_1)]) h_4 fun t40_1 h_11 =>
  eop P (appS 37 37 37 out8_1 t40_1) h_11 fun t41_1 h_12 =>
  pop P (binA .add 3 t16_1 (Value.int IntKind.i64 1)) fun t42_1 =>
  I_1 [t41_1, t42_1] h_12 ∧ μ_1 [t41_1, t42_1] h_12 < μ_1 [out8_1, t16_1] h_3))
  (K (.tuple #[out8_1, (Value.bool true)]) h_3)
theorem e104 (g0_1 : Value) (sink1_1 : Value) (rotors2_1 : Value) (h : Heap) (K : Value → Heap → Prop) : wpA Try.prog 44 (anOf [(58, [8, 16]), (59802, [10, 11])]) (bodyOf Try.f104) 1 (fun A h => resA Try.prog A h K [.tmp 6, .tmp 7]) (fun _ _ _ => False) (fun A h => resA Try.prog A h K [.tmp 6, .tmp 7]) (aargs [g0_1, sink1_1, rotors2_1] 0) h = t104 Try.prog g0_1 sink1_1 rotors2_1 h K := by kernel_rfl
theorem c104 (g0_1 : Value) (sink1_1 : Value) (rotors2_1 : Value) (h : Heap) (K : Value → Heap → Prop) (H : t104 Try.prog g0_1 sink1_1 rotors2_1 h K) : callM Try.prog 104 #[g0_1, sink1_1, rotors2_1] h K :=
  callM_of_wpA mixed (fn := Try.f104) Try.func104 (c := bodyOf Try.f104) rfl (of_decide_eq_true (by kernel_rfl)) (anOf [(58, [8, 16]), (59802, [10, 11])]) 41 44 (by kernel_rfl) rfl [.tmp 6, .tmp 7] (by kernel_rfl) (args := [g0_1, sink1_1, rotors2_1]) (by rw [e104]; exact H)

/-! spec.trFar -/
def t105 (P : Program) (g0_1 : Value) (sink1_1 : Value) (rotors2_1 : Value) (p3_1 : Value) (h : Heap) (K : Value → Heap → Prop) : Prop :=
  eop P (Instr.box 26 g0_1) h fun g4_1 h_1 =>
  ∃ (I_1 : List Value → Heap → Prop) (μ_1 : List Value → Heap → Nat), I_1 [p3_1, (Value.int IntKind.i64 0)] h_1 ∧
  ∀ (junk_1 : Nat → Value) (p3_2 : Value) (n9_1 : Value) (h_2 : Heap), I_1 [p3_2, n9_1] h_2 →
  pop P (Instr.fieldAt 26 g4_1 0) fun t11_1 =>
  rop P (Instr.loadAt 24 t11_1) h_2 fun t12_1 =>
  pop P (lenS 24 3 t12_1) fun t13_1 =>
  pop P (binA .lss 3 n9_1 t13_1) fun t14_1 =>
  condM t14_1
  (pop P (binE .eql 3 (.tmp 17) (.tmp 18) p3_2 sink1_1) fun t19_1 =>
  condM t19_1
  (K n9_1 h_2)
  (rop P (Instr.loadAt 26 g4_1) h_2 fun t21_1 =>
  callM P 134 #[t21_1, rotors2_1, p3_2] h_2 fun t24_1 h_3 =>
  pop P (binA .lss 3 t24_1 (Value.int IntKind.i64 0)) fun t26_1 =>
  condM t26_1
  (K (Value.int IntKind.i64 (-1)) h_3)
  (pop P (binA .add 3 n9_1 (Value.int IntKind.i64 1)) fun t16_1 =>
  I_1 [t24_1, t16_1] h_3 ∧ μ_1 [t24_1, t16_1] h_3 < μ_1 [p3_2, n9_1] h_2)))
  (K (Value.int IntKind.i64 (-1)) h_2)
theorem e105 (g0_1 : Value) (sink1_1 : Value) (rotors2_1 : Value) (p3_1 : Value) (h : Heap) (K : Value → Heap → Prop) : wpA Try.prog 27 (anOf [(26, [3, 9])]) (bodyOf Try.f105) 1 (fun A h => resA Try.prog A h K [.tmp 8]) (fun _ _ _ => False) (fun A h => resA Try.prog A h K [.tmp 8]) (aargs [g0_1, sink1_1, rotors2_1, p3_1] 0) h = t105 Try.prog g0_1 sink1_1 rotors2_1 p3_1 h K := by kernel_rfl
theorem c105 (g0_1 : Value) (sink1_1 : Value) (rotors2_1 : Value) (p3_1 : Value) (h : Heap) (K : Value → Heap → Prop) (H : t105 Try.prog g0_1 sink1_1 rotors2_1 p3_1 h K) : callM Try.prog 105 #[g0_1, sink1_1, rotors2_1, p3_1] h K :=
  callM_of_wpA mixed (fn := Try.f105) Try.func105 (c := bodyOf Try.f105) rfl (of_decide_eq_true (by kernel_rfl)) (anOf [(26, [3, 9])]) 23 27 (by kernel_rfl) rfl [.tmp 8] (by kernel_rfl) (args := [g0_1, sink1_1, rotors2_1, p3_1]) (by rw [e105]; exact H)

/-! (*spec.l1Cur).one -/
def t106 (P : Program) (c0_1 : Value) (n1_1 : Value) (h : Heap) (K : Value → Heap → Prop) : Prop :=
  callM P 70 #[c0_1, n1_1] h fun t7_1 h_1 =>
  pop P (binE .eql 3 (.tmp 7) (.const (Value.int IntKind.i64 0)) t7_1 (Value.int IntKind.i64 0)) fun t8_1 =>
  K t8_1 h_1
theorem e106 (c0_1 : Value) (n1_1 : Value) (h : Heap) (K : Value → Heap → Prop) : wpA Try.prog 9 (anOf []) (bodyOf Try.f106) 1 (fun A h => resA Try.prog A h K [.tmp 4]) (fun _ _ _ => False) (fun A h => resA Try.prog A h K [.tmp 4]) (aargs [c0_1, n1_1] 0) h = t106 Try.prog c0_1 n1_1 h K := by kernel_rfl
theorem c106 (c0_1 : Value) (n1_1 : Value) (h : Heap) (K : Value → Heap → Prop) (H : t106 Try.prog c0_1 n1_1 h K) : callM Try.prog 106 #[c0_1, n1_1] h K :=
  callM_of_wpA mixed (fn := Try.f106) Try.func106 (c := bodyOf Try.f106) rfl (of_decide_eq_true (by kernel_rfl)) (anOf []) 7 9 (by kernel_rfl) rfl [.tmp 4] (by kernel_rfl) (args := [c0_1, n1_1]) (by rw [e106]; exact H)

/-! (*spec.l1Cur).among -/
def t107 (P : Program) (c0_1 : Value) (list1_1 : Value) (h : Heap) (K : Value → Heap → Prop) : Prop :=
  pop P (lenS 37 3 list1_1) fun t8_1 =>
  callM P 70 #[c0_1, t8_1] h fun t9_1 h_1 =>
  pop P (Instr.indexAt 37 list1_1 t9_1) fun t10_1 =>
  rop P (Instr.loadAt 3 t10_1) h_1 fun t11_1 =>
  K t11_1 h_1
theorem e107 (c0_1 : Value) (list1_1 : Value) (h : Heap) (K : Value → Heap → Prop) : wpA Try.prog 12 (anOf []) (bodyOf Try.f107) 1 (fun A h => resA Try.prog A h K [.tmp 4]) (fun _ _ _ => False) (fun A h => resA Try.prog A h K [.tmp 4]) (aargs [c0_1, list1_1] 0) h = t107 Try.prog c0_1 list1_1 h K := by kernel_rfl
theorem c107 (c0_1 : Value) (list1_1 : Value) (h : Heap) (K : Value → Heap → Prop) (H : t107 Try.prog c0_1 list1_1 h K) : callM Try.prog 107 #[c0_1, list1_1] h K :=
  callM_of_wpA mixed (fn := Try.f107) Try.func107 (c := bodyOf Try.f107) rfl (of_decide_eq_true (by kernel_rfl)) (anOf []) 10 12 (by kernel_rfl) rfl [.tmp 4] (by kernel_rfl) (args := [c0_1, list1_1]) (by rw [e107]; exact H)

/-! spec.l1All -/
def t108 (P : Program) (l0_1 : Value) (lo1_1 : Value) (hi2_1 : Value) (h : Heap) (K : Value → Heap → Prop) : Prop :=
  pop P (lenS 37 3 l0_1) fun t10_1 =>
  ∃ (I_1 : List Value → Heap → Prop) (μ_1 : List Value → Heap → Nat), I_1 [(Value.int IntKind.i64 0)] h ∧
  ∀ (junk_1 : Nat → Value) (t11_1 : Value) (h_1 : Heap), I_1 [t11_1] h_1 →
  pop P (binA .lss 3 t11_1 t10_1) fun t12_1 =>
  condM t12_1
  (pop P (Instr.indexAt 37 l0_1 t11_1) fun t13_1 =>
  rop P (Instr.loadAt 3 t13_1) h_1 fun t14_1 =>
  callM P 73 #[t14_1, lo1_1, hi2_1] h_1 fun t18_1 h_2 =>
  pop P (Op.unary .not t18_1) fun t19_1 =>
  condM t19_1
  (K (Value.bool false) h_2)
  (pop P (binA .add 3 t11_1 (Value.int IntKind.i64 1)) fun t20_1 =>
  I_1 [t20_1] h_2 ∧ μ_1 [t20_1] h_2 < μ_1 [t11_1] h_1))
  (K (Value.bool true) h_1)
theorem e108 (l0_1 : Value) (lo1_1 : Value) (hi2_1 : Value) (h : Heap) (K : Value → Heap → Prop) : wpA Try.prog 21 (anOf [(26, [11])]) (bodyOf Try.f108) 1 (fun A h => resA Try.prog A h K [.tmp 6]) (fun _ _ _ => False) (fun A h => resA Try.prog A h K [.tmp 6]) (aargs [l0_1, lo1_1, hi2_1] 0) h = t108 Try.prog l0_1 lo1_1 hi2_1 h K := by kernel_rfl
theorem c108 (l0_1 : Value) (lo1_1 : Value) (hi2_1 : Value) (h : Heap) (K : Value → Heap → Prop) (H : t108 Try.prog l0_1 lo1_1 hi2_1 h K) : callM Try.prog 108 #[l0_1, lo1_1, hi2_1] h K :=
  callM_of_wpA mixed (fn := Try.f108) Try.func108 (c := bodyOf Try.f108) rfl (of_decide_eq_true (by kernel_rfl)) (anOf [(26, [11])]) 18 21 (by kernel_rfl) rfl [.tmp 6] (by kernel_rfl) (args := [l0_1, lo1_1, hi2_1]) (by rw [e108]; exact H)

/-! (*spec.l1Cur).balanced -/
def t109 (P : Program) (c0_1 : Value) (h : Heap) (K : Value → Heap → Prop) : Prop :=
  eop P (Instr.alloc 26 true (.tuple #[])) h fun t2_1 h_1 =>
  callM P 106 #[c0_1, (Value.int IntKind.i64 6)] h_1 fun t10_1 h_2 =>
  condM t10_1
  (callM P 68 #[c0_1] h_2 fun t12_1 h_3 =>
  uop P (Instr.storeAt 26 t2_1 t12_1) h_3 fun u_1 h_4 =>
  rop P (Instr.loadAt 26 t2_1) h_4 fun r_1 =>
  K r_1 h_4)
  (callM P 70 #[c0_1, (Value.int IntKind.i64 5)] h_2 fun t14_1 h_5 =>
  pop P (binA .add 3 (Value.int IntKind.i64 1) t14_1) fun t15_1 =>
  callM P 106 #[c0_1, (Value.int IntKind.i64 2)] h_5 fun t18_1 h_6 =>
  callM P 135 #[t15_1, t18_1] h_6 fun t19_1 h_7 =>
  eop P (Instr.alloc 26 true (.tuple #[])) h_7 fun g4_1 h_8 =>
  uop P (Instr.storeAt 26 g4_1 t19_1) h_8 fun u_2 h_9 =>
  callM P 70 #[c0_1, (Value.int IntKind.i64 3)] h_9 fun t21_1 h_10 =>
  ∃ (I_1 : List Value → Heap → Prop) (μ_1 : List Value → Heap → Nat), I_1 [t21_1] h_10 ∧
  ∀ (junk_1 : Nat → Value) (k5_1 : Value) (h_11 : Heap), I_1 [k5_1] h_11 →
  pop P (binA .gtr 3 k5_1 (Value.int IntKind.i64 0)) fun t23_1 =>
  condM t23_1
  (callM P 136 #[c0_1, t15_1] h_11 fun t28_1 h_12 =>
  callM P 70 #[c0_1, t15_1] h_12 fun t31_1 h_13 =>
  pop P (binA .add 3 (Value.int IntKind.i64 1) t31_1) fun t32_1 =>
  ∃ (I_2 : List Value → Heap → Prop) (μ_2 : List Value → Heap → Nat), I_2 [(Value.int IntKind.i64 0)] h_13 ∧
  ∀ (junk_2 : Nat → Value) (i8_1 : Value) (h_14 : Heap), I_2 [i8_1] h_14 →
  pop P (binA .lss 3 i8_1 t32_1) fun t35_1 =>
  condM t35_1
  (pop P (Instr.fieldAt 26 g4_1 0) fun t38_1 =>
  rop P (Instr.loadAt 24 t38_1) h_14 fun t39_1 =>
  pop P (Instr.indexAt 37 t28_1 i8_1) fun t42_1 =>
  rop P (Instr.loadAt 3 t42_1) h_14 fun t43_1 =>
  pop P (Instr.fieldAt 26 g4_1 0) fun t44_1 =>
  rop P (Instr.loadAt 24 t44_1) h_14 fun t45_1 =>
  pop P (Instr.indexAt 37 t28_1 i8_1) fun t48_1 =>
  rop P (Instr.loadAt 3 t48_1) h_14 fun t49_1 =>
  pop P (Instr.indexAt 24 t45_1 t49_1) fun t50_1 =>
  rop P (Instr.loadAt 37 t50_1) h_14 fun t51_1 =>
  pop P (binA .add 3 i8_1 (Value.int IntKind.i64 1)) fun t54_1 =>
  pop P (binA .rem 3 t54_1 t32_1) fun t56_1 =>
  pop P (Instr.indexAt 37 t28_1 t56_1) fun t57_1 =>
  rop P (Instr.loadAt 3 t57_1) h_14 fun t58_1 =>
  eop P (Instr.buildSlice 37 1 #[(0, t58_1)]) h_14 fun t59_1 h_15 =>
  (∀ w : World, w.heap = h_15 → (Instr.loadAt 37 t50_1).run P w = .ok t51_1 w) ∧
  (∀ w : World, w.heap = h_15 → (Instr.loadAt 3 t48_1).run P w = .ok t49_1 w) ∧
  (∀ w : World, w.heap = h_15 → (Instr.loadAt 24 t44_1).run P w = .ok t45_1 w) ∧
  (∀ w : World, w.heap = h_15 → (Instr.loadAt 3 t42_1).run P w = .ok t43_1 w) ∧
  (∀ w : World, w.heap = h_15 → (Instr.loadAt 24 t38_1).run P w = .ok t39_1 w) ∧
  eop P (appS 37 37 37 t51_1 t59_1) h_15 fun t60_1 h_16 =>
  (∀ w : World, w.heap = h_16 → (Instr.loadAt 3 t48_1).run P w = .ok t49_1 w) ∧
  (∀ w : World, w.heap = h_16 → (Instr.loadAt 24 t44_1).run P w = .ok t45_1 w) ∧
  (∀ w : World, w.heap = h_16 → (Instr.loadAt 3 t42_1).run P w = .ok t43_1 w) ∧
  (∀ w : World, w.heap = h_16 → (Instr.loadAt 24 t38_1).run P w = .ok t39_1 w) ∧
  pop P (Instr.indexAt 24 t39_1 t43_1) fun t61_1 =>
  uop P (Instr.storeAt 37 t61_1 t60_1) h_16 fun u_3 h_17 =>
  pop P (binA .add 3 i8_1 (Value.int IntKind.i64 1)) fun t37_1 =>
  I_2 [t37_1] h_17 ∧ μ_2 [t37_1] h_17 < μ_2 [i8_1] h_14)
  (pop P (binA .sub 3 k5_1 (Value.int IntKind.i64 1)) fun t25_1 =>
  I_1 [t25_1] h_14 ∧ μ_1 [t25_1] h_14 < μ_1 [k5_1] h_11))
  (rop P (Instr.loadAt 26 g4_1) h_11 fun t62_1 =>
  uop P (Instr.storeAt 26 t2_1 t62_1) h_11 fun u_4 h_18 =>
  rop P (Instr.loadAt 26 t2_1) h_18 fun r_2 =>
  K r_2 h_18))
theorem e109 (c0_1 : Value) (h : Heap) (K : Value → Heap → Prop) : wpA Try.prog 63 (anOf [(250, [5]), (64078, [8])]) (bodyOf Try.f109) 1 (fun A h => resA Try.prog A h K [.cell 2 26]) (fun _ _ _ => False) (fun A h => resA Try.prog A h K [.cell 2 26]) (aargs [c0_1] 0) h = t109 Try.prog c0_1 h K := by kernel_rfl
theorem c109 (c0_1 : Value) (h : Heap) (K : Value → Heap → Prop) (H : t109 Try.prog c0_1 h K) : callM Try.prog 109 #[c0_1] h K :=
  callM_of_wpA mixed (fn := Try.f109) Try.func109 (c := bodyOf Try.f109) rfl (of_decide_eq_true (by kernel_rfl)) (anOf [(250, [5]), (64078, [8])]) 62 63 (by kernel_rfl) rfl [.cell 2 26] (by kernel_rfl) (args := [c0_1]) (by rw [e109]; exact H)

/-! (impl.Graph).lengths -/
def t110 (P : Program) (g0_1 : Value) (p1_1 : Value) (h : Heap) (K : Value → Heap → Prop) : Prop :=
  eop P (Instr.box 26 g0_1) h fun g2_1 h_1 =>
  eop P (Instr.buildSlice 37 1 #[(0, (Value.int IntKind.i64 (-1)))]) h_1 fun t9_1 h_2 =>
  pop P (Instr.fieldAt 26 g2_1 0) fun t10_1 =>
  rop P (Instr.loadAt 24 t10_1) h_2 fun t11_1 =>
  pop P (lenS 24 3 t11_1) fun t12_1 =>
  callM P 137 #[t9_1, t12_1] h_2 fun t13_1 h_3 =>
  pop P (Instr.indexAt 37 t13_1 p1_1) fun t16_1 =>
  uop P (Instr.storeAt 3 t16_1 (Value.int IntKind.i64 0)) h_3 fun u_1 h_4 =>
  eop P (Instr.buildSlice 37 1 #[(0, p1_1)]) h_4 fun t18_1 h_5 =>
  ∃ (I_1 : List Value → Heap → Prop) (μ_1 : List Value → Heap → Nat), I_1 [t18_1] h_5 ∧
  ∀ (junk_1 : Nat → Value) (list6_1 : Value) (h_6 : Heap), I_1 [list6_1] h_6 →
  pop P (lenS 37 3 list6_1) fun t20_1 =>
  pop P (binA .gtr 3 t20_1 (Value.int IntKind.i64 0)) fun t21_1 =>
  condM t21_1
  (pop P (Instr.fieldAt 26 g2_1 0) fun t24_1 =>
  rop P (Instr.loadAt 24 t24_1) h_6 fun t25_1 =>
  pop P (Instr.indexAt 37 list6_1 (Value.int IntKind.i64 0)) fun t27_1 =>
  rop P (Instr.loadAt 3 t27_1) h_6 fun t28_1 =>
  pop P (Instr.indexAt 24 t25_1 t28_1) fun t29_1 =>
  rop P (Instr.loadAt 37 t29_1) h_6 fun t30_1 =>
  pop P (lenS 37 3 t30_1) fun t31_1 =>
  ∃ (I_2 : List Value → Heap → Prop) (μ_2 : List Value → Heap → Nat), I_2 [list6_1, (Value.int IntKind.i64 0)] h_6 ∧
  ∀ (junk_2 : Nat → Value) (list6_2 : Value) (t32_1 : Value) (h_7 : Heap), I_2 [list6_2, t32_1] h_7 →
  pop P (binA .lss 3 t32_1 t31_1) fun t33_1 =>
  condM t33_1
  (pop P (Instr.indexAt 37 t30_1 t32_1) fun t34_1 =>
  rop P (Instr.loadAt 3 t34_1) h_7 fun t35_1 =>
  pop P (Instr.indexAt 37 t13_1 t35_1) fun t38_1 =>
  rop P (Instr.loadAt 3 t38_1) h_7 fun t39_1 =>
  pop P (binA .lss 3 t39_1 (Value.int IntKind.i64 0)) fun t40_1 =>
  condM t40_1
  (pop P (Instr.indexAt 37 list6_2 (Value.int IntKind.i64 0)) fun t45_1 =>
  rop P (Instr.loadAt 3 t45_1) h_7 fun t46_1 =>
  pop P (Instr.indexAt 37 t13_1 t46_1) fun t47_1 =>
  rop P (Instr.loadAt 3 t47_1) h_7 fun t48_1 =>
  pop P (binA .add 3 t48_1 (Value.int IntKind.i64 1)) fun t49_1 =>
  pop P (Instr.indexAt 37 t13_1 t35_1) fun t50_1 =>
  uop P (Instr.storeAt 3 t50_1 t49_1) h_7 fun u_2 h_8 =>
  eop P (Instr.buildSlice 37 1 #[(0, t35_1)]) h_8 fun t53_1 h_9 =>
  eop P (appS 37 37 37 list6_2 t53_1) h_9 fun t54_1 h_10 =>
  pop P (binA .add 3 t32_1 (Value.int IntKind.i64 1)) fun t55_1 =>
  I_2 [t54_1, t55_1] h_10 ∧ μ_2 [t54_1, t55_1] h_10 < μ_2 [list6_2, t32_1] h_7)
  (pop P (binA .add 3 t32_1 (Value.int IntKind.i64 1)) fun t55_2 =>
  I_2 [list6_2, t55_2] h_7 ∧ μ_2 [list6_2, t55_2] h_7 < μ_2 [list6_2, t32_1] h_7))
  (pop P (Instr.sliceAt 37 list6_2 (some (Value.int IntKind.i64 1)) none none) fun t23_1 =>
  I_1 [t23_1] h_7 ∧ μ_1 [t23_1] h_7 < μ_1 [list6_1] h_6))
  (K t13_1 h_6)
theorem e110 (g0_1 : Value) (p1_1 : Value) (h : Heap) (K : Value → Heap → Prop) : wpA Try.prog 57 (anOf [(122, [6]), (7826, [6, 32])]) (bodyOf Try.f110) 1 (fun A h => resA Try.prog A h K [.tmp 4]) (fun _ _ _ => False) (fun A h => resA Try.prog A h K [.tmp 4]) (aargs [g0_1, p1_1] 0) h = t110 Try.prog g0_1 p1_1 h K := by kernel_rfl
theorem c110 (g0_1 : Value) (p1_1 : Value) (h : Heap) (K : Value → Heap → Prop) (H : t110 Try.prog g0_1 p1_1 h K) : callM Try.prog 110 #[g0_1, p1_1] h K :=
  callM_of_wpA mixed (fn := Try.f110) Try.func110 (c := bodyOf Try.f110) rfl (of_decide_eq_true (by kernel_rfl)) (anOf [(122, [6]), (7826, [6, 32])]) 55 57 (by kernel_rfl) rfl [.tmp 4] (by kernel_rfl) (args := [g0_1, p1_1]) (by rw [e110]; exact H)

/-! impl.isGraph -/
def t113 (P : Program) (g0_1 : Value) (h : Heap) (K : Value → Heap → Prop) : Prop :=
  eop P (Instr.box 26 g0_1) h fun g1_1 h_1 =>
  pop P (Instr.fieldAt 26 g1_1 0) fun t6_1 =>
  rop P (Instr.loadAt 24 t6_1) h_1 fun t7_1 =>
  pop P (lenS 24 3 t7_1) fun t8_1 =>
  eop P (Instr.alloc 3 true (.tuple #[])) h_1 fun n3_1 h_2 =>
  uop P (Instr.storeAt 3 n3_1 t8_1) h_2 fun u_1 h_3 =>
  rop P (Instr.loadAt 3 n3_1) h_3 fun t9_1 =>
  callM P 71 #[t9_1, (Value.int IntKind.i64 1), (Value.int IntKind.i64 8)] h_3 fun t10_1 h_4 =>
  pop P (Op.unary .not t10_1) fun t11_1 =>
  condM t11_1
  (K (Value.bool false) h_4)
  (pop P (Instr.fieldAt 26 g1_1 0) fun t12_1 =>
  rop P (Instr.loadAt 24 t12_1) h_4 fun t13_1 =>
  pop P (lenS 24 3 t13_1) fun t14_1 =>
  ∃ (I_1 : List Value → Heap → Prop) (μ_1 : List Value → Heap → Nat), I_1 [(Value.int IntKind.i64 0)] h_4 ∧
  ∀ (junk_1 : Nat → Value) (t15_1 : Value) (h_5 : Heap), I_1 [t15_1] h_5 →
  pop P (binA .lss 3 t15_1 t14_1) fun t16_1 =>
  condM t16_1
  (pop P (Instr.indexAt 24 t13_1 t15_1) fun t17_1 =>
  rop P (Instr.loadAt 37 t17_1) h_5 fun t18_1 =>
  pop P (lenS 37 3 t18_1) fun t20_1 =>
  pop P (binA .gtr 3 t20_1 (Value.int IntKind.i64 5)) fun t21_1 =>
  guardM (asG t21_1 false) false (fun k_1 => k_1 t18_1 h_5) h_5 fun t23_1 h_6 =>
  guardM (asG t21_1 false) false (fun k_2 => pop P (Instr.makeFunc (Fn.func 138) #[] #[n3_1]) fun t24_1 =>
  k_2 t24_1 h_6) h_6 fun t24_2 h_7 =>
  guardM (asG t21_1 false) false (fun k_3 => callM P 96 #[t23_1, t24_2] h_7 fun t25_1 h_8 =>
  k_3 t25_1 h_8) h_7 fun t25_2 h_9 =>
  pop P (pickS t21_1 (Value.bool true) t25_2) fun t26_1 =>
  condM t26_1
  (K (Value.bool false) h_9)
  (pop P (binA .add 3 t15_1 (Value.int IntKind.i64 1)) fun t27_1 =>
  I_1 [t27_1] h_9 ∧ μ_1 [t27_1] h_9 < μ_1 [t15_1] h_5))
  (K (Value.bool true) h_5))
theorem e113 (g0_1 : Value) (h : Heap) (K : Value → Heap → Prop) : wpA Try.prog 28 (anOf [(122, [15])]) (bodyOf Try.f113) 1 (fun A h => resA Try.prog A h K [.tmp 2]) (fun _ _ _ => False) (fun A h => resA Try.prog A h K [.tmp 2]) (aargs [g0_1] 0) h = t113 Try.prog g0_1 h K := by kernel_rfl
theorem c113 (g0_1 : Value) (h : Heap) (K : Value → Heap → Prop) (H : t113 Try.prog g0_1 h K) : callM Try.prog 113 #[g0_1] h K :=
  callM_of_wpA mixed (fn := Try.f113) Try.func113 (c := bodyOf Try.f113) rfl (of_decide_eq_true (by kernel_rfl)) (anOf [(122, [15])]) 27 28 (by kernel_rfl) rfl [.tmp 2] (by kernel_rfl) (args := [g0_1]) (by rw [e113]; exact H)

/-! impl.has$1 -/
def t114 (P : Program) (p0_1 : Value) (t1_1 : Value) (h : Heap) (K : Value → Heap → Prop) : Prop :=
  pop P (Instr.fieldAt 26 t1_1 0) fun t5_1 =>
  rop P (Instr.loadAt 24 t5_1) h fun t6_1 =>
  pop P (lenS 24 3 t6_1) fun t7_1 =>
  pop P (binA .sub 3 t7_1 (Value.int IntKind.i64 1)) fun t8_1 =>
  callM P 71 #[p0_1, (Value.int IntKind.i64 0), t8_1] h fun t9_1 h_1 =>
  pop P (Op.unary .not t9_1) fun t10_1 =>
  K t10_1 h_1
theorem e114 (p0_1 : Value) (t1_1 : Value) (h : Heap) (K : Value → Heap → Prop) : wpA Try.prog 11 (anOf []) (bodyOf Try.f114) 1 (fun A h => resA Try.prog A h K [.tmp 3]) (fun _ _ _ => False) (fun A h => resA Try.prog A h K [.tmp 3]) (aargs [p0_1, t1_1] 0) h = t114 Try.prog p0_1 t1_1 h K := by kernel_rfl
theorem c114 (p0_1 : Value) (t1_1 : Value) (h : Heap) (K : Value → Heap → Prop) (H : t114 Try.prog p0_1 t1_1 h K) : callM Try.prog 114 #[p0_1, t1_1] h K :=
  callM_of_wpA mixed (fn := Try.f114) Try.func114 (c := bodyOf Try.f114) rfl (of_decide_eq_true (by kernel_rfl)) (anOf []) 9 11 (by kernel_rfl) rfl [.tmp 3] (by kernel_rfl) (args := [p0_1, t1_1]) (by rw [e114]; exact H)

/-! spec.grFar -/
def t115 (P : Program) (g0_1 : Value) (p1_1 : Value) (h : Heap) (K : Value → Heap → Prop) : Prop :=
  eop P (Instr.box 26 g0_1) h fun g2_1 h_1 =>
  pop P (Instr.fieldAt 26 g2_1 0) fun t11_1 =>
  rop P (Instr.loadAt 24 t11_1) h_1 fun t12_1 =>
  pop P (lenS 24 3 t12_1) fun t13_1 =>
  eop P (Instr.makeSlice 37 t13_1 t13_1) h_1 fun t14_1 h_2 =>
  pop P (lenS 37 3 t14_1) fun t16_1 =>
  ∃ (I_1 : List Value → Heap → Prop) (μ_1 : List Value → Heap → Nat), I_1 [(Value.int IntKind.i64 0)] h_2 ∧
  ∀ (junk_1 : Nat → Value) (t17_1 : Value) (h_3 : Heap), I_1 [t17_1] h_3 →
  pop P (binA .lss 3 t17_1 t16_1) fun t18_1 =>
  condM t18_1
  (pop P (Instr.indexAt 37 t14_1 t17_1) fun t22_1 =>
  uop P (Instr.storeAt 3 t22_1 (Value.int IntKind.i64 (-1))) h_3 fun u_1 h_4 =>
  pop P (binA .add 3 t17_1 (Value.int IntKind.i64 1)) fun t23_1 =>
  I_1 [t23_1] h_4 ∧ μ_1 [t23_1] h_4 < μ_1 [t17_1] h_3)
  (pop P (Instr.indexAt 37 t14_1 p1_1) fun t26_1 =>
  uop P (Instr.storeAt 3 t26_1 (Value.int IntKind.i64 0)) h_3 fun u_2 h_5 =>
  eop P (Instr.buildSlice 37 1 #[(0, p1_1)]) h_5 fun t28_1 h_6 =>
  ∃ (I_2 : List Value → Heap → Prop) (μ_2 : List Value → Heap → Nat), I_2 [t28_1, (Value.int IntKind.i64 0)] h_6 ∧
  ∀ (junk_2 : Nat → Value) (queue7_1 : Value) (k8_1 : Value) (h_7 : Heap), I_2 [queue7_1, k8_1] h_7 →
  pop P (lenS 37 3 queue7_1) fun t31_1 =>
  pop P (binA .lss 3 k8_1 t31_1) fun t32_1 =>
  condM t32_1
  (pop P (Instr.fieldAt 26 g2_1 0) fun t35_1 =>
  rop P (Instr.loadAt 24 t35_1) h_7 fun t36_1 =>
  pop P (Instr.indexAt 37 queue7_1 k8_1) fun t39_1 =>
  rop P (Instr.loadAt 3 t39_1) h_7 fun t40_1 =>
  pop P (Instr.indexAt 24 t36_1 t40_1) fun t41_1 =>
  rop P (Instr.loadAt 37 t41_1) h_7 fun t42_1 =>
  pop P (lenS 37 3 t42_1) fun t43_1 =>
  ∃ (I_3 : List Value → Heap → Prop) (μ_3 : List Value → Heap → Nat), I_3 [queue7_1, (Value.int IntKind.i64 0)] h_7 ∧
  ∀ (junk_3 : Nat → Value) (queue7_2 : Value) (t44_1 : Value) (h_8 : Heap), I_3 [queue7_2, t44_1] h_8 →
  pop P (binA .lss 3 t44_1 t43_1) fun t45_1 =>
  condM t45_1
  (pop P (Instr.indexAt 37 t42_1 t44_1) fun t46_1 =>
  rop P (Instr.loadAt 3 t46_1) h_8 fun t47_1 =>
  pop P (Instr.indexAt 37 t14_1 t47_1) fun t50_1 =>
  rop P (Instr.loadAt 3 t50_1) h_8 fun t51_1 =>
  pop P (binA .lss 3 t51_1 (Value.int IntKind.i64 0)) fun t52_1 =>
  condM t52_1
  (pop P (Instr.indexAt 37 queue7_2 k8_1) fun t58_1 =>
  rop P (Instr.loadAt 3 t58_1) h_8 fun t59_1 =>
  pop P (Instr.indexAt 37 t14_1 t59_1) fun t60_1 =>
  rop P (Instr.loadAt 3 t60_1) h_8 fun t61_1 =>
  pop P (binA .add 3 t61_1 (Value.int IntKind.i64 1)) fun t62_1 =>
  pop P (Instr.indexAt 37 t14_1 t47_1) fun t63_1 =>
  uop P (Instr.storeAt 3 t63_1 t62_1) h_8 fun u_3 h_9 =>
  eop P (Instr.buildSlice 37 1 #[(0, t47_1)]) h_9 fun t66_1 h_10 =>
  eop P (appS 37 37 37 queue7_2 t66_1) h_10 fun t67_1 h_11 =>
  pop P (binA .add 3 t44_1 (Value.int IntKind.i64 1)) fun t68_1 =>
  I_3 [t67_1, t68_1] h_11 ∧ μ_3 [t67_1, t68_1] h_11 < μ_3 [queue7_2, t44_1] h_8)
  (pop P (binA .add 3 t44_1 (Value.int IntKind.i64 1)) fun t68_2 =>
  I_3 [queue7_2, t68_2] h_8 ∧ μ_3 [queue7_2, t68_2] h_8 < μ_3 [queue7_2, t44_1] h_8))
  (pop P (binA .add 3 k8_1 (Value.int IntKind.i64 1)) fun t34_1 =>
  I_2 [queue7_2, t34_1] h_8 ∧ μ_2 [queue7_2, t34_1] h_8 < μ_2 [queue7_1, k8_1] h_7))
  (K t14_1 h_7))
theorem e115 (g0_1 : Value) (p1_1 : Value) (h : Heap) (K : Value → Heap → Prop) : wpA Try.prog 70 (anOf [(58, [17]), (506, [7, 8]), (32402, [7, 44])]) (bodyOf Try.f115) 1 (fun A h => resA Try.prog A h K [.tmp 4]) (fun _ _ _ => False) (fun A h => resA Try.prog A h K [.tmp 4]) (aargs [g0_1, p1_1] 0) h = t115 Try.prog g0_1 p1_1 h K := by kernel_rfl
theorem c115 (g0_1 : Value) (p1_1 : Value) (h : Heap) (K : Value → Heap → Prop) (H : t115 Try.prog g0_1 p1_1 h K) : callM Try.prog 115 #[g0_1, p1_1] h K :=
  callM_of_wpA mixed (fn := Try.f115) Try.func115 (c := bodyOf Try.f115) rfl (of_decide_eq_true (by kernel_rfl)) (anOf [(58, [17]), (506, [7, 8]), (32402, [7, 44])]) 68 70 (by kernel_rfl) rfl [.tmp 4] (by kernel_rfl) (args := [g0_1, p1_1]) (by rw [e115]; exact H)

/-! slices.Clone[[]int,int] -/
def t117 (P : Program) (s0_1 : Value) (h : Heap) (K : Value → Heap → Prop) : Prop :=
  pop P (binE .eql 37 (.tmp 3) (.const (Value.slice none 0 0)) s0_1 (Value.slice none 0 0)) fun t4_1 =>
  condM t4_1
  (K (Value.slice none 0 0) h)
  (eop P (Instr.buildSlice 37 0 #[]) h fun t5_1 h_1 =>
  eop P (appS 37 37 37 t5_1 s0_1) h_1 fun t7_1 h_2 =>
  K t7_1 h_2)
theorem e117 (s0_1 : Value) (h : Heap) (K : Value → Heap → Prop) : wpA Try.prog 8 (anOf []) (bodyOf Try.f117) 1 (fun A h => resA Try.prog A h K [.tmp 2]) (fun _ _ _ => False) (fun A h => resA Try.prog A h K [.tmp 2]) (aargs [s0_1] 0) h = t117 Try.prog s0_1 h K := by kernel_rfl
theorem c117 (s0_1 : Value) (h : Heap) (K : Value → Heap → Prop) (H : t117 Try.prog s0_1 h K) : callM Try.prog 117 #[s0_1] h K :=
  callM_of_wpA mixed (fn := Try.f117) Try.func117 (c := bodyOf Try.f117) rfl (of_decide_eq_true (by kernel_rfl)) (anOf []) 7 8 (by kernel_rfl) rfl [.tmp 2] (by kernel_rfl) (args := [s0_1]) (by rw [e117]; exact H)

/-! (*spec.l1Cur).sureGraph -/
def t118 (P : Program) (c0_1 : Value) (most1_1 : Value) (h : Heap) (K : Value → Heap → Prop) : Prop :=
  eop P (Instr.alloc 26 true (.tuple #[])) h fun t4_1 h_1 =>
  callM P 70 #[c0_1, most1_1] h_1 fun t13_1 h_2 =>
  pop P (binA .add 3 (Value.int IntKind.i64 1) t13_1) fun t14_1 =>
  callM P 106 #[c0_1, (Value.int IntKind.i64 4)] h_2 fun t16_1 h_3 =>
  condM t16_1
  (callM P 106 #[c0_1, (Value.int IntKind.i64 2)] h_3 fun t19_1 h_4 =>
  callM P 135 #[t14_1, t19_1] h_4 fun t20_1 h_5 =>
  uop P (Instr.storeAt 26 t4_1 t20_1) h_5 fun u_1 h_6 =>
  rop P (Instr.loadAt 26 t4_1) h_6 fun r_1 =>
  K r_1 h_6)
  (pop P (Instr.build 26 #[]) fun t21_1 =>
  eop P (Instr.alloc 26 true (.tuple #[])) h_3 fun g6_1 h_7 =>
  uop P (Instr.storeAt 26 g6_1 t21_1) h_7 fun u_2 h_8 =>
  ∃ (I_1 : List Value → Heap → Prop) (μ_1 : List Value → Heap → Nat), I_1 [(Value.int IntKind.i64 0)] h_8 ∧
  ∀ (junk_1 : Nat → Value) (p7_1 : Value) (h_9 : Heap), I_1 [p7_1] h_9 →
  pop P (binA .lss 3 p7_1 t14_1) fun t24_1 =>
  condM t24_1
  (callM P 70 #[c0_1, (Value.int IntKind.i64 3)] h_9 fun t28_1 h_10 =>
  pop P (binA .add 3 (Value.int IntKind.i64 1) t28_1) fun t29_1 =>
  ∃ (I_2 : List Value → Heap → Prop) (μ_2 : List Value → Heap → Nat), I_2 [(Value.slice none 0 0), t29_1] h_10 ∧
  ∀ (junk_2 : Nat → Value) (list8_1 : Value) (k9_1 : Value) (h_11 : Heap), I_2 [list8_1, k9_1] h_11 →
  pop P (binA .gtr 3 k9_1 (Value.int IntKind.i64 0)) fun t31_1 =>
  condM t31_1
  (callM P 70 #[c0_1, t14_1] h_11 fun t37_1 h_12 =>
  eop P (Instr.buildSlice 37 1 #[(0, t37_1)]) h_12 fun t38_1 h_13 =>
  eop P (appS 37 37 37 list8_1 t38_1) h_13 fun t39_1 h_14 =>
  pop P (binA .sub 3 k9_1 (Value.int IntKind.i64 1)) fun t33_1 =>
  I_2 [t39_1, t33_1] h_14 ∧ μ_2 [t39_1, t33_1] h_14 < μ_2 [list8_1, k9_1] h_11)
  (∃ J_1 : List Value → Heap → Prop, (callM P 106 #[c0_1, (Value.int IntKind.i64 8)] h_11 fun t41_1 h_15 =>
  condM t41_1
  (J_1 [(Value.slice none 0 0)] h_15)
  (J_1 [list8_1] h_15)) ∧
  ∀ (junk_3 : Nat → Value) (list8_2 : Value) (h_16 : Heap), J_1 [list8_2] h_16 →
  pop P (Instr.fieldAt 26 g6_1 0) fun t42_1 =>
  rop P (Instr.loadAt 24 t42_1) h_16 fun t43_1 =>
  eop P (Instr.buildSlice 24 1 #[(0, list8_2)]) h_16 fun t45_1 h_17 =>
  eop P (appS 24 24 24 t43_1 t45_1) h_17 fun t46_1 h_18 =>
  pop P (Instr.fieldAt 26 g6_1 0) fun t47_1 =>
  uop P (Instr.storeAt 24 t47_1 t46_1) h_18 fun u_3 h_19 =>
  pop P (binA .add 3 p7_1 (Value.int IntKind.i64 1)) fun t26_1 =>
  I_1 [t26_1] h_19 ∧ μ_1 [t26_1] h_19 < μ_1 [p7_1] h_9))
  (callM P 106 #[c0_1, (Value.int IntKind.i64 2)] h_9 fun t49_1 h_20 =>
  condM t49_1
  (pop P (Instr.fieldAt 26 g6_1 0) fun t50_1 =>
  rop P (Instr.loadAt 24 t50_1) h_20 fun t51_1 =>
  pop P (lenS 24 3 t51_1) fun t52_1 =>
  ∃ (I_3 : List Value → Heap → Prop) (μ_3 : List Value → Heap → Nat), I_3 [(Value.int IntKind.i64 0)] h_20 ∧
  ∀ (junk_4 : Nat → Value) (t53_1 : Value) (h_21 : Heap), I_3 [t53_1] h_21 →
  pop P (binA .lss 3 t53_1 t52_1) fun t54_1 =>
  condM t54_1
  (pop P (Instr.fieldAt 26 g6_1 0) fun t56_1 =>
  rop P (Instr.loadAt 24 t56_1) h_21 fun t57_1 =>
  pop P (Instr.fieldAt 26 g6_1 0) fun t59_1 =>
  rop P (Instr.loadAt 24 t59_1) h_21 fun t60_1 =>
  pop P (Instr.indexAt 24 t60_1 t53_1) fun t62_1 =>
  rop P (Instr.loadAt 37 t62_1) h_21 fun t63_1 =>
  pop P (binA .add 3 t53_1 (Value.int IntKind.i64 1)) fun t65_1 =>
  pop P (binA .rem 3 t65_1 t14_1) fun t67_1 =>
  eop P (Instr.buildSlice 37 1 #[(0, t67_1)]) h_21 fun t68_1 h_22 =>
  (∀ w : World, w.heap = h_22 → (Instr.loadAt 37 t62_1).run P w = .ok t63_1 w) ∧
  (∀ w : World, w.heap = h_22 → (Instr.loadAt 24 t59_1).run P w = .ok t60_1 w) ∧
  (∀ w : World, w.heap = h_22 → (Instr.loadAt 24 t56_1).run P w = .ok t57_1 w) ∧
  eop P (appS 37 37 37 t63_1 t68_1) h_22 fun t69_1 h_23 =>
  (∀ w : World, w.heap = h_23 → (Instr.loadAt 24 t59_1).run P w = .ok t60_1 w) ∧
  (∀ w : World, w.heap = h_23 → (Instr.loadAt 24 t56_1).run P w = .ok t57_1 w) ∧
  pop P (Instr.indexAt 24 t57_1 t53_1) fun t70_1 =>
  uop P (Instr.storeAt 37 t70_1 t69_1) h_23 fun u_4 h_24 =>
  pop P (binA .add 3 t53_1 (Value.int IntKind.i64 1)) fun t71_1 =>
  I_3 [t71_1] h_24 ∧ μ_3 [t71_1] h_24 < μ_3 [t53_1] h_21)
  (rop P (Instr.loadAt 26 g6_1) h_21 fun t72_1 =>
  uop P (Instr.storeAt 26 t4_1 t72_1) h_21 fun u_5 h_25 =>
  rop P (Instr.loadAt 26 t4_1) h_25 fun r_2 =>
  K r_2 h_25))
  (rop P (Instr.loadAt 26 g6_1) h_20 fun t72_2 =>
  uop P (Instr.storeAt 26 t4_1 t72_2) h_20 fun u_6 h_26 =>
  rop P (Instr.loadAt 26 t4_1) h_26 fun r_3 =>
  K r_3 h_26)))
theorem e118 (c0_1 : Value) (most1_1 : Value) (h : Heap) (K : Value → Heap → Prop) : wpA Try.prog 73 (anOf [(250, [7]), (2026, [53]), (16019, [8]), (64074, [8, 9])]) (bodyOf Try.f118) 1 (fun A h => resA Try.prog A h K [.cell 4 26]) (fun _ _ _ => False) (fun A h => resA Try.prog A h K [.cell 4 26]) (aargs [c0_1, most1_1] 0) h = t118 Try.prog c0_1 most1_1 h K := by kernel_rfl
theorem c118 (c0_1 : Value) (most1_1 : Value) (h : Heap) (K : Value → Heap → Prop) (H : t118 Try.prog c0_1 most1_1 h K) : callM Try.prog 118 #[c0_1, most1_1] h K :=
  callM_of_wpA mixed (fn := Try.f118) Try.func118 (c := bodyOf Try.f118) rfl (of_decide_eq_true (by kernel_rfl)) (anOf [(250, [7]), (2026, [53]), (16019, [8]), (64074, [8, 9])]) 71 73 (by kernel_rfl) rfl [.cell 4 26] (by kernel_rfl) (args := [c0_1, most1_1]) (by rw [e118]; exact H)

/-! (*spec.l1Cur).next -/
def t119 (P : Program) (c0_1 : Value) (h : Heap) (K : Value → Heap → Prop) : Prop :=
  ∃ J_1 : List Value → Heap → Prop, (pop P (nilS c0_1) fun t5_1 =>
  pop P (Instr.fieldAt 69 t5_1 1) fun t6_1 =>
  rop P (Instr.loadAt 3 t6_1) h fun t7_1 =>
  pop P (nilS c0_1) fun t9_1 =>
  pop P (Instr.fieldAt 69 t9_1 0) fun t10_1 =>
  rop P (Instr.loadAt 22 t10_1) h fun t11_1 =>
  pop P (lenS 22 3 t11_1) fun t12_1 =>
  pop P (binA .lss 3 t7_1 t12_1) fun t13_1 =>
  condM t13_1
  (pop P (nilS c0_1) fun t15_1 =>
  pop P (Instr.fieldAt 69 t15_1 0) fun t16_1 =>
  rop P (Instr.loadAt 22 t16_1) h fun t17_1 =>
  pop P (nilS c0_1) fun t19_1 =>
  pop P (Instr.fieldAt 69 t19_1 1) fun t20_1 =>
  rop P (Instr.loadAt 3 t20_1) h fun t21_1 =>
  pop P (Instr.indexAt 22 t17_1 t21_1) fun t22_1 =>
  rop P (Instr.loadAt 5 t22_1) h fun t23_1 =>
  rop P (convert 5 3 t23_1) h fun t24_1 =>
  J_1 [t24_1] h)
  (J_1 [(Value.int IntKind.i64 0)] h)) ∧
  ∀ (junk_1 : Nat → Value) (b3_1 : Value) (h_1 : Heap), J_1 [b3_1] h_1 →
  pop P (nilS c0_1) fun t26_1 =>
  pop P (Instr.fieldAt 69 t26_1 1) fun t27_1 =>
  rop P (Instr.loadAt 3 t27_1) h_1 fun t28_1 =>
  pop P (binA .add 3 t28_1 (Value.int IntKind.i64 1)) fun t29_1 =>
  pop P (nilS c0_1) fun t30_1 =>
  pop P (Instr.fieldAt 69 t30_1 1) fun t31_1 =>
  uop P (Instr.storeAt 3 t31_1 t29_1) h_1 fun u_1 h_2 =>
  pop P (nilS c0_1) fun t34_1 =>
  pop P (Instr.fieldAt 69 t34_1 2) fun t35_1 =>
  rop P (Instr.loadAt 67 t35_1) h_2 fun t36_1 =>
  pop P (binA .mul 67 t36_1 (Value.int IntKind.u64 6364136223846793005)) fun t37_1 =>
  rop P (convert 3 67 b3_1) h_2 fun t39_1 =>
  pop P (binA .add 67 t37_1 t39_1) fun t40_1 =>
  pop P (binA .add 67 t40_1 (Value.int IntKind.u64 1442695040888963407)) fun t41_1 =>
  pop P (nilS c0_1) fun t42_1 =>
  pop P (Instr.fieldAt 69 t42_1 2) fun t43_1 =>
  uop P (Instr.storeAt 67 t43_1 t41_1) h_2 fun u_2 h_3 =>
  pop P (nilS c0_1) fun t45_1 =>
  pop P (Instr.fieldAt 69 t45_1 1) fun t46_1 =>
  rop P (Instr.loadAt 3 t46_1) h_3 fun t47_1 =>
  pop P (nilS c0_1) fun t49_1 =>
  pop P (Instr.fieldAt 69 t49_1 0) fun t50_1 =>
  rop P (Instr.loadAt 22 t50_1) h_3 fun t51_1 =>
  pop P (lenS 22 3 t51_1) fun t52_1 =>
  pop P (binA .leq 3 t47_1 t52_1) fun t53_1 =>
  condM t53_1
  (K b3_1 h_3)
  (pop P (nilS c0_1) fun t56_1 =>
  pop P (Instr.fieldAt 69 t56_1 2) fun t57_1 =>
  rop P (Instr.loadAt 67 t57_1) h_3 fun t58_1 =>
  pop P (binA .shr 67 t58_1 (Value.int IntKind.u64 40)) fun t59_1 =>
  pop P (binA .and 67 t59_1 (Value.int IntKind.u64 255)) fun t60_1 =>
  rop P (convert 67 3 t60_1) h_3 fun t61_1 =>
  K t61_1 h_3)
theorem e119 (c0_1 : Value) (h : Heap) (K : Value → Heap → Prop) : wpA Try.prog 62 (anOf [(7, [3])]) (bodyOf Try.f119) 1 (fun A h => resA Try.prog A h K [.tmp 2]) (fun _ _ _ => False) (fun A h => resA Try.prog A h K [.tmp 2]) (aargs [c0_1] 0) h = t119 Try.prog c0_1 h K := by kernel_rfl
theorem c119 (c0_1 : Value) (h : Heap) (K : Value → Heap → Prop) (H : t119 Try.prog c0_1 h K) : callM Try.prog 119 #[c0_1] h K :=
  callM_of_wpA mixed (fn := Try.f119) Try.func119 (c := bodyOf Try.f119) rfl (of_decide_eq_true (by kernel_rfl)) (anOf [(7, [3])]) 61 62 (by kernel_rfl) rfl [.tmp 2] (by kernel_rfl) (args := [c0_1]) (by rw [e119]; exact H)

/-! spec.grGood -/
def t120 (P : Program) (g0_1 : Value) (h : Heap) (K : Value → Heap → Prop) : Prop :=
  eop P (Instr.box 26 g0_1) h fun g1_1 h_1 =>
  pop P (Instr.fieldAt 26 g1_1 0) fun t6_1 =>
  rop P (Instr.loadAt 24 t6_1) h_1 fun t7_1 =>
  pop P (lenS 24 3 t7_1) fun t8_1 =>
  callM P 73 #[t8_1, (Value.int IntKind.i64 1), (Value.int IntKind.i64 8)] h_1 fun t10_1 h_2 =>
  pop P (Op.unary .not t10_1) fun t11_1 =>
  condM t11_1
  (K (Value.bool false) h_2)
  (pop P (Instr.fieldAt 26 g1_1 0) fun t12_1 =>
  rop P (Instr.loadAt 24 t12_1) h_2 fun t13_1 =>
  pop P (lenS 24 3 t13_1) fun t14_1 =>
  ∃ (I_1 : List Value → Heap → Prop) (μ_1 : List Value → Heap → Nat), I_1 [(Value.int IntKind.i64 0)] h_2 ∧
  ∀ (junk_1 : Nat → Value) (t15_1 : Value) (h_3 : Heap), I_1 [t15_1] h_3 →
  pop P (binA .lss 3 t15_1 t14_1) fun t16_1 =>
  condM t16_1
  (pop P (Instr.indexAt 24 t13_1 t15_1) fun t17_1 =>
  rop P (Instr.loadAt 37 t17_1) h_3 fun t18_1 =>
  pop P (lenS 37 3 t18_1) fun t20_1 =>
  pop P (binA .gtr 3 t20_1 (Value.int IntKind.i64 5)) fun t21_1 =>
  guardM (asG t21_1 false) false (fun k_1 => k_1 t18_1 h_3) h_3 fun t23_1 h_4 =>
  guardM (asG t21_1 false) false (fun k_2 => k_2 t8_1 h_4) h_4 fun t24_1 h_5 =>
  guardM (asG t21_1 false) false (fun k_3 => pop P (binA .sub 3 t24_1 (Value.int IntKind.i64 1)) fun t25_1 =>
  k_3 t25_1 h_5) h_5 fun t25_2 h_6 =>
  guardM (asG t21_1 false) false (fun k_4 => callM P 108 #[t23_1, (Value.int IntKind.i64 0), t25_2] h_6 fun t26_1 h_7 =>
  k_4 t26_1 h_7) h_6 fun t26_2 h_8 =>
  guardM (asG t21_1 false) false (fun k_5 => pop P (Op.unary .not t26_2) fun t27_1 =>
  k_5 t27_1 h_8) h_8 fun t27_2 h_9 =>
  pop P (pickS t21_1 (Value.bool true) t27_2) fun t28_1 =>
  condM t28_1
  (K (Value.bool false) h_9)
  (pop P (binA .add 3 t15_1 (Value.int IntKind.i64 1)) fun t29_1 =>
  I_1 [t29_1] h_9 ∧ μ_1 [t29_1] h_9 < μ_1 [t15_1] h_3))
  (K (Value.bool true) h_3))
theorem e120 (g0_1 : Value) (h : Heap) (K : Value → Heap → Prop) : wpA Try.prog 30 (anOf [(122, [15])]) (bodyOf Try.f120) 1 (fun A h => resA Try.prog A h K [.tmp 2]) (fun _ _ _ => False) (fun A h => resA Try.prog A h K [.tmp 2]) (aargs [g0_1] 0) h = t120 Try.prog g0_1 h K := by kernel_rfl
theorem c120 (g0_1 : Value) (h : Heap) (K : Value → Heap → Prop) (H : t120 Try.prog g0_1 h K) : callM Try.prog 120 #[g0_1] h K :=
  callM_of_wpA mixed (fn := Try.f120) Try.func120 (c := bodyOf Try.f120) rfl (of_decide_eq_true (by kernel_rfl)) (anOf [(122, [15])]) 29 30 (by kernel_rfl) rfl [.tmp 2] (by kernel_rfl) (args := [g0_1]) (by rw [e120]; exact H)

/-! spec.l1Own -/
def t121 (P : Program) (l0_1 : Value) (h : Heap) (K : Value → Heap → Prop) : Prop :=
  eop P (Instr.buildSlice 37 0 #[]) h fun t3_1 h_1 =>
  eop P (appS 37 37 37 t3_1 l0_1) h_1 fun t5_1 h_2 =>
  K t5_1 h_2
theorem e121 (l0_1 : Value) (h : Heap) (K : Value → Heap → Prop) : wpA Try.prog 6 (anOf []) (bodyOf Try.f121) 1 (fun A h => resA Try.prog A h K [.tmp 2]) (fun _ _ _ => False) (fun A h => resA Try.prog A h K [.tmp 2]) (aargs [l0_1] 0) h = t121 Try.prog l0_1 h K := by kernel_rfl
theorem c121 (l0_1 : Value) (h : Heap) (K : Value → Heap → Prop) (H : t121 Try.prog l0_1 h K) : callM Try.prog 121 #[l0_1] h K :=
  callM_of_wpA mixed (fn := Try.f121) Try.func121 (c := bodyOf Try.f121) rfl (of_decide_eq_true (by kernel_rfl)) (anOf []) 5 6 (by kernel_rfl) rfl [.tmp 2] (by kernel_rfl) (args := [l0_1]) (by rw [e121]; exact H)

/-! (*spec.l1Cur).sureWalk -/
def t122 (P : Program) (c0_1 : Value) (g1_1 : Value) (h : Heap) (K : Value → Heap → Prop) : Prop :=
  eop P (Instr.box 26 g1_1) h fun g3_1 h_1 =>
  eop P (Instr.alloc 114 true (.tuple #[])) h_1 fun t4_1 h_2 =>
  pop P (Instr.fieldAt 26 g3_1 0) fun t10_1 =>
  rop P (Instr.loadAt 24 t10_1) h_2 fun t11_1 =>
  pop P (lenS 24 3 t11_1) fun t12_1 =>
  callM P 70 #[c0_1, t12_1] h_2 fun t13_1 h_3 =>
  pop P (Instr.build 114 #[(1, t13_1)]) fun t14_1 =>
  eop P (Instr.alloc 114 true (.tuple #[])) h_3 fun w5_1 h_4 =>
  uop P (Instr.storeAt 114 w5_1 t14_1) h_4 fun u_1 h_5 =>
  pop P (Instr.fieldAt 26 g3_1 0) fun t15_1 =>
  rop P (Instr.loadAt 24 t15_1) h_5 fun t16_1 =>
  pop P (lenS 24 3 t16_1) fun t17_1 =>
  ∃ (I_1 : List Value → Heap → Prop) (μ_1 : List Value → Heap → Nat), I_1 [(Value.int IntKind.i64 0)] h_5 ∧
  ∀ (junk_1 : Nat → Value) (t18_1 : Value) (h_6 : Heap), I_1 [t18_1] h_6 →
  pop P (binA .lss 3 t18_1 t17_1) fun t19_1 =>
  condM t19_1
  (pop P (Instr.indexAt 24 t16_1 t18_1) fun t20_1 =>
  rop P (Instr.loadAt 37 t20_1) h_6 fun t21_1 =>
  ∃ J_1 : List Value → Heap → Prop, (pop P (lenS 37 3 t21_1) fun t23_1 =>
  pop P (binA .gtr 3 t23_1 (Value.int IntKind.i64 0)) fun t24_1 =>
  condM t24_1
  (pop P (lenS 37 3 t21_1) fun t27_1 =>
  callM P 70 #[c0_1, t27_1] h_6 fun t28_1 h_7 =>
  J_1 [t28_1] h_7)
  (J_1 [(Value.int IntKind.i64 0)] h_6)) ∧
  ∀ (junk_2 : Nat → Value) (k8_1 : Value) (h_8 : Heap), J_1 [k8_1] h_8 →
  pop P (Instr.fieldAt 114 w5_1 0) fun t29_1 =>
  rop P (Instr.loadAt 37 t29_1) h_8 fun t30_1 =>
  eop P (Instr.buildSlice 37 1 #[(0, k8_1)]) h_8 fun t32_1 h_9 =>
  eop P (appS 37 37 37 t30_1 t32_1) h_9 fun t33_1 h_10 =>
  pop P (Instr.fieldAt 114 w5_1 0) fun t34_1 =>
  uop P (Instr.storeAt 37 t34_1 t33_1) h_10 fun u_2 h_11 =>
  pop P (binA .add 3 t18_1 (Value.int IntKind.i64 1)) fun t35_1 =>
  I_1 [t35_1] h_11 ∧ μ_1 [t35_1] h_11 < μ_1 [t18_1] h_6)
  (rop P (Instr.loadAt 114 w5_1) h_6 fun t36_1 =>
  uop P (Instr.storeAt 114 t4_1 t36_1) h_6 fun u_3 h_12 =>
  rop P (Instr.loadAt 114 t4_1) h_12 fun r_1 =>
  K r_1 h_12)
theorem e122 (c0_1 : Value) (g1_1 : Value) (h : Heap) (K : Value → Heap → Prop) : wpA Try.prog 37 (anOf [(58, [18]), (7475, [8])]) (bodyOf Try.f122) 1 (fun A h => resA Try.prog A h K [.cell 4 114]) (fun _ _ _ => False) (fun A h => resA Try.prog A h K [.cell 4 114]) (aargs [c0_1, g1_1] 0) h = t122 Try.prog c0_1 g1_1 h K := by kernel_rfl
theorem c122 (c0_1 : Value) (g1_1 : Value) (h : Heap) (K : Value → Heap → Prop) (H : t122 Try.prog c0_1 g1_1 h K) : callM Try.prog 122 #[c0_1, g1_1] h K :=
  callM_of_wpA mixed (fn := Try.f122) Try.func122 (c := bodyOf Try.f122) rfl (of_decide_eq_true (by kernel_rfl)) (anOf [(58, [18]), (7475, [8])]) 35 37 (by kernel_rfl) rfl [.cell 4 114] (by kernel_rfl) (args := [c0_1, g1_1]) (by rw [e122]; exact H)

/-! impl.areRotors -/
def t123 (P : Program) (g0_1 : Value) (rotors1_1 : Value) (h : Heap) (K : Value → Heap → Prop) : Prop :=
  eop P (Instr.box 26 g0_1) h fun g2_1 h_1 =>
  rop P (Instr.loadAt 26 g2_1) h_1 fun t5_1 =>
  pop P (Instr.build 114 #[(0, rotors1_1), (1, (Value.int IntKind.i64 0))]) fun t7_1 =>
  callM P 139 #[t5_1, t7_1] h_1 fun t8_1 h_2 =>
  K t8_1 h_2
theorem e123 (g0_1 : Value) (rotors1_1 : Value) (h : Heap) (K : Value → Heap → Prop) : wpA Try.prog 9 (anOf []) (bodyOf Try.f123) 1 (fun A h => resA Try.prog A h K [.tmp 4]) (fun _ _ _ => False) (fun A h => resA Try.prog A h K [.tmp 4]) (aargs [g0_1, rotors1_1] 0) h = t123 Try.prog g0_1 rotors1_1 h K := by kernel_rfl
theorem c123 (g0_1 : Value) (rotors1_1 : Value) (h : Heap) (K : Value → Heap → Prop) (H : t123 Try.prog g0_1 rotors1_1 h K) : callM Try.prog 123 #[g0_1, rotors1_1] h K :=
  callM_of_wpA mixed (fn := Try.f123) Try.func123 (c := bodyOf Try.f123) rfl (of_decide_eq_true (by kernel_rfl)) (anOf []) 7 9 (by kernel_rfl) rfl [.tmp 4] (by kernel_rfl) (args := [g0_1, rotors1_1]) (by rw [e123]; exact H)

/-! spec.waGood -/
def t125 (P : Program) (g0_1 : Value) (w1_1 : Value) (h : Heap) (K : Value → Heap → Prop) : Prop :=
  eop P (Instr.box 26 g0_1) h fun g2_1 h_1 =>
  eop P (Instr.box 114 w1_1) h_1 fun w3_1 h_2 =>
  rop P (Instr.loadAt 26 g2_1) h_2 fun t7_1 =>
  pop P (Instr.fieldAt 114 w3_1 1) fun t8_1 =>
  rop P (Instr.loadAt 3 t8_1) h_2 fun t9_1 =>
  callM P 72 #[t7_1, t9_1] h_2 fun t10_1 h_3 =>
  pop P (Op.unary .not t10_1) fun t11_1 =>
  guardM (asG t11_1 false) false (fun k_1 => pop P (Instr.fieldAt 114 w3_1 0) fun t13_1 =>
  k_1 t13_1 h_3) h_3 fun t13_2 h_4 =>
  guardM (asG t11_1 false) false (fun k_2 => rop P (Instr.loadAt 37 t13_2) h_4 fun t14_1 =>
  k_2 t14_1 h_4) h_4 fun t14_2 h_5 =>
  guardM (asG t11_1 false) false (fun k_3 => pop P (lenS 37 3 t14_2) fun t15_1 =>
  k_3 t15_1 h_5) h_5 fun t15_2 h_6 =>
  guardM (asG t11_1 false) false (fun k_4 => pop P (Instr.fieldAt 26 g2_1 0) fun t16_1 =>
  k_4 t16_1 h_6) h_6 fun t16_2 h_7 =>
  guardM (asG t11_1 false) false (fun k_5 => rop P (Instr.loadAt 24 t16_2) h_7 fun t17_1 =>
  k_5 t17_1 h_7) h_7 fun t17_2 h_8 =>
  guardM (asG t11_1 false) false (fun k_6 => pop P (lenS 24 3 t17_2) fun t18_1 =>
  k_6 t18_1 h_8) h_8 fun t18_2 h_9 =>
  guardM (asG t11_1 false) false (fun k_7 => pop P (binE .neq 3 (.tmp 15) (.tmp 18) t15_2 t18_2) fun t19_1 =>
  k_7 t19_1 h_9) h_9 fun t19_2 h_10 =>
  pop P (pickS t11_1 (Value.bool true) t19_2) fun t20_1 =>
  condM t20_1
  (K (Value.bool false) h_10)
  (pop P (Instr.fieldAt 26 g2_1 0) fun t21_1 =>
  rop P (Instr.loadAt 24 t21_1) h_10 fun t22_1 =>
  pop P (lenS 24 3 t22_1) fun t23_1 =>
  ∃ (I_1 : List Value → Heap → Prop) (μ_1 : List Value → Heap → Nat), I_1 [(Value.int IntKind.i64 0)] h_10 ∧
  ∀ (junk_1 : Nat → Value) (t24_1 : Value) (h_11 : Heap), I_1 [t24_1] h_11 →
  pop P (binA .lss 3 t24_1 t23_1) fun t25_1 =>
  condM t25_1
  (pop P (Instr.indexAt 24 t22_1 t24_1) fun t27_1 =>
  rop P (Instr.loadAt 37 t27_1) h_11 fun t28_1 =>
  pop P (Instr.fieldAt 114 w3_1 0) fun t29_1 =>
  rop P (Instr.loadAt 37 t29_1) h_11 fun t30_1 =>
  pop P (Instr.indexAt 37 t30_1 t24_1) fun t32_1 =>
  rop P (Instr.loadAt 3 t32_1) h_11 fun t33_1 =>
  pop P (lenS 37 3 t28_1) fun t35_1 =>
  pop P (binA .sub 3 t35_1 (Value.int IntKind.i64 1)) fun t36_1 =>
  callM P 126 #[(Value.int IntKind.i64 0), t36_1] h_11 fun t37_1 h_12 =>
  (∀ w : World, w.heap = h_12 → (Instr.loadAt 3 t32_1).run P w = .ok t33_1 w) ∧
  (∀ w : World, w.heap = h_12 → (Instr.loadAt 37 t29_1).run P w = .ok t30_1 w) ∧
  callM P 73 #[t33_1, (Value.int IntKind.i64 0), t37_1] h_12 fun t38_1 h_13 =>
  (∀ w : World, w.heap = h_13 → (Instr.loadAt 37 t29_1).run P w = .ok t30_1 w) ∧
  pop P (Op.unary .not t38_1) fun t39_1 =>
  condM t39_1
  (K (Value.bool false) h_13)
  (pop P (binA .add 3 t24_1 (Value.int IntKind.i64 1)) fun t40_1 =>
  I_1 [t40_1] h_13 ∧ μ_1 [t40_1] h_13 < μ_1 [t24_1] h_11))
  (K (Value.bool true) h_11))
theorem e125 (g0_1 : Value) (w1_1 : Value) (h : Heap) (K : Value → Heap → Prop) : wpA Try.prog 41 (anOf [(58, [24])]) (bodyOf Try.f125) 1 (fun A h => resA Try.prog A h K [.tmp 4]) (fun _ _ _ => False) (fun A h => resA Try.prog A h K [.tmp 4]) (aargs [g0_1, w1_1] 0) h = t125 Try.prog g0_1 w1_1 h K := by kernel_rfl
theorem c125 (g0_1 : Value) (w1_1 : Value) (h : Heap) (K : Value → Heap → Prop) (H : t125 Try.prog g0_1 w1_1 h K) : callM Try.prog 125 #[g0_1, w1_1] h K :=
  callM_of_wpA mixed (fn := Try.f125) Try.func125 (c := bodyOf Try.f125) rfl (of_decide_eq_true (by kernel_rfl)) (anOf [(58, [24])]) 39 41 (by kernel_rfl) rfl [.tmp 4] (by kernel_rfl) (args := [g0_1, w1_1]) (by rw [e125]; exact H)

/-! spec.l1Most -/
def t126 (P : Program) (a0_1 : Value) (b1_1 : Value) (h : Heap) (K : Value → Heap → Prop) : Prop :=
  pop P (binA .gtr 3 a0_1 b1_1) fun t7_1 =>
  condM t7_1
  (K a0_1 h)
  (K b1_1 h)
theorem e126 (a0_1 : Value) (b1_1 : Value) (h : Heap) (K : Value → Heap → Prop) : wpA Try.prog 10 (anOf []) (bodyOf Try.f126) 1 (fun A h => resA Try.prog A h K [.tmp 4]) (fun _ _ _ => False) (fun A h => resA Try.prog A h K [.tmp 4]) (aargs [a0_1, b1_1] 0) h = t126 Try.prog a0_1 b1_1 h K := by kernel_rfl
theorem c126 (a0_1 : Value) (b1_1 : Value) (h : Heap) (K : Value → Heap → Prop) (H : t126 Try.prog a0_1 b1_1 h K) : callM Try.prog 126 #[a0_1, b1_1] h K :=
  callM_of_wpA mixed (fn := Try.f126) Try.func126 (c := bodyOf Try.f126) rfl (of_decide_eq_true (by kernel_rfl)) (anOf []) 8 10 (by kernel_rfl) rfl [.tmp 4] (by kernel_rfl) (args := [a0_1, b1_1]) (by rw [e126]; exact H)

/-! (*spec.l1Cur).sinking -/
def t127 (P : Program) (c0_1 : Value) (h : Heap) (K : Value → Heap → Prop) : Prop :=
  eop P (Instr.alloc 26 true (.tuple #[])) h fun t2_1 h_1 =>
  callM P 68 #[c0_1] h_1 fun t6_1 h_2 =>
  eop P (Instr.alloc 26 true (.tuple #[])) h_2 fun g4_1 h_3 =>
  uop P (Instr.storeAt 26 g4_1 t6_1) h_3 fun u_1 h_4 =>
  ∃ J_1 : List Value → Heap → Prop, (callM P 106 #[c0_1, (Value.int IntKind.i64 3)] h_4 fun t8_1 h_5 =>
  condM t8_1
  (callM P 109 #[c0_1] h_5 fun t10_1 h_6 =>
  uop P (Instr.storeAt 26 g4_1 t10_1) h_6 fun u_2 h_7 =>
  J_1 [] h_7)
  (J_1 [] h_5)) ∧
  ∀ (junk_1 : Nat → Value) (h_8 : Heap), J_1 [] h_8 →
  rop P (Instr.loadAt 26 g4_1) h_8 fun t11_1 =>
  rop P (Instr.loadAt 26 g4_1) h_8 fun t13_1 =>
  callM P 69 #[c0_1, t13_1] h_8 fun t14_1 h_9 =>
  (∀ w : World, w.heap = h_9 → (Instr.loadAt 26 g4_1).run P w = .ok t11_1 w) ∧
  uop P (Instr.storeAt 26 t2_1 t11_1) h_9 fun u_3 h_10 =>
  rop P (Instr.loadAt 26 t2_1) h_10 fun r_1 =>
  K (.tuple #[r_1, t14_1]) h_10
theorem e127 (c0_1 : Value) (h : Heap) (K : Value → Heap → Prop) : wpA Try.prog 15 (anOf [(7, [])]) (bodyOf Try.f127) 1 (fun A h => resA Try.prog A h K [.cell 2 26, .tmp 3]) (fun _ _ _ => False) (fun A h => resA Try.prog A h K [.cell 2 26, .tmp 3]) (aargs [c0_1] 0) h = t127 Try.prog c0_1 h K := by kernel_rfl
theorem c127 (c0_1 : Value) (h : Heap) (K : Value → Heap → Prop) (H : t127 Try.prog c0_1 h K) : callM Try.prog 127 #[c0_1] h K :=
  callM_of_wpA mixed (fn := Try.f127) Try.func127 (c := bodyOf Try.f127) rfl (of_decide_eq_true (by kernel_rfl)) (anOf [(7, [])]) 14 15 (by kernel_rfl) rfl [.cell 2 26, .tmp 3] (by kernel_rfl) (args := [c0_1]) (by rw [e127]; exact H)

/-! (impl.Graph).allRotors -/
def t129 (P : Program) (g0_1 : Value) (still1_1 : Value) (with2_1 : Value) (h : Heap) (K : Value → Heap → Prop) : Prop :=
  eop P (Instr.box 26 g0_1) h fun g3_1 h_1 =>
  pop P (Instr.fieldAt 26 g3_1 0) fun t8_1 =>
  rop P (Instr.loadAt 24 t8_1) h_1 fun t9_1 =>
  pop P (lenS 24 3 t9_1) fun t10_1 =>
  eop P (Instr.makeSlice 37 t10_1 t10_1) h_1 fun t11_1 h_2 =>
  ∃ (I_1 : List Value → Heap → Prop) (μ_1 : List Value → Heap → Nat), I_1 [] h_2 ∧
  ∀ (junk_1 : Nat → Value) (h_3 : Heap), I_1 [] h_3 →
  callV P with2_1 [t11_1] h_3 fun t14_1 h_4 =>
  pop P (Op.unary .not t14_1) fun t15_1 =>
  condM t15_1
  (K (.tuple #[]) h_4)
  (pop P (lenS 37 3 t11_1) fun t17_1 =>
  pop P (binA .sub 3 t17_1 (Value.int IntKind.i64 1)) fun t18_1 =>
  ∃ (I_2 : List Value → Heap → Prop) (μ_2 : List Value → Heap → Nat), I_2 [t18_1] h_4 ∧
  ∀ (junk_2 : Nat → Value) (p7_1 : Value) (h_5 : Heap), I_2 [p7_1] h_5 →
  pop P (binA .geq 3 p7_1 (Value.int IntKind.i64 0)) fun t20_1 =>
  guardM (asG t20_1 true) true (fun k_1 => k_1 p7_1 h_5) h_5 fun t22_1 h_6 =>
  guardM (asG t20_1 true) true (fun k_2 => k_2 still1_1 h_6) h_6 fun t23_1 h_7 =>
  guardM (asG t20_1 true) true (fun k_3 => pop P (binE .eql 3 (.tmp 22) (.tmp 23) t22_1 t23_1) fun t24_1 =>
  k_3 t24_1 h_7) h_7 fun t24_2 h_8 =>
  guardM (asG t20_1 true) true (fun k_4 => k_4 t24_2 h_8) h_8 fun t25_1 h_9 =>
  guardM (asG t25_1 false) false (fun k_5 => k_5 t11_1 h_9) h_9 fun t26_1 h_10 =>
  guardM (asG t25_1 false) false (fun k_6 => k_6 p7_1 h_10) h_10 fun t27_1 h_11 =>
  guardM (asG t25_1 false) false (fun k_7 => pop P (Instr.indexAt 37 t26_1 t27_1) fun t28_1 =>
  k_7 t28_1 h_11) h_11 fun t28_2 h_12 =>
  guardM (asG t25_1 false) false (fun k_8 => rop P (Instr.loadAt 3 t28_2) h_12 fun t29_1 =>
  k_8 t29_1 h_12) h_12 fun t29_2 h_13 =>
  guardM (asG t25_1 false) false (fun k_9 => pop P (Instr.fieldAt 26 g3_1 0) fun t30_1 =>
  k_9 t30_1 h_13) h_13 fun t30_2 h_14 =>
  guardM (asG t25_1 false) false (fun k_10 => rop P (Instr.loadAt 24 t30_2) h_14 fun t31_1 =>
  k_10 t31_1 h_14) h_14 fun t31_2 h_15 =>
  guardM (asG t25_1 false) false (fun k_11 => k_11 p7_1 h_15) h_15 fun t32_1 h_16 =>
  guardM (asG t25_1 false) false (fun k_12 => pop P (Instr.indexAt 24 t31_2 t32_1) fun t33_1 =>
  k_12 t33_1 h_16) h_16 fun t33_2 h_17 =>
  guardM (asG t25_1 false) false (fun k_13 => rop P (Instr.loadAt 37 t33_2) h_17 fun t34_1 =>
  k_13 t34_1 h_17) h_17 fun t34_2 h_18 =>
  guardM (asG t25_1 false) false (fun k_14 => pop P (lenS 37 3 t34_2) fun t35_1 =>
  k_14 t35_1 h_18) h_18 fun t35_2 h_19 =>
  guardM (asG t25_1 false) false (fun k_15 => pop P (binA .sub 3 t35_2 (Value.int IntKind.i64 1)) fun t36_1 =>
  k_15 t36_1 h_19) h_19 fun t36_2 h_20 =>
  guardM (asG t25_1 false) false (fun k_16 => pop P (binA .geq 3 t29_2 t36_2) fun t37_1 =>
  k_16 t37_1 h_20) h_20 fun t37_2 h_21 =>
  guardM (asG t20_1 true) true (fun k_17 => pop P (pickS t25_1 (Value.bool true) t37_2) fun t38_1 =>
  k_17 t38_1 h_21) h_21 fun t38_2 h_22 =>
  pop P (pickS t20_1 t38_2 (Value.bool false)) fun t39_1 =>
  condM t39_1
  (pop P (Instr.indexAt 37 t11_1 p7_1) fun t42_1 =>
  uop P (Instr.storeAt 3 t42_1 (Value.int IntKind.i64 0)) h_22 fun u_1 h_23 =>
  pop P (binA .sub 3 p7_1 (Value.int IntKind.i64 1)) fun t44_1 =>
  I_2 [t44_1] h_23 ∧ μ_2 [t44_1] h_23 < μ_2 [p7_1] h_5)
  (pop P (binA .lss 3 p7_1 (Value.int IntKind.i64 0)) fun t46_1 =>
  condM t46_1
  (K (.tuple #[]) h_22)
  (pop P (Instr.indexAt 37 t11_1 p7_1) fun t49_1 =>
  rop P (Instr.loadAt 3 t49_1) h_22 fun t50_1 =>
  pop P (binA .add 3 t50_1 (Value.int IntKind.i64 1)) fun t51_1 =>
  pop P (Instr.indexAt 37 t11_1 p7_1) fun t52_1 =>
  uop P (Instr.storeAt 3 t52_1 t51_1) h_22 fun u_2 h_24 =>
  I_1 [] h_24 ∧ μ_1 [] h_24 < μ_1 [] h_3)))
theorem e129 (g0_1 : Value) (still1_1 : Value) (with2_1 : Value) (h : Heap) (K : Value → Heap → Prop) : wpA Try.prog 53 (anOf [(14, []), (908, [7])]) (bodyOf Try.f129) 1 (fun A h => resA Try.prog A h K []) (fun _ _ _ => False) (fun A h => resA Try.prog A h K []) (aargs [g0_1, still1_1, with2_1] 0) h = t129 Try.prog g0_1 still1_1 with2_1 h K := by kernel_rfl
theorem c129 (g0_1 : Value) (still1_1 : Value) (with2_1 : Value) (h : Heap) (K : Value → Heap → Prop) (H : t129 Try.prog g0_1 still1_1 with2_1 h K) : callM Try.prog 129 #[g0_1, still1_1, with2_1] h K :=
  callM_of_wpA mixed (fn := Try.f129) Try.func129 (c := bodyOf Try.f129) rfl (of_decide_eq_true (by kernel_rfl)) (anOf [(14, []), (908, [7])]) 50 53 (by kernel_rfl) rfl [] (by kernel_rfl) (args := [g0_1, still1_1, with2_1]) (by rw [e129]; exact H)

/-! impl.allTrees$1 -/
def t130 (P : Program) (rotors0_1 : Value) (t1_1 : Value) (t2_1 : Value) (t3_1 : Value) (t4_1 : Value) (h : Heap) (K : Value → Heap → Prop) : Prop :=
  ∃ J_1 : List Value → Heap → Prop, (rop P (Instr.loadAt 26 t1_1) h fun t7_1 =>
  rop P (Instr.loadAt 3 t2_1) h fun t8_1 =>
  callM P 100 #[t7_1, t8_1, rotors0_1] h fun t10_1 h_1 =>
  condM t10_1
  (rop P (Instr.loadAt 24 t3_1) h_1 fun t11_1 =>
  callM P 117 #[rotors0_1] h_1 fun t13_1 h_2 =>
  (∀ w : World, w.heap = h_2 → (Instr.loadAt 24 t3_1).run P w = .ok t11_1 w) ∧
  eop P (Instr.buildSlice 24 1 #[(0, t13_1)]) h_2 fun t14_1 h_3 =>
  (∀ w : World, w.heap = h_3 → (Instr.loadAt 24 t3_1).run P w = .ok t11_1 w) ∧
  eop P (appS 24 24 24 t11_1 t14_1) h_3 fun t15_1 h_4 =>
  uop P (Instr.storeAt 24 t3_1 t15_1) h_4 fun u_1 h_5 =>
  J_1 [] h_5)
  (J_1 [] h_1)) ∧
  ∀ (junk_1 : Nat → Value) (h_6 : Heap), J_1 [] h_6 →
  rop P (Instr.loadAt 24 t3_1) h_6 fun t16_1 =>
  pop P (lenS 24 3 t16_1) fun t17_1 =>
  rop P (Instr.loadAt 3 t4_1) h_6 fun t18_1 =>
  pop P (binA .lss 3 t17_1 t18_1) fun t19_1 =>
  K t19_1 h_6
theorem e130 (rotors0_1 : Value) (t1_1 : Value) (t2_1 : Value) (t3_1 : Value) (t4_1 : Value) (h : Heap) (K : Value → Heap → Prop) : wpA Try.prog 20 (anOf [(3, [])]) (bodyOf Try.f130) 1 (fun A h => resA Try.prog A h K [.tmp 6]) (fun _ _ _ => False) (fun A h => resA Try.prog A h K [.tmp 6]) (aargs [rotors0_1, t1_1, t2_1, t3_1, t4_1] 0) h = t130 Try.prog rotors0_1 t1_1 t2_1 t3_1 t4_1 h K := by kernel_rfl
theorem c130 (rotors0_1 : Value) (t1_1 : Value) (t2_1 : Value) (t3_1 : Value) (t4_1 : Value) (h : Heap) (K : Value → Heap → Prop) (H : t130 Try.prog rotors0_1 t1_1 t2_1 t3_1 t4_1 h K) : callM Try.prog 130 #[rotors0_1, t1_1, t2_1, t3_1, t4_1] h K :=
  callM_of_wpA mixed (fn := Try.f130) Try.func130 (c := bodyOf Try.f130) rfl (of_decide_eq_true (by kernel_rfl)) (anOf [(3, [])]) 15 20 (by kernel_rfl) rfl [.tmp 6] (by kernel_rfl) (args := [rotors0_1, t1_1, t2_1, t3_1, t4_1]) (by rw [e130]; exact H)

/-! (*spec.trSearch).look -/
def t131 (P : Program) (s0_1 : Value) (p1_1 : Value) (h : Heap) (K : Value → Heap → Prop) : Prop :=
  pop P (nilS s0_1) fun t6_1 =>
  pop P (Instr.fieldAt 126 t6_1 3) fun t7_1 =>
  rop P (Instr.loadAt 24 t7_1) h fun t8_1 =>
  pop P (lenS 24 3 t8_1) fun t9_1 =>
  pop P (nilS s0_1) fun t11_1 =>
  pop P (Instr.fieldAt 126 t11_1 4) fun t12_1 =>
  rop P (Instr.loadAt 3 t12_1) h fun t13_1 =>
  pop P (binA .gtr 3 t9_1 t13_1) fun t14_1 =>
  condM t14_1
  (K (.tuple #[]) h)
  (pop P (nilS s0_1) fun t17_1 =>
  pop P (Instr.fieldAt 126 t17_1 0) fun t18_1 =>
  pop P (Instr.fieldAt 26 t18_1 0) fun t19_1 =>
  rop P (Instr.loadAt 24 t19_1) h fun t20_1 =>
  pop P (lenS 24 3 t20_1) fun t21_1 =>
  pop P (binE .eql 3 (.tmp 15) (.tmp 21) p1_1 t21_1) fun t22_1 =>
  condM t22_1
  (pop P (nilS s0_1) fun t25_1 =>
  pop P (Instr.fieldAt 126 t25_1 3) fun t26_1 =>
  rop P (Instr.loadAt 24 t26_1) h fun t27_1 =>
  pop P (nilS s0_1) fun t29_1 =>
  pop P (Instr.fieldAt 126 t29_1 2) fun t30_1 =>
  rop P (Instr.loadAt 37 t30_1) h fun t31_1 =>
  callM P 121 #[t31_1] h fun t32_1 h_1 =>
  (∀ w : World, w.heap = h_1 → (Instr.loadAt 24 t26_1).run P w = .ok t27_1 w) ∧
  eop P (Instr.buildSlice 24 1 #[(0, t32_1)]) h_1 fun t33_1 h_2 =>
  (∀ w : World, w.heap = h_2 → (Instr.loadAt 24 t26_1).run P w = .ok t27_1 w) ∧
  eop P (appS 24 24 24 t27_1 t33_1) h_2 fun t34_1 h_3 =>
  pop P (nilS s0_1) fun t35_1 =>
  pop P (Instr.fieldAt 126 t35_1 3) fun t36_1 =>
  uop P (Instr.storeAt 24 t36_1 t34_1) h_3 fun u_1 h_4 =>
  K (.tuple #[]) h_4)
  (pop P (nilS s0_1) fun t39_1 =>
  pop P (Instr.fieldAt 126 t39_1 1) fun t40_1 =>
  rop P (Instr.loadAt 3 t40_1) h fun t41_1 =>
  pop P (binE .eql 3 (.tmp 37) (.tmp 41) p1_1 t41_1) fun t42_1 =>
  condM t42_1
  (pop P (binA .add 3 p1_1 (Value.int IntKind.i64 1)) fun t45_1 =>
  callM P 131 #[s0_1, t45_1] h fun t46_1 h_5 =>
  K (.tuple #[]) h_5)
  (pop P (nilS s0_1) fun t48_1 =>
  pop P (Instr.fieldAt 126 t48_1 0) fun t49_1 =>
  pop P (Instr.fieldAt 26 t49_1 0) fun t50_1 =>
  rop P (Instr.loadAt 24 t50_1) h fun t51_1 =>
  pop P (Instr.indexAt 24 t51_1 p1_1) fun t53_1 =>
  rop P (Instr.loadAt 37 t53_1) h fun t54_1 =>
  pop P (lenS 37 3 t54_1) fun t55_1 =>
  ∃ (I_1 : List Value → Heap → Prop) (μ_1 : List Value → Heap → Nat), I_1 [(Value.int IntKind.i64 0)] h ∧
  ∀ (junk_1 : Nat → Value) (t56_1 : Value) (h_6 : Heap), I_1 [t56_1] h_6 →
  pop P (binA .lss 3 t56_1 t55_1) fun t57_1 =>
  condM t57_1
  (pop P (nilS s0_1) fun t60_1 =>
  pop P (Instr.fieldAt 126 t60_1 2) fun t61_1 =>
  rop P (Instr.loadAt 37 t61_1) h_6 fun t62_1 =>
  pop P (Instr.indexAt 37 t62_1 p1_1) fun t65_1 =>
  uop P (Instr.storeAt 3 t65_1 t56_1) h_6 fun u_2 h_7 =>
  callM P 140 #[s0_1, p1_1] h_7 fun t68_1 h_8 =>
  pop P (Op.unary .not t68_1) fun t69_1 =>
  condM t69_1
  (pop P (binA .add 3 p1_1 (Value.int IntKind.i64 1)) fun t72_1 =>
  callM P 131 #[s0_1, t72_1] h_8 fun t73_1 h_9 =>
  pop P (binA .add 3 t56_1 (Value.int IntKind.i64 1)) fun t74_1 =>
  I_1 [t74_1] h_9 ∧ μ_1 [t74_1] h_9 < μ_1 [t56_1] h_6)
  (pop P (binA .add 3 t56_1 (Value.int IntKind.i64 1)) fun t74_2 =>
  I_1 [t74_2] h_8 ∧ μ_1 [t74_2] h_8 < μ_1 [t56_1] h_6))
  (pop P (nilS s0_1) fun t76_1 =>
  pop P (Instr.fieldAt 126 t76_1 2) fun t77_1 =>
  rop P (Instr.loadAt 37 t77_1) h_6 fun t78_1 =>
  pop P (Instr.indexAt 37 t78_1 p1_1) fun t80_1 =>
  uop P (Instr.storeAt 3 t80_1 (Value.int IntKind.i64 0)) h_6 fun u_3 h_10 =>
  K (.tuple #[]) h_10))))
theorem e131 (s0_1 : Value) (p1_1 : Value) (h : Heap) (K : Value → Heap → Prop) : wpA Try.prog 81 (anOf [(122, [56])]) (bodyOf Try.f131) 1 (fun A h => resA Try.prog A h K []) (fun _ _ _ => False) (fun A h => resA Try.prog A h K []) (aargs [s0_1, p1_1] 0) h = t131 Try.prog s0_1 p1_1 h K := by kernel_rfl
theorem c131 (s0_1 : Value) (p1_1 : Value) (h : Heap) (K : Value → Heap → Prop) (H : t131 Try.prog s0_1 p1_1 h K) : callM Try.prog 131 #[s0_1, p1_1] h K :=
  callM_of_wpA mixed (fn := Try.f131) Try.func131 (c := bodyOf Try.f131) rfl (of_decide_eq_true (by kernel_rfl)) (anOf [(122, [56])]) 79 81 (by kernel_rfl) rfl [] (by kernel_rfl) (args := [s0_1, p1_1]) (by rw [e131]; exact H)

/-! slices.IndexFunc[[]int,int] -/
def t132 (P : Program) (s0_1 : Value) (f1_1 : Value) (h : Heap) (K : Value → Heap → Prop) : Prop :=
  pop P (lenS 37 3 s0_1) fun t7_1 =>
  ∃ (I_1 : List Value → Heap → Prop) (μ_1 : List Value → Heap → Nat), I_1 [(Value.int IntKind.i64 0)] h ∧
  ∀ (junk_1 : Nat → Value) (t8_1 : Value) (h_1 : Heap), I_1 [t8_1] h_1 →
  pop P (binA .lss 3 t8_1 t7_1) fun t9_1 =>
  condM t9_1
  (pop P (Instr.indexAt 37 s0_1 t8_1) fun t14_1 =>
  rop P (Instr.loadAt 3 t14_1) h_1 fun t15_1 =>
  callV P f1_1 [t15_1] h_1 fun t16_1 h_2 =>
  condM t16_1
  (K t8_1 h_2)
  (pop P (binA .add 3 t8_1 (Value.int IntKind.i64 1)) fun t18_1 =>
  I_1 [t18_1] h_2 ∧ μ_1 [t18_1] h_2 < μ_1 [t8_1] h_1))
  (K (Value.int IntKind.i64 (-1)) h_1)
theorem e132 (s0_1 : Value) (f1_1 : Value) (h : Heap) (K : Value → Heap → Prop) : wpA Try.prog 19 (anOf [(26, [8])]) (bodyOf Try.f132) 1 (fun A h => resA Try.prog A h K [.tmp 4]) (fun _ _ _ => False) (fun A h => resA Try.prog A h K [.tmp 4]) (aargs [s0_1, f1_1] 0) h = t132 Try.prog s0_1 f1_1 h K := by kernel_rfl
theorem c132 (s0_1 : Value) (f1_1 : Value) (h : Heap) (K : Value → Heap → Prop) (H : t132 Try.prog s0_1 f1_1 h K) : callM Try.prog 132 #[s0_1, f1_1] h K :=
  callM_of_wpA mixed (fn := Try.f132) Try.func132 (c := bodyOf Try.f132) rfl (of_decide_eq_true (by kernel_rfl)) (anOf [(26, [8])]) 17 19 (by kernel_rfl) rfl [.tmp 4] (by kernel_rfl) (args := [s0_1, f1_1]) (by rw [e132]; exact H)

/-! (impl.Graph).next -/
def t133 (P : Program) (g0_1 : Value) (rotors1_1 : Value) (p2_1 : Value) (h : Heap) (K : Value → Heap → Prop) : Prop :=
  eop P (Instr.box 26 g0_1) h fun g3_1 h_1 =>
  pop P (Instr.fieldAt 26 g3_1 0) fun t7_1 =>
  rop P (Instr.loadAt 24 t7_1) h_1 fun t8_1 =>
  pop P (Instr.indexAt 24 t8_1 p2_1) fun t10_1 =>
  rop P (Instr.loadAt 37 t10_1) h_1 fun t11_1 =>
  pop P (lenS 37 3 t11_1) fun t12_1 =>
  pop P (binE .eql 3 (.tmp 12) (.const (Value.int IntKind.i64 0)) t12_1 (Value.int IntKind.i64 0)) fun t13_1 =>
  condM t13_1
  (K (Value.int IntKind.i64 (-1)) h_1)
  (pop P (Instr.fieldAt 26 g3_1 0) fun t14_1 =>
  rop P (Instr.loadAt 24 t14_1) h_1 fun t15_1 =>
  pop P (Instr.indexAt 24 t15_1 p2_1) fun t17_1 =>
  rop P (Instr.loadAt 37 t17_1) h_1 fun t18_1 =>
  pop P (Instr.indexAt 37 rotors1_1 p2_1) fun t21_1 =>
  rop P (Instr.loadAt 3 t21_1) h_1 fun t22_1 =>
  pop P (Instr.indexAt 37 t18_1 t22_1) fun t23_1 =>
  rop P (Instr.loadAt 3 t23_1) h_1 fun t24_1 =>
  K t24_1 h_1)
theorem e133 (g0_1 : Value) (rotors1_1 : Value) (p2_1 : Value) (h : Heap) (K : Value → Heap → Prop) : wpA Try.prog 25 (anOf []) (bodyOf Try.f133) 1 (fun A h => resA Try.prog A h K [.tmp 6]) (fun _ _ _ => False) (fun A h => resA Try.prog A h K [.tmp 6]) (aargs [g0_1, rotors1_1, p2_1] 0) h = t133 Try.prog g0_1 rotors1_1 p2_1 h K := by kernel_rfl
theorem c133 (g0_1 : Value) (rotors1_1 : Value) (p2_1 : Value) (h : Heap) (K : Value → Heap → Prop) (H : t133 Try.prog g0_1 rotors1_1 p2_1 h K) : callM Try.prog 133 #[g0_1, rotors1_1, p2_1] h K :=
  callM_of_wpA mixed (fn := Try.f133) Try.func133 (c := bodyOf Try.f133) rfl (of_decide_eq_true (by kernel_rfl)) (anOf []) 22 25 (by kernel_rfl) rfl [.tmp 6] (by kernel_rfl) (args := [g0_1, rotors1_1, p2_1]) (by rw [e133]; exact H)

/-! spec.trNext -/
def t134 (P : Program) (g0_1 : Value) (rotors1_1 : Value) (p2_1 : Value) (h : Heap) (K : Value → Heap → Prop) : Prop :=
  eop P (Instr.box 26 g0_1) h fun g3_1 h_1 =>
  pop P (Instr.fieldAt 26 g3_1 0) fun t7_1 =>
  rop P (Instr.loadAt 24 t7_1) h_1 fun t8_1 =>
  pop P (Instr.indexAt 24 t8_1 p2_1) fun t10_1 =>
  rop P (Instr.loadAt 37 t10_1) h_1 fun t11_1 =>
  pop P (lenS 37 3 t11_1) fun t12_1 =>
  pop P (binE .eql 3 (.tmp 12) (.const (Value.int IntKind.i64 0)) t12_1 (Value.int IntKind.i64 0)) fun t13_1 =>
  condM t13_1
  (K (Value.int IntKind.i64 (-1)) h_1)
  (pop P (Instr.fieldAt 26 g3_1 0) fun t14_1 =>
  rop P (Instr.loadAt 24 t14_1) h_1 fun t15_1 =>
  pop P (Instr.indexAt 24 t15_1 p2_1) fun t17_1 =>
  rop P (Instr.loadAt 37 t17_1) h_1 fun t18_1 =>
  pop P (Instr.indexAt 37 rotors1_1 p2_1) fun t21_1 =>
  rop P (Instr.loadAt 3 t21_1) h_1 fun t22_1 =>
  pop P (Instr.indexAt 37 t18_1 t22_1) fun t23_1 =>
  rop P (Instr.loadAt 3 t23_1) h_1 fun t24_1 =>
  K t24_1 h_1)
theorem e134 (g0_1 : Value) (rotors1_1 : Value) (p2_1 : Value) (h : Heap) (K : Value → Heap → Prop) : wpA Try.prog 25 (anOf []) (bodyOf Try.f134) 1 (fun A h => resA Try.prog A h K [.tmp 6]) (fun _ _ _ => False) (fun A h => resA Try.prog A h K [.tmp 6]) (aargs [g0_1, rotors1_1, p2_1] 0) h = t134 Try.prog g0_1 rotors1_1 p2_1 h K := by kernel_rfl
theorem c134 (g0_1 : Value) (rotors1_1 : Value) (p2_1 : Value) (h : Heap) (K : Value → Heap → Prop) (H : t134 Try.prog g0_1 rotors1_1 p2_1 h K) : callM Try.prog 134 #[g0_1, rotors1_1, p2_1] h K :=
  callM_of_wpA mixed (fn := Try.f134) Try.func134 (c := bodyOf Try.f134) rfl (of_decide_eq_true (by kernel_rfl)) (anOf []) 22 25 (by kernel_rfl) rfl [.tmp 6] (by kernel_rfl) (args := [g0_1, rotors1_1, p2_1]) (by rw [e134]; exact H)

/-! spec.grCycle -/
def t135 (P : Program) (n0_1 : Value) (both1_1 : Value) (h : Heap) (K : Value → Heap → Prop) : Prop :=
  eop P (Instr.alloc 26 true (.tuple #[])) h fun t4_1 h_1 =>
  pop P (Instr.build 26 #[]) fun t8_1 =>
  eop P (Instr.alloc 26 true (.tuple #[])) h_1 fun g5_1 h_2 =>
  uop P (Instr.storeAt 26 g5_1 t8_1) h_2 fun u_1 h_3 =>
  ∃ (I_1 : List Value → Heap → Prop) (μ_1 : List Value → Heap → Nat), I_1 [(Value.int IntKind.i64 0)] h_3 ∧
  ∀ (junk_1 : Nat → Value) (p6_1 : Value) (h_4 : Heap), I_1 [p6_1] h_4 →
  pop P (binA .lss 3 p6_1 n0_1) fun t11_1 =>
  condM t11_1
  (pop P (binA .add 3 p6_1 (Value.int IntKind.i64 1)) fun t15_1 =>
  pop P (binA .rem 3 t15_1 n0_1) fun t17_1 =>
  eop P (Instr.buildSlice 37 1 #[(0, t17_1)]) h_4 fun t18_1 h_5 =>
  ∃ J_1 : List Value → Heap → Prop, (condM both1_1
  (pop P (binA .add 3 p6_1 n0_1) fun t23_1 =>
  pop P (binA .sub 3 t23_1 (Value.int IntKind.i64 1)) fun t24_1 =>
  pop P (binA .rem 3 t24_1 n0_1) fun t26_1 =>
  eop P (Instr.buildSlice 37 1 #[(0, t26_1)]) h_5 fun t27_1 h_6 =>
  eop P (appS 37 37 37 t18_1 t27_1) h_6 fun t28_1 h_7 =>
  J_1 [t28_1] h_7)
  (J_1 [t18_1] h_5)) ∧
  ∀ (junk_2 : Nat → Value) (list7_1 : Value) (h_8 : Heap), J_1 [list7_1] h_8 →
  pop P (Instr.fieldAt 26 g5_1 0) fun t29_1 =>
  rop P (Instr.loadAt 24 t29_1) h_8 fun t30_1 =>
  eop P (Instr.buildSlice 24 1 #[(0, list7_1)]) h_8 fun t32_1 h_9 =>
  eop P (appS 24 24 24 t30_1 t32_1) h_9 fun t33_1 h_10 =>
  pop P (Instr.fieldAt 26 g5_1 0) fun t34_1 =>
  uop P (Instr.storeAt 24 t34_1 t33_1) h_10 fun u_2 h_11 =>
  pop P (binA .add 3 p6_1 (Value.int IntKind.i64 1)) fun t13_1 =>
  I_1 [t13_1] h_11 ∧ μ_1 [t13_1] h_11 < μ_1 [p6_1] h_4)
  (rop P (Instr.loadAt 26 g5_1) h_4 fun t35_1 =>
  uop P (Instr.storeAt 26 t4_1 t35_1) h_4 fun u_3 h_12 =>
  rop P (Instr.loadAt 26 t4_1) h_12 fun r_1 =>
  K r_1 h_12)
theorem e135 (n0_1 : Value) (both1_1 : Value) (h : Heap) (K : Value → Heap → Prop) : wpA Try.prog 36 (anOf [(58, [6]), (1865, [7])]) (bodyOf Try.f135) 1 (fun A h => resA Try.prog A h K [.cell 4 26]) (fun _ _ _ => False) (fun A h => resA Try.prog A h K [.cell 4 26]) (aargs [n0_1, both1_1] 0) h = t135 Try.prog n0_1 both1_1 h K := by kernel_rfl
theorem c135 (n0_1 : Value) (both1_1 : Value) (h : Heap) (K : Value → Heap → Prop) (H : t135 Try.prog n0_1 both1_1 h K) : callM Try.prog 135 #[n0_1, both1_1] h K :=
  callM_of_wpA mixed (fn := Try.f135) Try.func135 (c := bodyOf Try.f135) rfl (of_decide_eq_true (by kernel_rfl)) (anOf [(58, [6]), (1865, [7])]) 34 36 (by kernel_rfl) rfl [.cell 4 26] (by kernel_rfl) (args := [n0_1, both1_1]) (by rw [e135]; exact H)

/-! (*spec.l1Cur).shuffled -/
def t136 (P : Program) (c0_1 : Value) (n1_1 : Value) (h : Heap) (K : Value → Heap → Prop) : Prop :=
  ∃ (I_1 : List Value → Heap → Prop) (μ_1 : List Value → Heap → Nat), I_1 [(Value.slice none 0 0), (Value.int IntKind.i64 0)] h ∧
  ∀ (junk_1 : Nat → Value) (out5_1 : Value) (p6_1 : Value) (h_1 : Heap), I_1 [out5_1, p6_1] h_1 →
  pop P (binA .lss 3 p6_1 n1_1) fun t12_1 =>
  condM t12_1
  (eop P (Instr.buildSlice 37 1 #[(0, p6_1)]) h_1 fun t17_1 h_2 =>
  eop P (appS 37 37 37 out5_1 t17_1) h_2 fun t18_1 h_3 =>
  pop P (binA .add 3 p6_1 (Value.int IntKind.i64 1)) fun t14_1 =>
  I_1 [t18_1, t14_1] h_3 ∧ μ_1 [t18_1, t14_1] h_3 < μ_1 [out5_1, p6_1] h_1)
  (pop P (lenS 37 3 out5_1) fun t20_1 =>
  ∃ (I_2 : List Value → Heap → Prop) (μ_2 : List Value → Heap → Nat), I_2 [(Value.int IntKind.i64 0)] h_1 ∧
  ∀ (junk_2 : Nat → Value) (t21_1 : Value) (h_4 : Heap), I_2 [t21_1] h_4 →
  pop P (binA .lss 3 t21_1 t20_1) fun t22_1 =>
  condM t22_1
  (callM P 70 #[c0_1, n1_1] h_4 fun t26_1 h_5 =>
  pop P (Instr.indexAt 37 out5_1 t21_1) fun t29_1 =>
  rop P (Instr.loadAt 3 t29_1) h_5 fun t30_1 =>
  pop P (Instr.indexAt 37 out5_1 t26_1) fun t35_1 =>
  rop P (Instr.loadAt 3 t35_1) h_5 fun t36_1 =>
  pop P (Instr.indexAt 37 out5_1 t21_1) fun t37_1 =>
  uop P (Instr.storeAt 3 t37_1 t36_1) h_5 fun u_1 h_6 =>
  pop P (Instr.indexAt 37 out5_1 t26_1) fun t41_1 =>
  uop P (Instr.storeAt 3 t41_1 t30_1) h_6 fun u_2 h_7 =>
  pop P (binA .add 3 t21_1 (Value.int IntKind.i64 1)) fun t42_1 =>
  I_2 [t42_1] h_7 ∧ μ_2 [t42_1] h_7 < μ_2 [t21_1] h_4)
  (K out5_1 h_4))
theorem e136 (c0_1 : Value) (n1_1 : Value) (h : Heap) (K : Value → Heap → Prop) : wpA Try.prog 44 (anOf [(58, [5, 6]), (122, [21])]) (bodyOf Try.f136) 1 (fun A h => resA Try.prog A h K [.tmp 4]) (fun _ _ _ => False) (fun A h => resA Try.prog A h K [.tmp 4]) (aargs [c0_1, n1_1] 0) h = t136 Try.prog c0_1 n1_1 h K := by kernel_rfl
theorem c136 (c0_1 : Value) (n1_1 : Value) (h : Heap) (K : Value → Heap → Prop) (H : t136 Try.prog c0_1 n1_1 h K) : callM Try.prog 136 #[c0_1, n1_1] h K :=
  callM_of_wpA mixed (fn := Try.f136) Try.func136 (c := bodyOf Try.f136) rfl (of_decide_eq_true (by kernel_rfl)) (anOf [(58, [5, 6]), (122, [21])]) 42 44 (by kernel_rfl) rfl [.tmp 4] (by kernel_rfl) (args := [c0_1, n1_1]) (by rw [e136]; exact H)

/-! slices.Repeat[[]int,int] -/
def t137 (P : Program) (x0_1 : Value) (count1_1 : Value) (h : Heap) (K : Value → Heap → Prop) : Prop :=
  ∃ J_1 : List Value → Heap → Prop, (pop P (binA .lss 3 count1_1 (Value.int IntKind.i64 0)) fun t10_1 =>
  condM t10_1
  (pop P (Instr.makeInterface 9 (Value.string { data := #[99, 97, 110, 110, 111, 116, 32, 98, 101, 32, 110, 101, 103, 97, 116, 105, 118, 101] })) fun t11_1 =>
  False)
  (J_1 [] h)) ∧
  ∀ (junk_1 : Nat → Value) (h_1 : Heap), J_1 [] h_1 →
  pop P (lenS 37 3 x0_1) fun t14_1 =>
  rop P (convert 3 132 t14_1) h_1 fun t15_1 =>
  rop P (convert 3 132 count1_1) h_1 fun t17_1 =>
  callM P 141 #[t15_1, t17_1] h_1 fun t18_1 h_2 =>
  pop P (Instr.extract t18_1 0) fun t19_1 =>
  pop P (Instr.extract t18_1 1) fun t20_1 =>
  ∃ J_2 : List Value → Heap → Prop, (pop P (binA .gtr 132 t19_1 (Value.int IntKind.u64 0)) fun t22_1 =>
  guardM (asG t22_1 false) false (fun k_1 => k_1 t20_1 h_2) h_2 fun t24_1 h_3 =>
  guardM (asG t22_1 false) false (fun k_2 => pop P (binA .gtr 132 t24_1 (Value.int IntKind.u64 9223372036854775807)) fun t25_1 =>
  k_2 t25_1 h_3) h_3 fun t25_2 h_4 =>
  pop P (pickS t22_1 (Value.bool true) t25_2) fun t26_1 =>
  condM t26_1
  (pop P (Instr.makeInterface 9 (Value.string { data := #[116, 104, 101, 32, 114, 101, 115, 117, 108, 116, 32, 111, 102, 32, 40, 108, 101, 110, 40, 120, 41, 32, 42, 32, 99, 111, 117, 110, 116, 41, 32, 111, 118, 101, 114, 102, 108, 111, 119, 115] })) fun t27_1 =>
  False)
  (J_2 [] h_4)) ∧
  ∀ (junk_2 : Nat → Value) (h_5 : Heap), J_2 [] h_5 →
  rop P (convert 132 3 t20_1) h_5 fun t29_1 =>
  eop P (Instr.makeSlice 37 t29_1 t29_1) h_5 fun t30_1 h_6 =>
  eop P (Builtin.copy_ #[37, 37] 3 #[t30_1, x0_1]) h_6 fun t33_1 h_7 =>
  ∃ (I_1 : List Value → Heap → Prop) (μ_1 : List Value → Heap → Nat), I_1 [t33_1] h_7 ∧
  ∀ (junk_3 : Nat → Value) (n8_1 : Value) (h_8 : Heap), I_1 [n8_1] h_8 →
  pop P (lenS 37 3 t30_1) fun t36_1 =>
  pop P (binA .lss 3 n8_1 t36_1) fun t37_1 =>
  condM t37_1
  (pop P (Instr.sliceAt 37 t30_1 (some n8_1) none none) fun t41_1 =>
  pop P (Instr.sliceAt 37 t30_1 none (some n8_1) none) fun t44_1 =>
  eop P (Builtin.copy_ #[37, 37] 3 #[t41_1, t44_1]) h_8 fun t45_1 h_9 =>
  pop P (binA .add 3 n8_1 t45_1) fun t46_1 =>
  I_1 [t46_1] h_9 ∧ μ_1 [t46_1] h_9 < μ_1 [n8_1] h_8)
  (K t30_1 h_8)
theorem e137 (x0_1 : Value) (count1_1 : Value) (h : Heap) (K : Value → Heap → Prop) : wpA Try.prog 48 (anOf [(3, []), (15, []), (508, [8])]) (bodyOf Try.f137) 1 (fun A h => resA Try.prog A h K [.tmp 4]) (fun _ _ _ => False) (fun A h => resA Try.prog A h K [.tmp 4]) (aargs [x0_1, count1_1] 0) h = t137 Try.prog x0_1 count1_1 h K := by kernel_rfl
theorem c137 (x0_1 : Value) (count1_1 : Value) (h : Heap) (K : Value → Heap → Prop) (H : t137 Try.prog x0_1 count1_1 h K) : callM Try.prog 137 #[x0_1, count1_1] h K :=
  callM_of_wpA mixed (fn := Try.f137) Try.func137 (c := bodyOf Try.f137) rfl (of_decide_eq_true (by kernel_rfl)) (anOf [(3, []), (15, []), (508, [8])]) 46 48 (by kernel_rfl) rfl [.tmp 4] (by kernel_rfl) (args := [x0_1, count1_1]) (by rw [e137]; exact H)

/-! impl.isGraph$1 -/
def t138 (P : Program) (q0_1 : Value) (t1_1 : Value) (h : Heap) (K : Value → Heap → Prop) : Prop :=
  rop P (Instr.loadAt 3 t1_1) h fun t5_1 =>
  pop P (binA .sub 3 t5_1 (Value.int IntKind.i64 1)) fun t6_1 =>
  callM P 71 #[q0_1, (Value.int IntKind.i64 0), t6_1] h fun t7_1 h_1 =>
  pop P (Op.unary .not t7_1) fun t8_1 =>
  K t8_1 h_1
theorem e138 (q0_1 : Value) (t1_1 : Value) (h : Heap) (K : Value → Heap → Prop) : wpA Try.prog 9 (anOf []) (bodyOf Try.f138) 1 (fun A h => resA Try.prog A h K [.tmp 3]) (fun _ _ _ => False) (fun A h => resA Try.prog A h K [.tmp 3]) (aargs [q0_1, t1_1] 0) h = t138 Try.prog q0_1 t1_1 h K := by kernel_rfl
theorem c138 (q0_1 : Value) (t1_1 : Value) (h : Heap) (K : Value → Heap → Prop) (H : t138 Try.prog q0_1 t1_1 h K) : callM Try.prog 138 #[q0_1, t1_1] h K :=
  callM_of_wpA mixed (fn := Try.f138) Try.func138 (c := bodyOf Try.f138) rfl (of_decide_eq_true (by kernel_rfl)) (anOf []) 7 9 (by kernel_rfl) rfl [.tmp 3] (by kernel_rfl) (args := [q0_1, t1_1]) (by rw [e138]; exact H)

/-! impl.isWalk -/
def t139 (P : Program) (g0_1 : Value) (w1_1 : Value) (h : Heap) (K : Value → Heap → Prop) : Prop :=
  eop P (Instr.box 26 g0_1) h fun g2_1 h_1 =>
  eop P (Instr.box 114 w1_1) h_1 fun w3_1 h_2 =>
  rop P (Instr.loadAt 26 g2_1) h_2 fun t7_1 =>
  pop P (Instr.fieldAt 114 w3_1 1) fun t8_1 =>
  rop P (Instr.loadAt 3 t8_1) h_2 fun t9_1 =>
  eop P (Instr.buildSlice 37 1 #[(0, t9_1)]) h_2 fun t10_1 h_3 =>
  callM P 63 #[t7_1, t10_1] h_3 fun t11_1 h_4 =>
  pop P (Op.unary .not t11_1) fun t12_1 =>
  guardM (asG t12_1 false) false (fun k_1 => pop P (Instr.fieldAt 114 w3_1 0) fun t14_1 =>
  k_1 t14_1 h_4) h_4 fun t14_2 h_5 =>
  guardM (asG t12_1 false) false (fun k_2 => rop P (Instr.loadAt 37 t14_2) h_5 fun t15_1 =>
  k_2 t15_1 h_5) h_5 fun t15_2 h_6 =>
  guardM (asG t12_1 false) false (fun k_3 => pop P (lenS 37 3 t15_2) fun t16_1 =>
  k_3 t16_1 h_6) h_6 fun t16_2 h_7 =>
  guardM (asG t12_1 false) false (fun k_4 => pop P (Instr.fieldAt 26 g2_1 0) fun t17_1 =>
  k_4 t17_1 h_7) h_7 fun t17_2 h_8 =>
  guardM (asG t12_1 false) false (fun k_5 => rop P (Instr.loadAt 24 t17_2) h_8 fun t18_1 =>
  k_5 t18_1 h_8) h_8 fun t18_2 h_9 =>
  guardM (asG t12_1 false) false (fun k_6 => pop P (lenS 24 3 t18_2) fun t19_1 =>
  k_6 t19_1 h_9) h_9 fun t19_2 h_10 =>
  guardM (asG t12_1 false) false (fun k_7 => pop P (binE .neq 3 (.tmp 16) (.tmp 19) t16_2 t19_2) fun t20_1 =>
  k_7 t20_1 h_10) h_10 fun t20_2 h_11 =>
  pop P (pickS t12_1 (Value.bool true) t20_2) fun t21_1 =>
  condM t21_1
  (K (Value.bool false) h_11)
  (pop P (Instr.fieldAt 114 w3_1 0) fun t22_1 =>
  rop P (Instr.loadAt 37 t22_1) h_11 fun t23_1 =>
  pop P (lenS 37 3 t23_1) fun t24_1 =>
  ∃ (I_1 : List Value → Heap → Prop) (μ_1 : List Value → Heap → Nat), I_1 [(Value.int IntKind.i64 0)] h_11 ∧
  ∀ (junk_1 : Nat → Value) (t25_1 : Value) (h_12 : Heap), I_1 [t25_1] h_12 →
  pop P (binA .lss 3 t25_1 t24_1) fun t26_1 =>
  condM t26_1
  (pop P (Instr.indexAt 37 t23_1 t25_1) fun t28_1 =>
  rop P (Instr.loadAt 3 t28_1) h_12 fun t29_1 =>
  pop P (Instr.fieldAt 26 g2_1 0) fun t31_1 =>
  rop P (Instr.loadAt 24 t31_1) h_12 fun t32_1 =>
  pop P (Instr.indexAt 24 t32_1 t25_1) fun t34_1 =>
  rop P (Instr.loadAt 37 t34_1) h_12 fun t35_1 =>
  pop P (lenS 37 3 t35_1) fun t36_1 =>
  pop P (binA .sub 3 t36_1 (Value.int IntKind.i64 1)) fun t37_1 =>
  pop P (Builtin.max_ #[3, 3] 3 #[t37_1, (Value.int IntKind.i64 0)]) fun t38_1 =>
  callM P 71 #[t29_1, (Value.int IntKind.i64 0), t38_1] h_12 fun t39_1 h_13 =>
  pop P (Op.unary .not t39_1) fun t40_1 =>
  condM t40_1
  (K (Value.bool false) h_13)
  (pop P (binA .add 3 t25_1 (Value.int IntKind.i64 1)) fun t41_1 =>
  I_1 [t41_1] h_13 ∧ μ_1 [t41_1] h_13 < μ_1 [t25_1] h_12))
  (K (Value.bool true) h_12))
theorem e139 (g0_1 : Value) (w1_1 : Value) (h : Heap) (K : Value → Heap → Prop) : wpA Try.prog 42 (anOf [(58, [25])]) (bodyOf Try.f139) 1 (fun A h => resA Try.prog A h K [.tmp 4]) (fun _ _ _ => False) (fun A h => resA Try.prog A h K [.tmp 4]) (aargs [g0_1, w1_1] 0) h = t139 Try.prog g0_1 w1_1 h K := by kernel_rfl
theorem c139 (g0_1 : Value) (w1_1 : Value) (h : Heap) (K : Value → Heap → Prop) (H : t139 Try.prog g0_1 w1_1 h K) : callM Try.prog 139 #[g0_1, w1_1] h K :=
  callM_of_wpA mixed (fn := Try.f139) Try.func139 (c := bodyOf Try.f139) rfl (of_decide_eq_true (by kernel_rfl)) (anOf [(58, [25])]) 40 42 (by kernel_rfl) rfl [.tmp 4] (by kernel_rfl) (args := [g0_1, w1_1]) (by rw [e139]; exact H)

/-! (*spec.trSearch).loops -/
def t140 (P : Program) (s0_1 : Value) (p1_1 : Value) (h : Heap) (K : Value → Heap → Prop) : Prop :=
  ∃ (I_1 : List Value → Heap → Prop) (μ_1 : List Value → Heap → Nat), I_1 [p1_1, (Value.int IntKind.i64 0)] h ∧
  ∀ (junk_1 : Nat → Value) (q5_1 : Value) (n6_1 : Value) (h_1 : Heap), I_1 [q5_1, n6_1] h_1 →
  pop P (nilS s0_1) fun t10_1 =>
  pop P (Instr.fieldAt 126 t10_1 0) fun t11_1 =>
  pop P (Instr.fieldAt 26 t11_1 0) fun t12_1 =>
  rop P (Instr.loadAt 24 t12_1) h_1 fun t13_1 =>
  pop P (lenS 24 3 t13_1) fun t14_1 =>
  pop P (binA .leq 3 n6_1 t14_1) fun t15_1 =>
  condM t15_1
  (pop P (nilS s0_1) fun t20_1 =>
  pop P (Instr.fieldAt 126 t20_1 1) fun t21_1 =>
  rop P (Instr.loadAt 3 t21_1) h_1 fun t22_1 =>
  pop P (binE .eql 3 (.tmp 18) (.tmp 22) q5_1 t22_1) fun t23_1 =>
  guardM (asG t23_1 false) false (fun k_1 => k_1 q5_1 h_1) h_1 fun t25_1 h_2 =>
  guardM (asG t23_1 false) false (fun k_2 => k_2 p1_1 h_2) h_2 fun t26_1 h_3 =>
  guardM (asG t23_1 false) false (fun k_3 => pop P (binA .gtr 3 t25_1 t26_1) fun t27_1 =>
  k_3 t27_1 h_3) h_3 fun t27_2 h_4 =>
  pop P (pickS t23_1 (Value.bool true) t27_2) fun t28_1 =>
  condM t28_1
  (K (Value.bool false) h_4)
  (pop P (nilS s0_1) fun t30_1 =>
  pop P (Instr.fieldAt 126 t30_1 0) fun t31_1 =>
  rop P (Instr.loadAt 26 t31_1) h_4 fun t32_1 =>
  pop P (nilS s0_1) fun t34_1 =>
  pop P (Instr.fieldAt 126 t34_1 2) fun t35_1 =>
  rop P (Instr.loadAt 37 t35_1) h_4 fun t36_1 =>
  callM P 134 #[t32_1, t36_1, q5_1] h_4 fun t38_1 h_5 =>
  pop P (binA .lss 3 t38_1 (Value.int IntKind.i64 0)) fun t40_1 =>
  condM t40_1
  (K (Value.bool true) h_5)
  (pop P (binA .add 3 n6_1 (Value.int IntKind.i64 1)) fun t17_1 =>
  I_1 [t38_1, t17_1] h_5 ∧ μ_1 [t38_1, t17_1] h_5 < μ_1 [q5_1, n6_1] h_1)))
  (K (Value.bool true) h_1)
theorem e140 (s0_1 : Value) (p1_1 : Value) (h : Heap) (K : Value → Heap → Prop) : wpA Try.prog 41 (anOf [(58, [5, 6])]) (bodyOf Try.f140) 1 (fun A h => resA Try.prog A h K [.tmp 4]) (fun _ _ _ => False) (fun A h => resA Try.prog A h K [.tmp 4]) (aargs [s0_1, p1_1] 0) h = t140 Try.prog s0_1 p1_1 h K := by kernel_rfl
theorem c140 (s0_1 : Value) (p1_1 : Value) (h : Heap) (K : Value → Heap → Prop) (H : t140 Try.prog s0_1 p1_1 h K) : callM Try.prog 140 #[s0_1, p1_1] h K :=
  callM_of_wpA mixed (fn := Try.f140) Try.func140 (c := bodyOf Try.f140) rfl (of_decide_eq_true (by kernel_rfl)) (anOf [(58, [5, 6])]) 39 41 (by kernel_rfl) rfl [.tmp 4] (by kernel_rfl) (args := [s0_1, p1_1]) (by rw [e140]; exact H)

/-! math/bits.Mul -/
def t141 (P : Program) (x0_1 : Value) (y1_1 : Value) (h : Heap) (K : Value → Heap → Prop) : Prop :=
  condM (Value.bool false)
  (rop P (convert 132 135 x0_1) h fun t12_1 =>
  rop P (convert 132 135 y1_1) h fun t14_1 =>
  callM P 142 #[t12_1, t14_1] h fun t15_1 h_1 =>
  pop P (Instr.extract t15_1 0) fun t16_1 =>
  pop P (Instr.extract t15_1 1) fun t17_1 =>
  rop P (convert 135 132 t16_1) h_1 fun t19_1 =>
  rop P (convert 135 132 t17_1) h_1 fun t21_1 =>
  K (.tuple #[t19_1, t21_1]) h_1)
  (callM P 143 #[x0_1, y1_1] h fun t25_1 h_2 =>
  pop P (Instr.extract t25_1 0) fun t26_1 =>
  pop P (Instr.extract t25_1 1) fun t27_1 =>
  K (.tuple #[t26_1, t27_1]) h_2)
theorem e141 (x0_1 : Value) (y1_1 : Value) (h : Heap) (K : Value → Heap → Prop) : wpA Try.prog 30 (anOf []) (bodyOf Try.f141) 1 (fun A h => resA Try.prog A h K [.tmp 4, .tmp 5]) (fun _ _ _ => False) (fun A h => resA Try.prog A h K [.tmp 4, .tmp 5]) (aargs [x0_1, y1_1] 0) h = t141 Try.prog x0_1 y1_1 h K := by kernel_rfl
theorem c141 (x0_1 : Value) (y1_1 : Value) (h : Heap) (K : Value → Heap → Prop) (H : t141 Try.prog x0_1 y1_1 h K) : callM Try.prog 141 #[x0_1, y1_1] h K :=
  callM_of_wpA mixed (fn := Try.f141) Try.func141 (c := bodyOf Try.f141) rfl (of_decide_eq_true (by kernel_rfl)) (anOf []) 28 30 (by kernel_rfl) rfl [.tmp 4, .tmp 5] (by kernel_rfl) (args := [x0_1, y1_1]) (by rw [e141]; exact H)

/-! math/bits.Mul32 -/
def t142 (P : Program) (x0_1 : Value) (y1_1 : Value) (h : Heap) (K : Value → Heap → Prop) : Prop :=
  rop P (convert 135 67 x0_1) h fun t8_1 =>
  rop P (convert 135 67 y1_1) h fun t10_1 =>
  pop P (binA .mul 67 t8_1 t10_1) fun t11_1 =>
  pop P (binA .shr 67 t11_1 (Value.int IntKind.u64 32)) fun t13_1 =>
  rop P (convert 67 135 t13_1) h fun t14_1 =>
  rop P (convert 67 135 t11_1) h fun t16_1 =>
  K (.tuple #[t14_1, t16_1]) h
theorem e142 (x0_1 : Value) (y1_1 : Value) (h : Heap) (K : Value → Heap → Prop) : wpA Try.prog 17 (anOf []) (bodyOf Try.f142) 1 (fun A h => resA Try.prog A h K [.tmp 4, .tmp 5]) (fun _ _ _ => False) (fun A h => resA Try.prog A h K [.tmp 4, .tmp 5]) (aargs [x0_1, y1_1] 0) h = t142 Try.prog x0_1 y1_1 h K := by kernel_rfl
theorem c142 (x0_1 : Value) (y1_1 : Value) (h : Heap) (K : Value → Heap → Prop) (H : t142 Try.prog x0_1 y1_1 h K) : callM Try.prog 142 #[x0_1, y1_1] h K :=
  callM_of_wpA mixed (fn := Try.f142) Try.func142 (c := bodyOf Try.f142) rfl (of_decide_eq_true (by kernel_rfl)) (anOf []) 15 17 (by kernel_rfl) rfl [.tmp 4, .tmp 5] (by kernel_rfl) (args := [x0_1, y1_1]) (by rw [e142]; exact H)

/-! math/bits.Mul64 -/
def t143 (P : Program) (x0_1 : Value) (y1_1 : Value) (h : Heap) (K : Value → Heap → Prop) : Prop :=
  pop P (binA .and 67 x0_1 (Value.int IntKind.u64 4294967295)) fun t15_1 =>
  pop P (binA .shr 67 x0_1 (Value.int IntKind.u64 32)) fun t17_1 =>
  pop P (binA .and 67 y1_1 (Value.int IntKind.u64 4294967295)) fun t19_1 =>
  pop P (binA .shr 67 y1_1 (Value.int IntKind.u64 32)) fun t21_1 =>
  pop P (binA .mul 67 t15_1 t19_1) fun t24_1 =>
  pop P (binA .mul 67 t17_1 t19_1) fun t27_1 =>
  pop P (binA .shr 67 t24_1 (Value.int IntKind.u64 32)) fun t29_1 =>
  pop P (binA .add 67 t27_1 t29_1) fun t30_1 =>
  pop P (binA .and 67 t30_1 (Value.int IntKind.u64 4294967295)) fun t32_1 =>
  pop P (binA .shr 67 t30_1 (Value.int IntKind.u64 32)) fun t34_1 =>
  pop P (binA .mul 67 t15_1 t21_1) fun t38_1 =>
  pop P (binA .add 67 t32_1 t38_1) fun t39_1 =>
  pop P (binA .mul 67 t17_1 t21_1) fun t42_1 =>
  pop P (binA .add 67 t42_1 t34_1) fun t44_1 =>
  pop P (binA .shr 67 t39_1 (Value.int IntKind.u64 32)) fun t46_1 =>
  pop P (binA .add 67 t44_1 t46_1) fun t47_1 =>
  pop P (binA .mul 67 x0_1 y1_1) fun t50_1 =>
  K (.tuple #[t47_1, t50_1]) h
theorem e143 (x0_1 : Value) (y1_1 : Value) (h : Heap) (K : Value → Heap → Prop) : wpA Try.prog 51 (anOf []) (bodyOf Try.f143) 1 (fun A h => resA Try.prog A h K [.tmp 4, .tmp 5]) (fun _ _ _ => False) (fun A h => resA Try.prog A h K [.tmp 4, .tmp 5]) (aargs [x0_1, y1_1] 0) h = t143 Try.prog x0_1 y1_1 h K := by kernel_rfl
theorem c143 (x0_1 : Value) (y1_1 : Value) (h : Heap) (K : Value → Heap → Prop) (H : t143 Try.prog x0_1 y1_1 h K) : callM Try.prog 143 #[x0_1, y1_1] h K :=
  callM_of_wpA mixed (fn := Try.f143) Try.func143 (c := bodyOf Try.f143) rfl (of_decide_eq_true (by kernel_rfl)) (anOf []) 49 51 (by kernel_rfl) rfl [.tmp 4, .tmp 5] (by kernel_rfl) (args := [x0_1, y1_1]) (by rw [e143]; exact H)

end Go.Proofs.Ytgiamamfnpklkaa
