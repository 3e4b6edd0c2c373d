/-
  What each function that the law 'FnGraphsTaken' comes to asks of the heap, named; tied to the loaded program by the kernel. Written by a program.
-/
import Derived.Test.YtgiamamfnpklkaaGreatDoorProg
import Derived.Test.YtgiamamfnpklkaaGreatDoorM1
set_option linter.unusedVariables false
namespace Go.Proofs.YtgiamamfnpklkaaGreatDoor
open Go Go.Mx
theorem mixed : Tryz.prog.follows .mixedOrders = true := by kernel_rfl
/-! laws.FnGraphsTaken -/
def t3 (P : Program) (code0_1 : Value) (more1_1 : Value) (h : Heap) (K : Value → Heap → Prop) : Prop :=
  callM P 4 #[code0_1, more1_1] h fun t54_1 h_1 =>
  condM t54_1
  (K (Value.bool true) h_1)
  (callM P 5 #[code0_1] h_1 fun t56_1 h_2 =>
  eop P (Instr.alloc 26 true (.tuple #[])) h_2 fun g5_1 h_3 =>
  uop P (Instr.storeAt 26 g5_1 t56_1) h_3 fun u_1 h_4 =>
  rop P (Instr.loadAt 26 g5_1) h_4 fun t58_1 =>
  callM P 6 #[t58_1] h_4 fun t59_1 h_5 =>
  pop P (Instr.extract t59_1 0) fun t60_1 =>
  pop P (Instr.extract t59_1 1) fun t61_1 =>
  rop P (Instr.loadAt 26 g5_1) h_5 fun t63_1 =>
  callM P 7 #[t63_1] h_5 fun t64_1 h_6 =>
  pop P (Instr.extract t64_1 0) fun t65_1 =>
  pop P (Instr.extract t64_1 1) fun t66_1 =>
  rop P (Instr.loadAt 26 g5_1) h_6 fun t68_1 =>
  callM P 8 #[t68_1] h_6 fun t69_1 h_7 =>
  pop P (Instr.extract t69_1 0) fun t70_1 =>
  pop P (Instr.extract t69_1 1) fun t71_1 =>
  rop P (Instr.loadAt 26 g5_1) h_7 fun t73_1 =>
  callM P 9 #[t73_1] h_7 fun t74_1 h_8 =>
  pop P (Instr.extract t74_1 0) fun t75_1 =>
  pop P (Instr.extract t74_1 1) fun t76_1 =>
  rop P (Instr.loadAt 26 g5_1) h_8 fun t78_1 =>
  callM P 10 #[t78_1] h_8 fun t79_1 h_9 =>
  pop P (Instr.extract t79_1 0) fun t80_1 =>
  pop P (Instr.extract t79_1 1) fun t81_1 =>
  rop P (Instr.loadAt 26 g5_1) h_9 fun t83_1 =>
  callM P 11 #[t83_1] h_9 fun t84_1 h_10 =>
  pop P (Instr.extract t84_1 0) fun t85_1 =>
  pop P (Instr.extract t84_1 1) fun t86_1 =>
  pop P (binE .neq 4 (.tmp 87) (.tmp 88) t61_1 t66_1) fun t89_1 =>
  guardM (asG t89_1 false) false (fun k_1 => k_1 t60_1 h_10) h_10 fun t91_1 h_11 =>
  guardM (asG t89_1 false) false (fun k_2 => k_2 t65_1 h_11) h_11 fun t92_1 h_12 =>
  guardM (asG t89_1 false) false (fun k_3 => pop P (binE .neq 9 (.tmp 91) (.tmp 92) t91_1 t92_1) fun t93_1 =>
  k_3 t93_1 h_12) h_12 fun t93_2 h_13 =>
  pop P (pickS t89_1 (Value.bool true) t93_2) fun t94_1 =>
  guardM (asG t94_1 false) false (fun k_4 => k_4 t71_1 h_13) h_13 fun t96_1 h_14 =>
  guardM (asG t94_1 false) false (fun k_5 => k_5 t76_1 h_14) h_14 fun t97_1 h_15 =>
  guardM (asG t94_1 false) false (fun k_6 => pop P (binE .neq 4 (.tmp 96) (.tmp 97) t96_1 t97_1) fun t98_1 =>
  k_6 t98_1 h_15) h_15 fun t98_2 h_16 =>
  pop P (pickS t94_1 (Value.bool true) t98_2) fun t99_1 =>
  guardM (asG t99_1 false) false (fun k_7 => k_7 t70_1 h_16) h_16 fun t101_1 h_17 =>
  guardM (asG t99_1 false) false (fun k_8 => k_8 t75_1 h_17) h_17 fun t102_1 h_18 =>
  guardM (asG t99_1 false) false (fun k_9 => pop P (binE .neq 3 (.tmp 101) (.tmp 102) t101_1 t102_1) fun t103_1 =>
  k_9 t103_1 h_18) h_18 fun t103_2 h_19 =>
  pop P (pickS t99_1 (Value.bool true) t103_2) fun t104_1 =>
  guardM (asG t104_1 false) false (fun k_10 => k_10 t81_1 h_19) h_19 fun t106_1 h_20 =>
  guardM (asG t104_1 false) false (fun k_11 => k_11 t86_1 h_20) h_20 fun t107_1 h_21 =>
  guardM (asG t104_1 false) false (fun k_12 => pop P (binE .neq 4 (.tmp 106) (.tmp 107) t106_1 t107_1) fun t108_1 =>
  k_12 t108_1 h_21) h_21 fun t108_2 h_22 =>
  pop P (pickS t104_1 (Value.bool true) t108_2) fun t109_1 =>
  guardM (asG t109_1 false) false (fun k_13 => k_13 t80_1 h_22) h_22 fun t111_1 h_23 =>
  guardM (asG t109_1 false) false (fun k_14 => k_14 t85_1 h_23) h_23 fun t112_1 h_24 =>
  guardM (asG t109_1 false) false (fun k_15 => pop P (binE .neq 3 (.tmp 111) (.tmp 112) t111_1 t112_1) fun t113_1 =>
  k_15 t113_1 h_24) h_24 fun t113_2 h_25 =>
  pop P (pickS t109_1 (Value.bool true) t113_2) fun t114_1 =>
  guardM (asG t114_1 false) false (fun k_16 => k_16 t61_1 h_25) h_25 fun t116_1 h_26 =>
  guardM (asG t114_1 false) false (fun k_17 => rop P (Instr.loadAt 26 g5_1) h_26 fun t117_1 =>
  k_17 t117_1 h_26) h_26 fun t117_2 h_27 =>
  guardM (asG t114_1 false) false (fun k_18 => callM P 12 #[t117_2] h_27 fun t118_1 h_28 =>
  k_18 t118_1 h_28) h_27 fun t118_2 h_29 =>
  guardM (asG t114_1 false) false (fun k_19 => pop P (binE .neq 4 (.tmp 116) (.tmp 118) t116_1 t118_2) fun t119_1 =>
  k_19 t119_1 h_29) h_29 fun t119_2 h_30 =>
  pop P (pickS t114_1 (Value.bool true) t119_2) fun t120_1 =>
  guardM (asG t120_1 false) false (fun k_20 => rop P (Instr.loadAt 26 g5_1) h_30 fun t122_1 =>
  k_20 t122_1 h_30) h_30 fun t122_2 h_31 =>
  guardM (asG t120_1 false) false (fun k_21 => rop P (Instr.loadAt 26 g5_1) h_31 fun t124_1 =>
  k_21 t124_1 h_31) h_31 fun t124_2 h_32 =>
  guardM (asG t120_1 false) false (fun k_22 => callM P 12 #[t122_2] h_32 fun t123_1 h_33 =>
  k_22 t123_1 h_33) h_32 fun t123_2 h_34 =>
  (∃ b_1 : Bool, asG t120_1 false = .bool b_1 ∧ (b_1 = false → ∀ w : World, w.heap = h_34 → (Instr.loadAt 26 g5_1).run P w = .ok t124_2 w) ∧ (b_1 ≠ false → t124_2 = undef)) ∧
  guardM (asG t120_1 false) false (fun k_23 => callM P 13 #[t124_2] h_34 fun t125_1 h_35 =>
  k_23 t125_1 h_35) h_34 fun t125_2 h_36 =>
  guardM (asG t120_1 false) false (fun k_24 => pop P (binE .neq 4 (.tmp 123) (.tmp 125) t123_2 t125_2) fun t126_1 =>
  k_24 t126_1 h_36) h_36 fun t126_2 h_37 =>
  pop P (pickS t120_1 (Value.bool true) t126_2) fun t127_1 =>
  guardM (asG t127_1 false) false (fun k_25 => k_25 t71_1 h_37) h_37 fun t129_1 h_38 =>
  guardM (asG t127_1 false) false (fun k_26 => k_26 t61_1 h_38) h_38 fun t130_1 h_39 =>
  guardM (asG t127_1 false) false (fun k_27 => pop P (binE .neq 4 (.tmp 129) (.tmp 130) t129_1 t130_1) fun t131_1 =>
  k_27 t131_1 h_39) h_39 fun t131_2 h_40 =>
  pop P (pickS t127_1 (Value.bool true) t131_2) fun t132_1 =>
  guardM (asG t132_1 false) false (fun k_28 => k_28 t81_1 h_40) h_40 fun t134_1 h_41 =>
  guardM (asG t132_1 false) false (fun k_29 => k_29 t61_1 h_41) h_41 fun t135_1 h_42 =>
  guardM (asG t132_1 false) false (fun k_30 => pop P (binE .neq 4 (.tmp 134) (.tmp 135) t134_1 t135_1) fun t136_1 =>
  k_30 t136_1 h_42) h_42 fun t136_2 h_43 =>
  pop P (pickS t132_1 (Value.bool true) t136_2) fun t137_1 =>
  condM t137_1
  (K (Value.bool false) h_43)
  (∃ J_1 : List Value → Heap → Prop, (condM t61_1
  (callM P 14 #[t60_1] h_43 fun t141_1 h_44 =>
  pop P (Instr.extract t141_1 0) fun t142_1 =>
  pop P (Instr.extract t141_1 1) fun t143_1 =>
  eop P (Instr.alloc 26 true (.tuple #[])) h_44 fun back18_1 h_45 =>
  uop P (Instr.storeAt 26 back18_1 t142_1) h_45 fun u_2 h_46 =>
  pop P (Op.unary .not t143_1) fun t145_1 =>
  guardM (asG t145_1 false) false (fun k_31 => rop P (Instr.loadAt 26 back18_1) h_46 fun t147_1 =>
  k_31 t147_1 h_46) h_46 fun t147_2 h_47 =>
  guardM (asG t145_1 false) false (fun k_32 => rop P (Instr.loadAt 26 g5_1) h_47 fun t148_1 =>
  k_32 t148_1 h_47) h_47 fun t148_2 h_48 =>
  guardM (asG t145_1 false) false (fun k_33 => callM P 15 #[t147_2, t148_2] h_48 fun t149_1 h_49 =>
  k_33 t149_1 h_49) h_48 fun t149_2 h_50 =>
  guardM (asG t145_1 false) false (fun k_34 => pop P (Op.unary .not t149_2) fun t150_1 =>
  k_34 t150_1 h_50) h_50 fun t150_2 h_51 =>
  pop P (pickS t145_1 (Value.bool true) t150_2) fun t151_1 =>
  guardM (asG t151_1 false) false (fun k_35 => k_35 t80_1 h_51) h_51 fun t153_1 h_52 =>
  guardM (asG t151_1 false) false (fun k_36 => pop P (Instr.fieldAt 26 g5_1 0) fun t154_1 =>
  k_36 t154_1 h_52) h_52 fun t154_2 h_53 =>
  guardM (asG t151_1 false) false (fun k_37 => rop P (Instr.loadAt 24 t154_2) h_53 fun t155_1 =>
  k_37 t155_1 h_53) h_53 fun t155_2 h_54 =>
  guardM (asG t151_1 false) false (fun k_38 => pop P (lenS 24 3 t155_2) fun t156_1 =>
  k_38 t156_1 h_54) h_54 fun t156_2 h_55 =>
  guardM (asG t151_1 false) false (fun k_39 => pop P (binE .neq 3 (.tmp 153) (.tmp 156) t153_1 t156_2) fun t157_1 =>
  k_39 t157_1 h_55) h_55 fun t157_2 h_56 =>
  pop P (pickS t151_1 (Value.bool true) t157_2) fun t158_1 =>
  condM t158_1
  (K (Value.bool false) h_56)
  (pop P (Instr.fieldAt 26 g5_1 0) fun t159_1 =>
  rop P (Instr.loadAt 24 t159_1) h_56 fun t160_1 =>
  pop P (lenS 24 3 t160_1) fun t161_1 =>
  ∃ (I_1 : List Value → Heap → Prop) (μ_1 : List Value → Heap → Nat), I_1 [(Value.int IntKind.i64 0), (Value.int IntKind.i64 0), (Value.bool true), (Value.int IntKind.i64 0)] h_56 ∧
  ∀ (junk_1 : Nat → Value) (leave20_1 : Value) (come21_1 : Value) (balanced22_1 : Value) (t162_1 : Value) (h_57 : Heap), I_1 [leave20_1, come21_1, balanced22_1, t162_1] h_57 →
  pop P (binA .lss 3 t162_1 t161_1) fun t163_1 =>
  condM t163_1
  (rop P (Instr.loadAt 26 g5_1) h_57 fun t166_1 =>
  callM P 16 #[t166_1, t162_1] h_57 fun t168_1 h_58 =>
  pop P (Instr.extract t168_1 0) fun t169_1 =>
  pop P (Instr.extract t168_1 1) fun t170_1 =>
  rop P (Instr.loadAt 26 g5_1) h_58 fun t172_1 =>
  callM P 17 #[t172_1, t162_1] h_58 fun t174_1 h_59 =>
  pop P (Instr.extract t174_1 0) fun t175_1 =>
  pop P (Instr.extract t174_1 1) fun t176_1 =>
  pop P (Op.unary .not t170_1) fun t178_1 =>
  guardM (asG t178_1 false) false (fun k_40 => k_40 t176_1 h_59) h_59 fun t180_1 h_60 =>
  guardM (asG t178_1 false) false (fun k_41 => pop P (Op.unary .not t180_1) fun t181_1 =>
  k_41 t181_1 h_60) h_60 fun t181_2 h_61 =>
  pop P (pickS t178_1 (Value.bool true) t181_2) fun t182_1 =>
  guardM (asG t182_1 false) false (fun k_42 => k_42 t169_1 h_61) h_61 fun t184_1 h_62 =>
  guardM (asG t182_1 false) false (fun k_43 => pop P (Instr.fieldAt 26 g5_1 0) fun t185_1 =>
  k_43 t185_1 h_62) h_62 fun t185_2 h_63 =>
  guardM (asG t182_1 false) false (fun k_44 => rop P (Instr.loadAt 24 t185_2) h_63 fun t186_1 =>
  k_44 t186_1 h_63) h_63 fun t186_2 h_64 =>
  guardM (asG t182_1 false) false (fun k_45 => k_45 t162_1 h_64) h_64 fun t187_1 h_65 =>
  guardM (asG t182_1 false) false (fun k_46 => pop P (Instr.indexAt 24 t186_2 t187_1) fun t188_1 =>
  k_46 t188_1 h_65) h_65 fun t188_2 h_66 =>
  guardM (asG t182_1 false) false (fun k_47 => rop P (Instr.loadAt 36 t188_2) h_66 fun t189_1 =>
  k_47 t189_1 h_66) h_66 fun t189_2 h_67 =>
  guardM (asG t182_1 false) false (fun k_48 => callM P 18 #[t184_1, t189_2] h_67 fun t190_1 h_68 =>
  k_48 t190_1 h_68) h_67 fun t190_2 h_69 =>
  guardM (asG t182_1 false) false (fun k_49 => pop P (Op.unary .not t190_2) fun t191_1 =>
  k_49 t191_1 h_69) h_69 fun t191_2 h_70 =>
  pop P (pickS t182_1 (Value.bool true) t191_2) fun t192_1 =>
  condM t192_1
  (K (Value.bool false) h_70)
  (pop P (lenS 36 3 t169_1) fun t195_1 =>
  pop P (binA .add 3 leave20_1 t195_1) fun t196_1 =>
  pop P (binA .add 3 come21_1 t175_1) fun t199_1 =>
  guardM (asG balanced22_1 true) true (fun k_50 => k_50 t169_1 h_70) h_70 fun t202_1 h_71 =>
  guardM (asG balanced22_1 true) true (fun k_51 => pop P (lenS 36 3 t202_1) fun t203_1 =>
  k_51 t203_1 h_71) h_71 fun t203_2 h_72 =>
  guardM (asG balanced22_1 true) true (fun k_52 => k_52 t175_1 h_72) h_72 fun t204_1 h_73 =>
  guardM (asG balanced22_1 true) true (fun k_53 => pop P (binE .eql 3 (.tmp 203) (.tmp 204) t203_2 t204_1) fun t205_1 =>
  k_53 t205_1 h_73) h_73 fun t205_2 h_74 =>
  pop P (pickS balanced22_1 t205_2 (Value.bool false)) fun t206_1 =>
  pop P (binA .add 3 t162_1 (Value.int IntKind.i64 1)) fun t207_1 =>
  I_1 [t196_1, t199_1, t206_1, t207_1] h_74 ∧ μ_1 [t196_1, t199_1, t206_1, t207_1] h_74 < μ_1 [leave20_1, come21_1, balanced22_1, t162_1] h_57))
  (rop P (Instr.loadAt 26 g5_1) h_57 fun t209_1 =>
  callM P 19 #[t209_1] h_57 fun t210_1 h_75 =>
  pop P (Instr.extract t210_1 0) fun t211_1 =>
  pop P (Instr.extract t210_1 1) fun t212_1 =>
  pop P (binE .neq 3 (.tmp 213) (.tmp 214) leave20_1 t70_1) fun t215_1 =>
  guardM (asG t215_1 false) false (fun k_54 => k_54 come21_1 h_75) h_75 fun t217_1 h_76 =>
  guardM (asG t215_1 false) false (fun k_55 => k_55 t70_1 h_76) h_76 fun t218_1 h_77 =>
  guardM (asG t215_1 false) false (fun k_56 => pop P (binE .neq 3 (.tmp 217) (.tmp 218) t217_1 t218_1) fun t219_1 =>
  k_56 t219_1 h_77) h_77 fun t219_2 h_78 =>
  pop P (pickS t215_1 (Value.bool true) t219_2) fun t220_1 =>
  guardM (asG t220_1 false) false (fun k_57 => k_57 t212_1 h_78) h_78 fun t222_1 h_79 =>
  guardM (asG t220_1 false) false (fun k_58 => pop P (Op.unary .not t222_1) fun t223_1 =>
  k_58 t223_1 h_79) h_79 fun t223_2 h_80 =>
  pop P (pickS t220_1 (Value.bool true) t223_2) fun t224_1 =>
  guardM (asG t224_1 false) false (fun k_59 => k_59 t211_1 h_80) h_80 fun t226_1 h_81 =>
  guardM (asG t224_1 false) false (fun k_60 => k_60 balanced22_1 h_81) h_81 fun t227_1 h_82 =>
  guardM (asG t224_1 false) false (fun k_61 => pop P (binE .neq 4 (.tmp 226) (.tmp 227) t226_1 t227_1) fun t228_1 =>
  k_61 t228_1 h_82) h_82 fun t228_2 h_83 =>
  pop P (pickS t224_1 (Value.bool true) t228_2) fun t229_1 =>
  condM t229_1
  (K (Value.bool false) h_83)
  (rop P (Instr.loadAt 26 g5_1) h_83 fun t231_1 =>
  callM P 20 #[t231_1] h_83 fun t232_1 h_84 =>
  pop P (Instr.extract t232_1 0) fun t233_1 =>
  pop P (Instr.extract t232_1 1) fun t234_1 =>
  eop P (Instr.alloc 26 true (.tuple #[])) h_84 fun turned30_1 h_85 =>
  uop P (Instr.storeAt 26 turned30_1 t233_1) h_85 fun u_3 h_86 =>
  rop P (Instr.loadAt 26 g5_1) h_86 fun t236_1 =>
  callM P 21 #[t236_1] h_86 fun t237_1 h_87 =>
  pop P (Instr.extract t237_1 0) fun t238_1 =>
  pop P (Instr.extract t237_1 1) fun t239_1 =>
  eop P (Instr.alloc 26 true (.tuple #[])) h_87 fun model32_1 h_88 =>
  uop P (Instr.storeAt 26 model32_1 t238_1) h_88 fun u_4 h_89 =>
  pop P (binE .neq 4 (.tmp 240) (.tmp 241) t234_1 t239_1) fun t242_1 =>
  guardM (asG t242_1 false) false (fun k_62 => rop P (Instr.loadAt 26 turned30_1) h_89 fun t244_1 =>
  k_62 t244_1 h_89) h_89 fun t244_2 h_90 =>
  guardM (asG t242_1 false) false (fun k_63 => rop P (Instr.loadAt 26 model32_1) h_90 fun t245_1 =>
  k_63 t245_1 h_90) h_90 fun t245_2 h_91 =>
  guardM (asG t242_1 false) false (fun k_64 => callM P 15 #[t244_2, t245_2] h_91 fun t246_1 h_92 =>
  k_64 t246_1 h_92) h_91 fun t246_2 h_93 =>
  guardM (asG t242_1 false) false (fun k_65 => pop P (Op.unary .not t246_2) fun t247_1 =>
  k_65 t247_1 h_93) h_93 fun t247_2 h_94 =>
  pop P (pickS t242_1 (Value.bool true) t247_2) fun t248_1 =>
  condM t248_1
  (K (Value.bool false) h_94)
  (condM t234_1
  (rop P (Instr.loadAt 26 turned30_1) h_94 fun t251_1 =>
  callM P 8 #[t251_1] h_94 fun t252_1 h_95 =>
  pop P (Instr.extract t252_1 0) fun t253_1 =>
  pop P (Instr.extract t252_1 1) fun t254_1 =>
  rop P (Instr.loadAt 26 turned30_1) h_95 fun t256_1 =>
  callM P 20 #[t256_1] h_95 fun t257_1 h_96 =>
  pop P (Instr.extract t257_1 0) fun t258_1 =>
  pop P (Instr.extract t257_1 1) fun t259_1 =>
  eop P (Instr.alloc 26 true (.tuple #[])) h_96 fun twice36_1 h_97 =>
  uop P (Instr.storeAt 26 twice36_1 t258_1) h_97 fun u_5 h_98 =>
  rop P (Instr.loadAt 26 g5_1) h_98 fun t261_1 =>
  callM P 22 #[t261_1] h_98 fun t262_1 h_99 =>
  pop P (Instr.extract t262_1 0) fun t263_1 =>
  pop P (Instr.extract t262_1 1) fun t264_1 =>
  rop P (Instr.loadAt 26 turned30_1) h_99 fun t266_1 =>
  callM P 22 #[t266_1] h_99 fun t267_1 h_100 =>
  pop P (Instr.extract t267_1 0) fun t268_1 =>
  pop P (Instr.extract t267_1 1) fun t269_1 =>
  pop P (Op.unary .not t254_1) fun t271_1 =>
  guardM (asG t271_1 false) false (fun k_66 => k_66 t253_1 h_100) h_100 fun t273_1 h_101 =>
  guardM (asG t271_1 false) false (fun k_67 => k_67 t70_1 h_101) h_101 fun t274_1 h_102 =>
  guardM (asG t271_1 false) false (fun k_68 => pop P (binE .neq 3 (.tmp 273) (.tmp 274) t273_1 t274_1) fun t275_1 =>
  k_68 t275_1 h_102) h_102 fun t275_2 h_103 =>
  pop P (pickS t271_1 (Value.bool true) t275_2) fun t276_1 =>
  guardM (asG t276_1 false) false (fun k_69 => k_69 t259_1 h_103) h_103 fun t278_1 h_104 =>
  guardM (asG t276_1 false) false (fun k_70 => pop P (Op.unary .not t278_1) fun t279_1 =>
  k_70 t279_1 h_104) h_104 fun t279_2 h_105 =>
  pop P (pickS t276_1 (Value.bool true) t279_2) fun t280_1 =>
  guardM (asG t280_1 false) false (fun k_71 => k_71 t264_1 h_105) h_105 fun t282_1 h_106 =>
  guardM (asG t280_1 false) false (fun k_72 => pop P (Op.unary .not t282_1) fun t283_1 =>
  k_72 t283_1 h_106) h_106 fun t283_2 h_107 =>
  pop P (pickS t280_1 (Value.bool true) t283_2) fun t284_1 =>
  guardM (asG t284_1 false) false (fun k_73 => k_73 t269_1 h_107) h_107 fun t286_1 h_108 =>
  guardM (asG t284_1 false) false (fun k_74 => pop P (Op.unary .not t286_1) fun t287_1 =>
  k_74 t287_1 h_108) h_108 fun t287_2 h_109 =>
  pop P (pickS t284_1 (Value.bool true) t287_2) fun t288_1 =>
  guardM (asG t288_1 false) false (fun k_75 => k_75 t263_1 h_109) h_109 fun t290_1 h_110 =>
  guardM (asG t288_1 false) false (fun k_76 => k_76 t268_1 h_110) h_110 fun t291_1 h_111 =>
  guardM (asG t288_1 false) false (fun k_77 => pop P (binE .neq 4 (.tmp 290) (.tmp 291) t290_1 t291_1) fun t292_1 =>
  k_77 t292_1 h_111) h_111 fun t292_2 h_112 =>
  pop P (pickS t288_1 (Value.bool true) t292_2) fun t293_1 =>
  guardM (asG t293_1 false) false (fun k_78 => pop P (Instr.fieldAt 26 twice36_1 0) fun t295_1 =>
  k_78 t295_1 h_112) h_112 fun t295_2 h_113 =>
  guardM (asG t293_1 false) false (fun k_79 => rop P (Instr.loadAt 24 t295_2) h_113 fun t296_1 =>
  k_79 t296_1 h_113) h_113 fun t296_2 h_114 =>
  guardM (asG t293_1 false) false (fun k_80 => pop P (lenS 24 3 t296_2) fun t297_1 =>
  k_80 t297_1 h_114) h_114 fun t297_2 h_115 =>
  guardM (asG t293_1 false) false (fun k_81 => k_81 t80_1 h_115) h_115 fun t298_1 h_116 =>
  guardM (asG t293_1 false) false (fun k_82 => pop P (binE .neq 3 (.tmp 297) (.tmp 298) t297_2 t298_1) fun t299_1 =>
  k_82 t299_1 h_116) h_116 fun t299_2 h_117 =>
  pop P (pickS t293_1 (Value.bool true) t299_2) fun t300_1 =>
  condM t300_1
  (K (Value.bool false) h_117)
  (pop P (Instr.fieldAt 26 g5_1 0) fun t301_1 =>
  rop P (Instr.loadAt 24 t301_1) h_117 fun t302_1 =>
  pop P (lenS 24 3 t302_1) fun t303_1 =>
  ∃ (I_2 : List Value → Heap → Prop) (μ_2 : List Value → Heap → Nat), I_2 [(Value.int IntKind.i64 0)] h_117 ∧
  ∀ (junk_2 : Nat → Value) (t304_1 : Value) (h_118 : Heap), I_2 [t304_1] h_118 →
  pop P (binA .lss 3 t304_1 t303_1) fun t305_1 =>
  condM t305_1
  (rop P (Instr.loadAt 26 turned30_1) h_118 fun t308_1 =>
  callM P 17 #[t308_1, t304_1] h_118 fun t310_1 h_119 =>
  pop P (Instr.extract t310_1 0) fun t311_1 =>
  pop P (Instr.extract t310_1 1) fun t312_1 =>
  pop P (Op.unary .not t312_1) fun t314_1 =>
  guardM (asG t314_1 false) false (fun k_83 => k_83 t311_1 h_119) h_119 fun t316_1 h_120 =>
  guardM (asG t314_1 false) false (fun k_84 => pop P (Instr.fieldAt 26 g5_1 0) fun t317_1 =>
  k_84 t317_1 h_120) h_120 fun t317_2 h_121 =>
  guardM (asG t314_1 false) false (fun k_85 => rop P (Instr.loadAt 24 t317_2) h_121 fun t318_1 =>
  k_85 t318_1 h_121) h_121 fun t318_2 h_122 =>
  guardM (asG t314_1 false) false (fun k_86 => k_86 t304_1 h_122) h_122 fun t319_1 h_123 =>
  guardM (asG t314_1 false) false (fun k_87 => pop P (Instr.indexAt 24 t318_2 t319_1) fun t320_1 =>
  k_87 t320_1 h_123) h_123 fun t320_2 h_124 =>
  guardM (asG t314_1 false) false (fun k_88 => rop P (Instr.loadAt 36 t320_2) h_124 fun t321_1 =>
  k_88 t321_1 h_124) h_124 fun t321_2 h_125 =>
  guardM (asG t314_1 false) false (fun k_89 => pop P (lenS 36 3 t321_2) fun t322_1 =>
  k_89 t322_1 h_125) h_125 fun t322_2 h_126 =>
  guardM (asG t314_1 false) false (fun k_90 => pop P (binE .neq 3 (.tmp 316) (.tmp 322) t316_1 t322_2) fun t323_1 =>
  k_90 t323_1 h_126) h_126 fun t323_2 h_127 =>
  pop P (pickS t314_1 (Value.bool true) t323_2) fun t324_1 =>
  guardM (asG t324_1 false) false (fun k_91 => pop P (Instr.fieldAt 26 twice36_1 0) fun t326_1 =>
  k_91 t326_1 h_127) h_127 fun t326_2 h_128 =>
  guardM (asG t324_1 false) false (fun k_92 => rop P (Instr.loadAt 24 t326_2) h_128 fun t327_1 =>
  k_92 t327_1 h_128) h_128 fun t327_2 h_129 =>
  guardM (asG t324_1 false) false (fun k_93 => k_93 t304_1 h_129) h_129 fun t328_1 h_130 =>
  guardM (asG t324_1 false) false (fun k_94 => pop P (Instr.indexAt 24 t327_2 t328_1) fun t329_1 =>
  k_94 t329_1 h_130) h_130 fun t329_2 h_131 =>
  guardM (asG t324_1 false) false (fun k_95 => rop P (Instr.loadAt 36 t329_2) h_131 fun t330_1 =>
  k_95 t330_1 h_131) h_131 fun t330_2 h_132 =>
  guardM (asG t324_1 false) false (fun k_96 => pop P (lenS 36 3 t330_2) fun t331_1 =>
  k_96 t331_1 h_132) h_132 fun t331_2 h_133 =>
  guardM (asG t324_1 false) false (fun k_97 => pop P (Instr.fieldAt 26 g5_1 0) fun t332_1 =>
  k_97 t332_1 h_133) h_133 fun t332_2 h_134 =>
  guardM (asG t324_1 false) false (fun k_98 => rop P (Instr.loadAt 24 t332_2) h_134 fun t333_1 =>
  k_98 t333_1 h_134) h_134 fun t333_2 h_135 =>
  guardM (asG t324_1 false) false (fun k_99 => k_99 t304_1 h_135) h_135 fun t334_1 h_136 =>
  guardM (asG t324_1 false) false (fun k_100 => pop P (Instr.indexAt 24 t333_2 t334_1) fun t335_1 =>
  k_100 t335_1 h_136) h_136 fun t335_2 h_137 =>
  guardM (asG t324_1 false) false (fun k_101 => rop P (Instr.loadAt 36 t335_2) h_137 fun t336_1 =>
  k_101 t336_1 h_137) h_137 fun t336_2 h_138 =>
  guardM (asG t324_1 false) false (fun k_102 => pop P (lenS 36 3 t336_2) fun t337_1 =>
  k_102 t337_1 h_138) h_138 fun t337_2 h_139 =>
  guardM (asG t324_1 false) false (fun k_103 => pop P (binE .neq 3 (.tmp 331) (.tmp 337) t331_2 t337_2) fun t338_1 =>
  k_103 t338_1 h_139) h_139 fun t338_2 h_140 =>
  pop P (pickS t324_1 (Value.bool true) t338_2) fun t339_1 =>
  condM t339_1
  (K (Value.bool false) h_140)
  (pop P (binA .add 3 t304_1 (Value.int IntKind.i64 1)) fun t340_1 =>
  I_2 [t340_1] h_140 ∧ μ_2 [t340_1] h_140 < μ_2 [t304_1] h_118))
  (J_1 [] h_118)))
  (J_1 [] h_94))))))
  (J_1 [] h_43)) ∧
  ∀ (junk_3 : Nat → Value) (h_141 : Heap), J_1 [] h_141 →
  callM P 23 #[more1_1] h_141 fun t342_1 h_142 =>
  callM P 14 #[t342_1] h_142 fun t345_1 h_143 =>
  pop P (Instr.extract t345_1 0) fun t346_1 =>
  pop P (Instr.extract t345_1 1) fun t347_1 =>
  eop P (Instr.alloc 26 true (.tuple #[])) h_143 fun read46_1 h_144 =>
  uop P (Instr.storeAt 26 read46_1 t346_1) h_144 fun u_6 h_145 =>
  callM P 24 #[t342_1] h_145 fun t350_1 h_146 =>
  pop P (Instr.extract t350_1 0) fun t351_1 =>
  pop P (Instr.extract t350_1 1) fun t352_1 =>
  eop P (Instr.alloc 26 true (.tuple #[])) h_146 fun parsed48_1 h_147 =>
  uop P (Instr.storeAt 26 parsed48_1 t351_1) h_147 fun u_7 h_148 =>
  pop P (binE .neq 4 (.tmp 353) (.tmp 354) t347_1 t352_1) fun t355_1 =>
  guardM (asG t355_1 false) false (fun k_104 => rop P (Instr.loadAt 26 read46_1) h_148 fun t357_1 =>
  k_104 t357_1 h_148) h_148 fun t357_2 h_149 =>
  guardM (asG t355_1 false) false (fun k_105 => rop P (Instr.loadAt 26 parsed48_1) h_149 fun t358_1 =>
  k_105 t358_1 h_149) h_149 fun t358_2 h_150 =>
  guardM (asG t355_1 false) false (fun k_106 => callM P 15 #[t357_2, t358_2] h_150 fun t359_1 h_151 =>
  k_106 t359_1 h_151) h_150 fun t359_2 h_152 =>
  guardM (asG t355_1 false) false (fun k_107 => pop P (Op.unary .not t359_2) fun t360_1 =>
  k_107 t360_1 h_152) h_152 fun t360_2 h_153 =>
  pop P (pickS t355_1 (Value.bool true) t360_2) fun t361_1 =>
  condM t361_1
  (K (Value.bool false) h_153)
  (condM t347_1
  (rop P (Instr.loadAt 26 read46_1) h_153 fun t364_1 =>
  callM P 6 #[t364_1] h_153 fun t365_1 h_154 =>
  pop P (Instr.extract t365_1 0) fun t366_1 =>
  pop P (Instr.extract t365_1 1) fun t367_1 =>
  guardM (asG t367_1 true) true (fun k_108 => k_108 t366_1 h_154) h_154 fun t370_1 h_155 =>
  guardM (asG t367_1 true) true (fun k_109 => k_109 t342_1 h_155) h_155 fun t371_1 h_156 =>
  guardM (asG t367_1 true) true (fun k_110 => pop P (binE .eql 9 (.tmp 370) (.tmp 371) t370_1 t371_1) fun t372_1 =>
  k_110 t372_1 h_156) h_156 fun t372_2 h_157 =>
  pop P (pickS t367_1 t372_2 (Value.bool false)) fun t373_1 =>
  K t373_1 h_157)
  (K (Value.bool true) h_153))))
theorem e3 (code0_1 : Value) (more1_1 : Value) (h : Heap) (K : Value → Heap → Prop) : wpA Tryz.prog 374 (anOf [(2047, []), (2096506, [20, 21, 22, 162]), (8587313022, [304])]) (bodyOf Tryz.f3) 1 (fun A h => resA Tryz.prog A h K [.tmp 4]) (fun _ _ _ => False) (fun A h => resA Tryz.prog A h K [.tmp 4]) (aargs [code0_1, more1_1] 0) h = t3 Tryz.prog code0_1 more1_1 h K := by kernel_rfl
theorem c3 (code0_1 : Value) (more1_1 : Value) (h : Heap) (K : Value → Heap → Prop) (H : t3 Tryz.prog code0_1 more1_1 h K) : callM Tryz.prog 3 #[code0_1, more1_1] h K :=
  callM_of_wpA mixed (fn := Tryz.f3) Tryz.func3 (c := bodyOf Tryz.f3) rfl (of_decide_eq_true (by kernel_rfl)) (anOf [(2047, []), (2096506, [20, 21, 22, 162]), (8587313022, [304])]) 372 374 (by kernel_rfl) rfl [.tmp 4] (by kernel_rfl) (args := [code0_1, more1_1]) (by rw [e3]; exact H)

/-! laws.big -/
def t4 (P : Program) (code0_1 : Value) (more1_1 : Value) (h : Heap) (K : Value → Heap → Prop) : Prop :=
  pop P (lenS 22 3 code0_1) fun t6_1 =>
  pop P (binA .gtr 3 t6_1 (Value.int IntKind.i64 1048576)) fun t7_1 =>
  guardM (asG t7_1 false) false (fun k_1 => k_1 more1_1 h) h fun t9_1 h_1 =>
  guardM (asG t7_1 false) false (fun k_2 => pop P (lenS 22 3 t9_1) fun t10_1 =>
  k_2 t10_1 h_1) h_1 fun t10_2 h_2 =>
  guardM (asG t7_1 false) false (fun k_3 => k_3 code0_1 h_2) h_2 fun t11_1 h_3 =>
  guardM (asG t7_1 false) false (fun k_4 => pop P (lenS 22 3 t11_1) fun t12_1 =>
  k_4 t12_1 h_3) h_3 fun t12_2 h_4 =>
  guardM (asG t7_1 false) false (fun k_5 => pop P (binA .sub 3 (Value.int IntKind.i64 1048576) t12_2) fun t13_1 =>
  k_5 t13_1 h_4) h_4 fun t13_2 h_5 =>
  guardM (asG t7_1 false) false (fun k_6 => pop P (binA .gtr 3 t10_2 t13_2) fun t14_1 =>
  k_6 t14_1 h_5) h_5 fun t14_2 h_6 =>
  pop P (pickS t7_1 (Value.bool true) t14_2) fun t15_1 =>
  K t15_1 h_6
theorem e4 (code0_1 : Value) (more1_1 : Value) (h : Heap) (K : Value → Heap → Prop) : wpA Tryz.prog 16 (anOf []) (bodyOf Tryz.f4) 1 (fun A h => resA Tryz.prog A h K [.tmp 4]) (fun _ _ _ => False) (fun A h => resA Tryz.prog A h K [.tmp 4]) (aargs [code0_1, more1_1] 0) h = t4 Tryz.prog code0_1 more1_1 h K := by kernel_rfl
theorem c4 (code0_1 : Value) (more1_1 : Value) (h : Heap) (K : Value → Heap → Prop) (H : t4 Tryz.prog code0_1 more1_1 h K) : callM Tryz.prog 4 #[code0_1, more1_1] h K :=
  callM_of_wpA mixed (fn := Tryz.f4) Tryz.func4 (c := bodyOf Tryz.f4) rfl (of_decide_eq_true (by kernel_rfl)) (anOf []) 14 16 (by kernel_rfl) rfl [.tmp 4] (by kernel_rfl) (args := [code0_1, more1_1]) (by rw [e4]; exact H)

/-! spec.DrawGraphText -/
def t5 (P : Program) (code0_1 : Value) (h : Heap) (K : Value → Heap → Prop) : Prop :=
  eop P (Instr.alloc 26 true (.tuple #[])) h fun t2_1 h_1 =>
  callM P 25 #[code0_1] h_1 fun t4_1 h_2 =>
  uop P (Instr.storeAt 26 t2_1 t4_1) h_2 fun u_1 h_3 =>
  rop P (Instr.loadAt 26 t2_1) h_3 fun r_1 =>
  K r_1 h_3
theorem e5 (code0_1 : Value) (h : Heap) (K : Value → Heap → Prop) : wpA Tryz.prog 5 (anOf []) (bodyOf Tryz.f5) 1 (fun A h => resA Tryz.prog A h K [.cell 2 26]) (fun _ _ _ => False) (fun A h => resA Tryz.prog A h K [.cell 2 26]) (aargs [code0_1] 0) h = t5 Tryz.prog code0_1 h K := by kernel_rfl
theorem c5 (code0_1 : Value) (h : Heap) (K : Value → Heap → Prop) (H : t5 Tryz.prog code0_1 h K) : callM Tryz.prog 5 #[code0_1] h K :=
  callM_of_wpA mixed (fn := Tryz.f5) Tryz.func5 (c := bodyOf Tryz.f5) rfl (of_decide_eq_true (by kernel_rfl)) (anOf []) 4 5 (by kernel_rfl) rfl [.cell 2 26] (by kernel_rfl) (args := [code0_1]) (by rw [e5]; exact H)

/-! impl.GraphText -/
def t6 (P : Program) (g0_1 : Value) (h : Heap) (K : Value → Heap → Prop) : Prop :=
  eop P (Instr.box 26 g0_1) h fun g1_1 h_1 =>
  rop P (Instr.loadAt 26 g1_1) h_1 fun t4_1 =>
  callM P 26 #[t4_1] h_1 fun t5_1 h_2 =>
  pop P (Op.unary .not t5_1) fun t6_1 =>
  condM t6_1
  (K (.tuple #[(Value.string { data := #[] }), (Value.bool false)]) h_2)
  (rop P (Instr.loadAt 26 g1_1) h_2 fun t7_1 =>
  callM P 27 #[t7_1] h_2 fun t8_1 h_3 =>
  K (.tuple #[t8_1, (Value.bool true)]) h_3)
theorem e6 (g0_1 : Value) (h : Heap) (K : Value → Heap → Prop) : wpA Tryz.prog 9 (anOf []) (bodyOf Tryz.f6) 1 (fun A h => resA Tryz.prog A h K [.tmp 2, .tmp 3]) (fun _ _ _ => False) (fun A h => resA Tryz.prog A h K [.tmp 2, .tmp 3]) (aargs [g0_1] 0) h = t6 Tryz.prog g0_1 h K := by kernel_rfl
theorem c6 (g0_1 : Value) (h : Heap) (K : Value → Heap → Prop) (H : t6 Tryz.prog g0_1 h K) : callM Tryz.prog 6 #[g0_1] h K :=
  callM_of_wpA mixed (fn := Tryz.f6) Tryz.func6 (c := bodyOf Tryz.f6) rfl (of_decide_eq_true (by kernel_rfl)) (anOf []) 8 9 (by kernel_rfl) rfl [.tmp 2, .tmp 3] (by kernel_rfl) (args := [g0_1]) (by rw [e6]; exact H)

/-! spec.GraphText -/
def t7 (P : Program) (g0_1 : Value) (h : Heap) (K : Value → Heap → Prop) : Prop :=
  eop P (Instr.box 26 g0_1) h fun g1_1 h_1 =>
  rop P (Instr.loadAt 26 g1_1) h_1 fun t4_1 =>
  callM P 28 #[t4_1] h_1 fun t5_1 h_2 =>
  pop P (Op.unary .not t5_1) fun t6_1 =>
  condM t6_1
  (K (.tuple #[(Value.string { data := #[] }), (Value.bool false)]) h_2)
  (rop P (Instr.loadAt 26 g1_1) h_2 fun t7_1 =>
  callM P 29 #[t7_1] h_2 fun t8_1 h_3 =>
  K (.tuple #[t8_1, (Value.bool true)]) h_3)
theorem e7 (g0_1 : Value) (h : Heap) (K : Value → Heap → Prop) : wpA Tryz.prog 9 (anOf []) (bodyOf Tryz.f7) 1 (fun A h => resA Tryz.prog A h K [.tmp 2, .tmp 3]) (fun _ _ _ => False) (fun A h => resA Tryz.prog A h K [.tmp 2, .tmp 3]) (aargs [g0_1] 0) h = t7 Tryz.prog g0_1 h K := by kernel_rfl
theorem c7 (g0_1 : Value) (h : Heap) (K : Value → Heap → Prop) (H : t7 Tryz.prog g0_1 h K) : callM Tryz.prog 7 #[g0_1] h K :=
  callM_of_wpA mixed (fn := Tryz.f7) Tryz.func7 (c := bodyOf Tryz.f7) rfl (of_decide_eq_true (by kernel_rfl)) (anOf []) 8 9 (by kernel_rfl) rfl [.tmp 2, .tmp 3] (by kernel_rfl) (args := [g0_1]) (by rw [e7]; exact H)

/-! impl.CountExits -/
def t8 (P : Program) (g0_1 : Value) (h : Heap) (K : Value → Heap → Prop) : Prop :=
  eop P (Instr.box 26 g0_1) h fun g1_1 h_1 =>
  rop P (Instr.loadAt 26 g1_1) h_1 fun t4_1 =>
  callM P 26 #[t4_1] h_1 fun t5_1 h_2 =>
  pop P (Op.unary .not t5_1) fun t6_1 =>
  condM t6_1
  (K (.tuple #[(Value.int IntKind.i64 0), (Value.bool false)]) h_2)
  (pop P (Instr.fieldAt 26 g1_1 0) fun t7_1 =>
  rop P (Instr.loadAt 24 t7_1) h_2 fun t8_1 =>
  callM P 30 #[t8_1] h_2 fun t9_1 h_3 =>
  pop P (lenS 36 3 t9_1) fun t10_1 =>
  K (.tuple #[t10_1, (Value.bool true)]) h_3)
theorem e8 (g0_1 : Value) (h : Heap) (K : Value → Heap → Prop) : wpA Tryz.prog 11 (anOf []) (bodyOf Tryz.f8) 1 (fun A h => resA Tryz.prog A h K [.tmp 2, .tmp 3]) (fun _ _ _ => False) (fun A h => resA Tryz.prog A h K [.tmp 2, .tmp 3]) (aargs [g0_1] 0) h = t8 Tryz.prog g0_1 h K := by kernel_rfl
theorem c8 (g0_1 : Value) (h : Heap) (K : Value → Heap → Prop) (H : t8 Tryz.prog g0_1 h K) : callM Tryz.prog 8 #[g0_1] h K :=
  callM_of_wpA mixed (fn := Tryz.f8) Tryz.func8 (c := bodyOf Tryz.f8) rfl (of_decide_eq_true (by kernel_rfl)) (anOf []) 10 11 (by kernel_rfl) rfl [.tmp 2, .tmp 3] (by kernel_rfl) (args := [g0_1]) (by rw [e8]; exact H)

/-! spec.CountExits -/
def t9 (P : Program) (g0_1 : Value) (h : Heap) (K : Value → Heap → Prop) : Prop :=
  eop P (Instr.box 26 g0_1) h fun g1_1 h_1 =>
  rop P (Instr.loadAt 26 g1_1) h_1 fun t4_1 =>
  callM P 28 #[t4_1] h_1 fun t5_1 h_2 =>
  pop P (Op.unary .not t5_1) fun t6_1 =>
  condM t6_1
  (K (.tuple #[(Value.int IntKind.i64 0), (Value.bool false)]) h_2)
  (rop P (Instr.loadAt 26 g1_1) h_2 fun t7_1 =>
  callM P 31 #[t7_1] h_2 fun t8_1 h_3 =>
  K (.tuple #[t8_1, (Value.bool true)]) h_3)
theorem e9 (g0_1 : Value) (h : Heap) (K : Value → Heap → Prop) : wpA Tryz.prog 9 (anOf []) (bodyOf Tryz.f9) 1 (fun A h => resA Tryz.prog A h K [.tmp 2, .tmp 3]) (fun _ _ _ => False) (fun A h => resA Tryz.prog A h K [.tmp 2, .tmp 3]) (aargs [g0_1] 0) h = t9 Tryz.prog g0_1 h K := by kernel_rfl
theorem c9 (g0_1 : Value) (h : Heap) (K : Value → Heap → Prop) (H : t9 Tryz.prog g0_1 h K) : callM Tryz.prog 9 #[g0_1] h K :=
  callM_of_wpA mixed (fn := Tryz.f9) Tryz.func9 (c := bodyOf Tryz.f9) rfl (of_decide_eq_true (by kernel_rfl)) (anOf []) 8 9 (by kernel_rfl) rfl [.tmp 2, .tmp 3] (by kernel_rfl) (args := [g0_1]) (by rw [e9]; exact H)

/-! impl.PlacesOf -/
def t10 (P : Program) (g0_1 : Value) (h : Heap) (K : Value → Heap → Prop) : Prop :=
  eop P (Instr.box 26 g0_1) h fun g1_1 h_1 =>
  rop P (Instr.loadAt 26 g1_1) h_1 fun t4_1 =>
  callM P 26 #[t4_1] h_1 fun t5_1 h_2 =>
  pop P (Op.unary .not t5_1) fun t6_1 =>
  condM t6_1
  (K (.tuple #[(Value.int IntKind.i64 0), (Value.bool false)]) h_2)
  (pop P (Instr.fieldAt 26 g1_1 0) fun t7_1 =>
  rop P (Instr.loadAt 24 t7_1) h_2 fun t8_1 =>
  pop P (lenS 24 3 t8_1) fun t9_1 =>
  K (.tuple #[t9_1, (Value.bool true)]) h_2)
theorem e10 (g0_1 : Value) (h : Heap) (K : Value → Heap → Prop) : wpA Tryz.prog 10 (anOf []) (bodyOf Tryz.f10) 1 (fun A h => resA Tryz.prog A h K [.tmp 2, .tmp 3]) (fun _ _ _ => False) (fun A h => resA Tryz.prog A h K [.tmp 2, .tmp 3]) (aargs [g0_1] 0) h = t10 Tryz.prog g0_1 h K := by kernel_rfl
theorem c10 (g0_1 : Value) (h : Heap) (K : Value → Heap → Prop) (H : t10 Tryz.prog g0_1 h K) : callM Tryz.prog 10 #[g0_1] h K :=
  callM_of_wpA mixed (fn := Tryz.f10) Tryz.func10 (c := bodyOf Tryz.f10) rfl (of_decide_eq_true (by kernel_rfl)) (anOf []) 9 10 (by kernel_rfl) rfl [.tmp 2, .tmp 3] (by kernel_rfl) (args := [g0_1]) (by rw [e10]; exact H)

/-! spec.PlacesOf -/
def t11 (P : Program) (g0_1 : Value) (h : Heap) (K : Value → Heap → Prop) : Prop :=
  eop P (Instr.box 26 g0_1) h fun g1_1 h_1 =>
  rop P (Instr.loadAt 26 g1_1) h_1 fun t4_1 =>
  callM P 28 #[t4_1] h_1 fun t5_1 h_2 =>
  pop P (Op.unary .not t5_1) fun t6_1 =>
  condM t6_1
  (K (.tuple #[(Value.int IntKind.i64 0), (Value.bool false)]) h_2)
  (pop P (Instr.fieldAt 26 g1_1 0) fun t7_1 =>
  rop P (Instr.loadAt 24 t7_1) h_2 fun t8_1 =>
  pop P (lenS 24 3 t8_1) fun t9_1 =>
  K (.tuple #[t9_1, (Value.bool true)]) h_2)
theorem e11 (g0_1 : Value) (h : Heap) (K : Value → Heap → Prop) : wpA Tryz.prog 10 (anOf []) (bodyOf Tryz.f11) 1 (fun A h => resA Tryz.prog A h K [.tmp 2, .tmp 3]) (fun _ _ _ => False) (fun A h => resA Tryz.prog A h K [.tmp 2, .tmp 3]) (aargs [g0_1] 0) h = t11 Tryz.prog g0_1 h K := by kernel_rfl
theorem c11 (g0_1 : Value) (h : Heap) (K : Value → Heap → Prop) (H : t11 Tryz.prog g0_1 h K) : callM Tryz.prog 11 #[g0_1] h K :=
  callM_of_wpA mixed (fn := Tryz.f11) Tryz.func11 (c := bodyOf Tryz.f11) rfl (of_decide_eq_true (by kernel_rfl)) (anOf []) 9 10 (by kernel_rfl) rfl [.tmp 2, .tmp 3] (by kernel_rfl) (args := [g0_1]) (by rw [e11]; exact H)

/-! impl.IsGraph -/
def t12 (P : Program) (g0_1 : Value) (h : Heap) (K : Value → Heap → Prop) : Prop :=
  eop P (Instr.box 26 g0_1) h fun g1_1 h_1 =>
  rop P (Instr.loadAt 26 g1_1) h_1 fun t3_1 =>
  callM P 26 #[t3_1] h_1 fun t4_1 h_2 =>
  K t4_1 h_2
theorem e12 (g0_1 : Value) (h : Heap) (K : Value → Heap → Prop) : wpA Tryz.prog 5 (anOf []) (bodyOf Tryz.f12) 1 (fun A h => resA Tryz.prog A h K [.tmp 2]) (fun _ _ _ => False) (fun A h => resA Tryz.prog A h K [.tmp 2]) (aargs [g0_1] 0) h = t12 Tryz.prog g0_1 h K := by kernel_rfl
theorem c12 (g0_1 : Value) (h : Heap) (K : Value → Heap → Prop) (H : t12 Tryz.prog g0_1 h K) : callM Tryz.prog 12 #[g0_1] h K :=
  callM_of_wpA mixed (fn := Tryz.f12) Tryz.func12 (c := bodyOf Tryz.f12) rfl (of_decide_eq_true (by kernel_rfl)) (anOf []) 4 5 (by kernel_rfl) rfl [.tmp 2] (by kernel_rfl) (args := [g0_1]) (by rw [e12]; exact H)

/-! spec.IsGraph -/
def t13 (P : Program) (g0_1 : Value) (h : Heap) (K : Value → Heap → Prop) : Prop :=
  eop P (Instr.box 26 g0_1) h fun g1_1 h_1 =>
  rop P (Instr.loadAt 26 g1_1) h_1 fun t3_1 =>
  callM P 28 #[t3_1] h_1 fun t4_1 h_2 =>
  K t4_1 h_2
theorem e13 (g0_1 : Value) (h : Heap) (K : Value → Heap → Prop) : wpA Tryz.prog 5 (anOf []) (bodyOf Tryz.f13) 1 (fun A h => resA Tryz.prog A h K [.tmp 2]) (fun _ _ _ => False) (fun A h => resA Tryz.prog A h K [.tmp 2]) (aargs [g0_1] 0) h = t13 Tryz.prog g0_1 h K := by kernel_rfl
theorem c13 (g0_1 : Value) (h : Heap) (K : Value → Heap → Prop) (H : t13 Tryz.prog g0_1 h K) : callM Tryz.prog 13 #[g0_1] h K :=
  callM_of_wpA mixed (fn := Tryz.f13) Tryz.func13 (c := bodyOf Tryz.f13) rfl (of_decide_eq_true (by kernel_rfl)) (anOf []) 4 5 (by kernel_rfl) rfl [.tmp 2] (by kernel_rfl) (args := [g0_1]) (by rw [e13]; exact H)

/-! impl.ParseGraph -/
def t14 (P : Program) (s0_1 : Value) (h : Heap) (K : Value → Heap → Prop) : Prop :=
  eop P (Instr.alloc 26 true (.tuple #[])) h fun t2_1 h_1 =>
  pop P (Instr.build 26 #[]) fun t9_1 =>
  eop P (Instr.alloc 26 true (.tuple #[])) h_1 fun out4_1 h_2 =>
  uop P (Instr.storeAt 26 out4_1 t9_1) h_2 fun u_1 h_3 =>
  callM P 32 #[s0_1, (Value.string { data := #[59] })] h_3 fun t11_1 h_4 =>
  pop P (lenS 48 3 t11_1) fun t12_1 =>
  ∃ (I_1 : List Value → Heap → Prop) (μ_1 : List Value → Heap → Nat), I_1 [(Value.int IntKind.i64 0)] h_4 ∧
  ∀ (junk_1 : Nat → Value) (t13_1 : Value) (h_5 : Heap), I_1 [t13_1] h_5 →
  pop P (binA .lss 3 t13_1 t12_1) fun t14_1 =>
  condM t14_1
  (pop P (Instr.indexAt 48 t11_1 t13_1) fun t15_1 =>
  rop P (Instr.loadAt 9 t15_1) h_5 fun t16_1 =>
  callM P 33 #[t16_1] h_5 fun t19_1 h_6 =>
  pop P (Instr.extract t19_1 0) fun t20_1 =>
  pop P (Instr.extract t19_1 1) fun t21_1 =>
  pop P (Op.unary .not t21_1) fun t23_1 =>
  condM t23_1
  (pop P (Instr.build 26 #[]) fun t24_1 =>
  uop P (Instr.storeAt 26 t2_1 t24_1) h_6 fun u_2 h_7 =>
  rop P (Instr.loadAt 26 t2_1) h_7 fun r_1 =>
  K (.tuple #[r_1, (Value.bool false)]) h_7)
  (pop P (Instr.fieldAt 26 out4_1 0) fun t25_1 =>
  rop P (Instr.loadAt 24 t25_1) h_6 fun t26_1 =>
  eop P (Instr.buildSlice 24 1 #[(0, t20_1)]) h_6 fun t28_1 h_8 =>
  eop P (appS 24 24 24 t26_1 t28_1) h_8 fun t29_1 h_9 =>
  pop P (Instr.fieldAt 26 out4_1 0) fun t30_1 =>
  uop P (Instr.storeAt 24 t30_1 t29_1) h_9 fun u_3 h_10 =>
  pop P (binA .add 3 t13_1 (Value.int IntKind.i64 1)) fun t31_1 =>
  I_1 [t31_1] h_10 ∧ μ_1 [t31_1] h_10 < μ_1 [t13_1] h_5))
  (rop P (Instr.loadAt 26 out4_1) h_5 fun t32_1 =>
  callM P 34 #[t32_1] h_5 fun t33_1 h_11 =>
  pop P (Instr.extract t33_1 0) fun t34_1 =>
  pop P (Instr.extract t33_1 1) fun t35_1 =>
  uop P (Instr.storeAt 26 t2_1 t34_1) h_11 fun u_4 h_12 =>
  rop P (Instr.loadAt 26 t2_1) h_12 fun r_2 =>
  K (.tuple #[r_2, t35_1]) h_12)
theorem e14 (s0_1 : Value) (h : Heap) (K : Value → Heap → Prop) : wpA Tryz.prog 36 (anOf [(58, [13])]) (bodyOf Tryz.f14) 1 (fun A h => resA Tryz.prog A h K [.cell 2 26, .tmp 3]) (fun _ _ _ => False) (fun A h => resA Tryz.prog A h K [.cell 2 26, .tmp 3]) (aargs [s0_1] 0) h = t14 Tryz.prog s0_1 h K := by kernel_rfl
theorem c14 (s0_1 : Value) (h : Heap) (K : Value → Heap → Prop) (H : t14 Tryz.prog s0_1 h K) : callM Tryz.prog 14 #[s0_1] h K :=
  callM_of_wpA mixed (fn := Tryz.f14) Tryz.func14 (c := bodyOf Tryz.f14) rfl (of_decide_eq_true (by kernel_rfl)) (anOf [(58, [13])]) 35 36 (by kernel_rfl) rfl [.cell 2 26, .tmp 3] (by kernel_rfl) (args := [s0_1]) (by rw [e14]; exact H)

/-! laws.wGraph -/
def t15 (P : Program) (a0_1 : Value) (b1_1 : Value) (h : Heap) (K : Value → Heap → Prop) : Prop :=
  eop P (Instr.box 26 a0_1) h fun a2_1 h_1 =>
  eop P (Instr.box 26 b1_1) h_1 fun b3_1 h_2 =>
  pop P (Instr.fieldAt 26 a2_1 0) fun t5_1 =>
  rop P (Instr.loadAt 24 t5_1) h_2 fun t6_1 =>
  pop P (Instr.fieldAt 26 b3_1 0) fun t7_1 =>
  rop P (Instr.loadAt 24 t7_1) h_2 fun t8_1 =>
  callM P 35 #[t6_1, t8_1] h_2 fun t9_1 h_3 =>
  K t9_1 h_3
theorem e15 (a0_1 : Value) (b1_1 : Value) (h : Heap) (K : Value → Heap → Prop) : wpA Tryz.prog 10 (anOf []) (bodyOf Tryz.f15) 1 (fun A h => resA Tryz.prog A h K [.tmp 4]) (fun _ _ _ => False) (fun A h => resA Tryz.prog A h K [.tmp 4]) (aargs [a0_1, b1_1] 0) h = t15 Tryz.prog a0_1 b1_1 h K := by kernel_rfl
theorem c15 (a0_1 : Value) (b1_1 : Value) (h : Heap) (K : Value → Heap → Prop) (H : t15 Tryz.prog a0_1 b1_1 h K) : callM Tryz.prog 15 #[a0_1, b1_1] h K :=
  callM_of_wpA mixed (fn := Tryz.f15) Tryz.func15 (c := bodyOf Tryz.f15) rfl (of_decide_eq_true (by kernel_rfl)) (anOf []) 8 10 (by kernel_rfl) rfl [.tmp 4] (by kernel_rfl) (args := [a0_1, b1_1]) (by rw [e15]; exact H)

/-! impl.ExitsOf -/
def t16 (P : Program) (g0_1 : Value) (p1_1 : Value) (h : Heap) (K : Value → Heap → Prop) : Prop :=
  eop P (Instr.box 26 g0_1) h fun g2_1 h_1 =>
  rop P (Instr.loadAt 26 g2_1) h_1 fun t6_1 =>
  eop P (Instr.buildSlice 36 1 #[(0, p1_1)]) h_1 fun t8_1 h_2 =>
  callM P 36 #[t6_1, t8_1] h_2 fun t9_1 h_3 =>
  pop P (Op.unary .not t9_1) fun t10_1 =>
  condM t10_1
  (K (.tuple #[(Value.slice none 0 0), (Value.bool false)]) h_3)
  (pop P (Instr.fieldAt 26 g2_1 0) fun t11_1 =>
  rop P (Instr.loadAt 24 t11_1) h_3 fun t12_1 =>
  pop P (Instr.indexAt 24 t12_1 p1_1) fun t14_1 =>
  rop P (Instr.loadAt 36 t14_1) h_3 fun t15_1 =>
  callM P 37 #[t15_1] h_3 fun t16_1 h_4 =>
  K (.tuple #[t16_1, (Value.bool true)]) h_4)
theorem e16 (g0_1 : Value) (p1_1 : Value) (h : Heap) (K : Value → Heap → Prop) : wpA Tryz.prog 17 (anOf []) (bodyOf Tryz.f16) 1 (fun A h => resA Tryz.prog A h K [.tmp 4, .tmp 5]) (fun _ _ _ => False) (fun A h => resA Tryz.prog A h K [.tmp 4, .tmp 5]) (aargs [g0_1, p1_1] 0) h = t16 Tryz.prog g0_1 p1_1 h K := by kernel_rfl
theorem c16 (g0_1 : Value) (p1_1 : Value) (h : Heap) (K : Value → Heap → Prop) (H : t16 Tryz.prog g0_1 p1_1 h K) : callM Tryz.prog 16 #[g0_1, p1_1] h K :=
  callM_of_wpA mixed (fn := Tryz.f16) Tryz.func16 (c := bodyOf Tryz.f16) rfl (of_decide_eq_true (by kernel_rfl)) (anOf []) 15 17 (by kernel_rfl) rfl [.tmp 4, .tmp 5] (by kernel_rfl) (args := [g0_1, p1_1]) (by rw [e16]; exact H)

/-! impl.EntriesOf -/
def t17 (P : Program) (g0_1 : Value) (p1_1 : Value) (h : Heap) (K : Value → Heap → Prop) : Prop :=
  eop P (Instr.box 26 g0_1) h fun g2_1 h_1 =>
  rop P (Instr.loadAt 26 g2_1) h_1 fun t6_1 =>
  eop P (Instr.buildSlice 36 1 #[(0, p1_1)]) h_1 fun t8_1 h_2 =>
  callM P 36 #[t6_1, t8_1] h_2 fun t9_1 h_3 =>
  pop P (Op.unary .not t9_1) fun t10_1 =>
  condM t10_1
  (K (.tuple #[(Value.int IntKind.i64 0), (Value.bool false)]) h_3)
  (rop P (Instr.loadAt 26 g2_1) h_3 fun t11_1 =>
  callM P 38 #[t11_1, p1_1] h_3 fun t13_1 h_4 =>
  K (.tuple #[t13_1, (Value.bool true)]) h_4)
theorem e17 (g0_1 : Value) (p1_1 : Value) (h : Heap) (K : Value → Heap → Prop) : wpA Tryz.prog 14 (anOf []) (bodyOf Tryz.f17) 1 (fun A h => resA Tryz.prog A h K [.tmp 4, .tmp 5]) (fun _ _ _ => False) (fun A h => resA Tryz.prog A h K [.tmp 4, .tmp 5]) (aargs [g0_1, p1_1] 0) h = t17 Tryz.prog g0_1 p1_1 h K := by kernel_rfl
theorem c17 (g0_1 : Value) (p1_1 : Value) (h : Heap) (K : Value → Heap → Prop) (H : t17 Tryz.prog g0_1 p1_1 h K) : callM Tryz.prog 17 #[g0_1, p1_1] h K :=
  callM_of_wpA mixed (fn := Tryz.f17) Tryz.func17 (c := bodyOf Tryz.f17) rfl (of_decide_eq_true (by kernel_rfl)) (anOf []) 12 14 (by kernel_rfl) rfl [.tmp 4, .tmp 5] (by kernel_rfl) (args := [g0_1, p1_1]) (by rw [e17]; exact H)

/-! laws.wSame -/
def t18 (P : Program) (a0_1 : Value) (b1_1 : Value) (h : Heap) (K : Value → Heap → Prop) : Prop :=
  pop P (lenS 36 3 a0_1) fun t7_1 =>
  pop P (lenS 36 3 b1_1) fun t9_1 =>
  pop P (binE .neq 3 (.tmp 7) (.tmp 9) t7_1 t9_1) fun t10_1 =>
  condM t10_1
  (K (Value.bool false) h)
  (pop P (lenS 36 3 a0_1) fun t12_1 =>
  ∃ (I_1 : List Value → Heap → Prop) (μ_1 : List Value → Heap → Nat), I_1 [(Value.int IntKind.i64 0)] h ∧
  ∀ (junk_1 : Nat → Value) (t13_1 : Value) (h_1 : Heap), I_1 [t13_1] h_1 →
  pop P (binA .lss 3 t13_1 t12_1) fun t14_1 =>
  condM t14_1
  (pop P (Instr.indexAt 36 a0_1 t13_1) fun t18_1 =>
  rop P (Instr.loadAt 3 t18_1) h_1 fun t19_1 =>
  pop P (Instr.indexAt 36 b1_1 t13_1) fun t22_1 =>
  rop P (Instr.loadAt 3 t22_1) h_1 fun t23_1 =>
  pop P (binE .neq 3 (.tmp 19) (.tmp 23) t19_1 t23_1) fun t24_1 =>
  condM t24_1
  (K (Value.bool false) h_1)
  (pop P (binA .add 3 t13_1 (Value.int IntKind.i64 1)) fun t25_1 =>
  I_1 [t25_1] h_1 ∧ μ_1 [t25_1] h_1 < μ_1 [t13_1] h_1))
  (K (Value.bool true) h_1))
theorem e18 (a0_1 : Value) (b1_1 : Value) (h : Heap) (K : Value → Heap → Prop) : wpA Tryz.prog 26 (anOf [(58, [13])]) (bodyOf Tryz.f18) 1 (fun A h => resA Tryz.prog A h K [.tmp 4]) (fun _ _ _ => False) (fun A h => resA Tryz.prog A h K [.tmp 4]) (aargs [a0_1, b1_1] 0) h = t18 Tryz.prog a0_1 b1_1 h K := by kernel_rfl
theorem c18 (a0_1 : Value) (b1_1 : Value) (h : Heap) (K : Value → Heap → Prop) (H : t18 Tryz.prog a0_1 b1_1 h K) : callM Tryz.prog 18 #[a0_1, b1_1] h K :=
  callM_of_wpA mixed (fn := Tryz.f18) Tryz.func18 (c := bodyOf Tryz.f18) rfl (of_decide_eq_true (by kernel_rfl)) (anOf [(58, [13])]) 24 26 (by kernel_rfl) rfl [.tmp 4] (by kernel_rfl) (args := [a0_1, b1_1]) (by rw [e18]; exact H)

/-! impl.IsBalanced -/
def t19 (P : Program) (g0_1 : Value) (h : Heap) (K : Value → Heap → Prop) : Prop :=
  eop P (Instr.box 26 g0_1) h fun g1_1 h_1 =>
  rop P (Instr.loadAt 26 g1_1) h_1 fun t4_1 =>
  callM P 26 #[t4_1] h_1 fun t5_1 h_2 =>
  pop P (Op.unary .not t5_1) fun t6_1 =>
  condM t6_1
  (K (.tuple #[(Value.bool false), (Value.bool false)]) h_2)
  (rop P (Instr.loadAt 26 g1_1) h_2 fun t7_1 =>
  callM P 39 #[t7_1] h_2 fun t8_1 h_3 =>
  K (.tuple #[t8_1, (Value.bool true)]) h_3)
theorem e19 (g0_1 : Value) (h : Heap) (K : Value → Heap → Prop) : wpA Tryz.prog 9 (anOf []) (bodyOf Tryz.f19) 1 (fun A h => resA Tryz.prog A h K [.tmp 2, .tmp 3]) (fun _ _ _ => False) (fun A h => resA Tryz.prog A h K [.tmp 2, .tmp 3]) (aargs [g0_1] 0) h = t19 Tryz.prog g0_1 h K := by kernel_rfl
theorem c19 (g0_1 : Value) (h : Heap) (K : Value → Heap → Prop) (H : t19 Tryz.prog g0_1 h K) : callM Tryz.prog 19 #[g0_1] h K :=
  callM_of_wpA mixed (fn := Tryz.f19) Tryz.func19 (c := bodyOf Tryz.f19) rfl (of_decide_eq_true (by kernel_rfl)) (anOf []) 8 9 (by kernel_rfl) rfl [.tmp 2, .tmp 3] (by kernel_rfl) (args := [g0_1]) (by rw [e19]; exact H)

/-! impl.ReverseGraph -/
def t20 (P : Program) (g0_1 : Value) (h : Heap) (K : Value → Heap → Prop) : Prop :=
  eop P (Instr.box 26 g0_1) h fun g1_1 h_1 =>
  eop P (Instr.alloc 26 true (.tuple #[])) h_1 fun t2_1 h_2 =>
  rop P (Instr.loadAt 26 g1_1) h_2 fun t9_1 =>
  callM P 26 #[t9_1] h_2 fun t10_1 h_3 =>
  pop P (Op.unary .not t10_1) fun t11_1 =>
  condM t11_1
  (pop P (Instr.build 26 #[]) fun t12_1 =>
  uop P (Instr.storeAt 26 t2_1 t12_1) h_3 fun u_1 h_4 =>
  rop P (Instr.loadAt 26 t2_1) h_4 fun r_1 =>
  K (.tuple #[r_1, (Value.bool false)]) h_4)
  (pop P (Instr.fieldAt 26 g1_1 0) fun t13_1 =>
  rop P (Instr.loadAt 24 t13_1) h_3 fun t14_1 =>
  pop P (lenS 24 3 t14_1) fun t15_1 =>
  eop P (Instr.makeSlice 24 t15_1 t15_1) h_3 fun t16_1 h_5 =>
  pop P (Instr.build 26 #[(0, t16_1)]) fun t17_1 =>
  eop P (Instr.alloc 26 true (.tuple #[])) h_5 fun out4_1 h_6 =>
  uop P (Instr.storeAt 26 out4_1 t17_1) h_6 fun u_2 h_7 =>
  pop P (Instr.fieldAt 26 g1_1 0) fun t18_1 =>
  rop P (Instr.loadAt 24 t18_1) h_7 fun t19_1 =>
  pop P (lenS 24 3 t19_1) fun t20_1 =>
  ∃ (I_1 : List Value → Heap → Prop) (μ_1 : List Value → Heap → Nat), I_1 [(Value.int IntKind.i64 0)] h_7 ∧
  ∀ (junk_1 : Nat → Value) (t21_1 : Value) (h_8 : Heap), I_1 [t21_1] h_8 →
  pop P (binA .lss 3 t21_1 t20_1) fun t22_1 =>
  condM t22_1
  (pop P (Instr.indexAt 24 t19_1 t21_1) fun t24_1 =>
  rop P (Instr.loadAt 36 t24_1) h_8 fun t25_1 =>
  pop P (lenS 36 3 t25_1) fun t27_1 =>
  ∃ (I_2 : List Value → Heap → Prop) (μ_2 : List Value → Heap → Nat), I_2 [(Value.int IntKind.i64 0)] h_8 ∧
  ∀ (junk_2 : Nat → Value) (t28_1 : Value) (h_9 : Heap), I_2 [t28_1] h_9 →
  pop P (binA .lss 3 t28_1 t27_1) fun t29_1 =>
  condM t29_1
  (pop P (Instr.indexAt 36 t25_1 t28_1) fun t30_1 =>
  rop P (Instr.loadAt 3 t30_1) h_9 fun t31_1 =>
  pop P (Instr.fieldAt 26 out4_1 0) fun t32_1 =>
  rop P (Instr.loadAt 24 t32_1) h_9 fun t33_1 =>
  pop P (Instr.fieldAt 26 out4_1 0) fun t35_1 =>
  rop P (Instr.loadAt 24 t35_1) h_9 fun t36_1 =>
  pop P (Instr.indexAt 24 t36_1 t31_1) fun t38_1 =>
  rop P (Instr.loadAt 36 t38_1) h_9 fun t39_1 =>
  eop P (Instr.buildSlice 36 1 #[(0, t21_1)]) h_9 fun t41_1 h_10 =>
  (∀ w : World, w.heap = h_10 → (Instr.loadAt 36 t38_1).run P w = .ok t39_1 w) ∧
  (∀ w : World, w.heap = h_10 → (Instr.loadAt 24 t35_1).run P w = .ok t36_1 w) ∧
  (∀ w : World, w.heap = h_10 → (Instr.loadAt 24 t32_1).run P w = .ok t33_1 w) ∧
  eop P (appS 36 36 36 t39_1 t41_1) h_10 fun t42_1 h_11 =>
  (∀ w : World, w.heap = h_11 → (Instr.loadAt 24 t35_1).run P w = .ok t36_1 w) ∧
  (∀ w : World, w.heap = h_11 → (Instr.loadAt 24 t32_1).run P w = .ok t33_1 w) ∧
  pop P (Instr.indexAt 24 t33_1 t31_1) fun t43_1 =>
  uop P (Instr.storeAt 36 t43_1 t42_1) h_11 fun u_3 h_12 =>
  pop P (binA .add 3 t28_1 (Value.int IntKind.i64 1)) fun t44_1 =>
  I_2 [t44_1] h_12 ∧ μ_2 [t44_1] h_12 < μ_2 [t28_1] h_9)
  (pop P (binA .add 3 t21_1 (Value.int IntKind.i64 1)) fun t45_1 =>
  I_1 [t45_1] h_9 ∧ μ_1 [t45_1] h_9 < μ_1 [t21_1] h_8))
  (rop P (Instr.loadAt 26 out4_1) h_8 fun t46_1 =>
  callM P 34 #[t46_1] h_8 fun t47_1 h_13 =>
  pop P (Instr.extract t47_1 0) fun t48_1 =>
  pop P (Instr.extract t47_1 1) fun t49_1 =>
  uop P (Instr.storeAt 26 t2_1 t48_1) h_13 fun u_4 h_14 =>
  rop P (Instr.loadAt 26 t2_1) h_14 fun r_2 =>
  K (.tuple #[r_2, t49_1]) h_14))
theorem e20 (g0_1 : Value) (h : Heap) (K : Value → Heap → Prop) : wpA Tryz.prog 50 (anOf [(122, [21]), (31334, [28])]) (bodyOf Tryz.f20) 1 (fun A h => resA Tryz.prog A h K [.cell 2 26, .tmp 3]) (fun _ _ _ => False) (fun A h => resA Tryz.prog A h K [.cell 2 26, .tmp 3]) (aargs [g0_1] 0) h = t20 Tryz.prog g0_1 h K := by kernel_rfl
theorem c20 (g0_1 : Value) (h : Heap) (K : Value → Heap → Prop) (H : t20 Tryz.prog g0_1 h K) : callM Tryz.prog 20 #[g0_1] h K :=
  callM_of_wpA mixed (fn := Tryz.f20) Tryz.func20 (c := bodyOf Tryz.f20) rfl (of_decide_eq_true (by kernel_rfl)) (anOf [(122, [21]), (31334, [28])]) 49 50 (by kernel_rfl) rfl [.cell 2 26, .tmp 3] (by kernel_rfl) (args := [g0_1]) (by rw [e20]; exact H)

/-! spec.ReverseGraph -/
def t21 (P : Program) (g0_1 : Value) (h : Heap) (K : Value → Heap → Prop) : Prop :=
  eop P (Instr.box 26 g0_1) h fun g1_1 h_1 =>
  eop P (Instr.alloc 26 true (.tuple #[])) h_1 fun t2_1 h_2 =>
  rop P (Instr.loadAt 26 g1_1) h_2 fun t9_1 =>
  callM P 28 #[t9_1] h_2 fun t10_1 h_3 =>
  pop P (Op.unary .not t10_1) fun t11_1 =>
  condM t11_1
  (pop P (Instr.build 26 #[]) fun t12_1 =>
  uop P (Instr.storeAt 26 t2_1 t12_1) h_3 fun u_1 h_4 =>
  rop P (Instr.loadAt 26 t2_1) h_4 fun r_1 =>
  K (.tuple #[r_1, (Value.bool false)]) h_4)
  (pop P (Instr.fieldAt 26 g1_1 0) fun t13_1 =>
  rop P (Instr.loadAt 24 t13_1) h_3 fun t14_1 =>
  pop P (lenS 24 3 t14_1) fun t15_1 =>
  eop P (Instr.makeSlice 24 t15_1 t15_1) h_3 fun t16_1 h_5 =>
  pop P (Instr.build 26 #[(0, t16_1)]) fun t17_1 =>
  eop P (Instr.alloc 26 true (.tuple #[])) h_5 fun out4_1 h_6 =>
  uop P (Instr.storeAt 26 out4_1 t17_1) h_6 fun u_2 h_7 =>
  pop P (Instr.fieldAt 26 g1_1 0) fun t18_1 =>
  rop P (Instr.loadAt 24 t18_1) h_7 fun t19_1 =>
  pop P (lenS 24 3 t19_1) fun t20_1 =>
  ∃ (I_1 : List Value → Heap → Prop) (μ_1 : List Value → Heap → Nat), I_1 [(Value.int IntKind.i64 0)] h_7 ∧
  ∀ (junk_1 : Nat → Value) (t21_1 : Value) (h_8 : Heap), I_1 [t21_1] h_8 →
  pop P (binA .lss 3 t21_1 t20_1) fun t22_1 =>
  condM t22_1
  (pop P (Instr.indexAt 24 t19_1 t21_1) fun t24_1 =>
  rop P (Instr.loadAt 36 t24_1) h_8 fun t25_1 =>
  pop P (lenS 36 3 t25_1) fun t27_1 =>
  ∃ (I_2 : List Value → Heap → Prop) (μ_2 : List Value → Heap → Nat), I_2 [(Value.int IntKind.i64 0)] h_8 ∧
  ∀ (junk_2 : Nat → Value) (t28_1 : Value) (h_9 : Heap), I_2 [t28_1] h_9 →
  pop P (binA .lss 3 t28_1 t27_1) fun t29_1 =>
  condM t29_1
  (pop P (Instr.indexAt 36 t25_1 t28_1) fun t30_1 =>
  rop P (Instr.loadAt 3 t30_1) h_9 fun t31_1 =>
  pop P (Instr.fieldAt 26 out4_1 0) fun t32_1 =>
  rop P (Instr.loadAt 24 t32_1) h_9 fun t33_1 =>
  pop P (Instr.fieldAt 26 out4_1 0) fun t35_1 =>
  rop P (Instr.loadAt 24 t35_1) h_9 fun t36_1 =>
  pop P (Instr.indexAt 24 t36_1 t31_1) fun t38_1 =>
  rop P (Instr.loadAt 36 t38_1) h_9 fun t39_1 =>
  eop P (Instr.buildSlice 36 1 #[(0, t21_1)]) h_9 fun t41_1 h_10 =>
  (∀ w : World, w.heap = h_10 → (Instr.loadAt 36 t38_1).run P w = .ok t39_1 w) ∧
  (∀ w : World, w.heap = h_10 → (Instr.loadAt 24 t35_1).run P w = .ok t36_1 w) ∧
  (∀ w : World, w.heap = h_10 → (Instr.loadAt 24 t32_1).run P w = .ok t33_1 w) ∧
  eop P (appS 36 36 36 t39_1 t41_1) h_10 fun t42_1 h_11 =>
  (∀ w : World, w.heap = h_11 → (Instr.loadAt 24 t35_1).run P w = .ok t36_1 w) ∧
  (∀ w : World, w.heap = h_11 → (Instr.loadAt 24 t32_1).run P w = .ok t33_1 w) ∧
  pop P (Instr.indexAt 24 t33_1 t31_1) fun t43_1 =>
  uop P (Instr.storeAt 36 t43_1 t42_1) h_11 fun u_3 h_12 =>
  pop P (binA .add 3 t28_1 (Value.int IntKind.i64 1)) fun t44_1 =>
  I_2 [t44_1] h_12 ∧ μ_2 [t44_1] h_12 < μ_2 [t28_1] h_9)
  (pop P (binA .add 3 t21_1 (Value.int IntKind.i64 1)) fun t45_1 =>
  I_1 [t45_1] h_9 ∧ μ_1 [t45_1] h_9 < μ_1 [t21_1] h_8))
  (rop P (Instr.loadAt 26 out4_1) h_8 fun t46_1 =>
  callM P 40 #[t46_1] h_8 fun t47_1 h_13 =>
  pop P (Instr.extract t47_1 0) fun t48_1 =>
  pop P (Instr.extract t47_1 1) fun t49_1 =>
  uop P (Instr.storeAt 26 t2_1 t48_1) h_13 fun u_4 h_14 =>
  rop P (Instr.loadAt 26 t2_1) h_14 fun r_2 =>
  K (.tuple #[r_2, t49_1]) h_14))
theorem e21 (g0_1 : Value) (h : Heap) (K : Value → Heap → Prop) : wpA Tryz.prog 50 (anOf [(122, [21]), (31334, [28])]) (bodyOf Tryz.f21) 1 (fun A h => resA Tryz.prog A h K [.cell 2 26, .tmp 3]) (fun _ _ _ => False) (fun A h => resA Tryz.prog A h K [.cell 2 26, .tmp 3]) (aargs [g0_1] 0) h = t21 Tryz.prog g0_1 h K := by kernel_rfl
theorem c21 (g0_1 : Value) (h : Heap) (K : Value → Heap → Prop) (H : t21 Tryz.prog g0_1 h K) : callM Tryz.prog 21 #[g0_1] h K :=
  callM_of_wpA mixed (fn := Tryz.f21) Tryz.func21 (c := bodyOf Tryz.f21) rfl (of_decide_eq_true (by kernel_rfl)) (anOf [(122, [21]), (31334, [28])]) 49 50 (by kernel_rfl) rfl [.cell 2 26, .tmp 3] (by kernel_rfl) (args := [g0_1]) (by rw [e21]; exact H)

/-! impl.IsStrong -/
def t22 (P : Program) (g0_1 : Value) (h : Heap) (K : Value → Heap → Prop) : Prop :=
  eop P (Instr.box 26 g0_1) h fun g1_1 h_1 =>
  rop P (Instr.loadAt 26 g1_1) h_1 fun t4_1 =>
  callM P 26 #[t4_1] h_1 fun t5_1 h_2 =>
  pop P (Op.unary .not t5_1) fun t6_1 =>
  condM t6_1
  (K (.tuple #[(Value.bool false), (Value.bool false)]) h_2)
  (rop P (Instr.loadAt 26 g1_1) h_2 fun t7_1 =>
  callM P 41 #[t7_1] h_2 fun t8_1 h_3 =>
  K (.tuple #[t8_1, (Value.bool true)]) h_3)
theorem e22 (g0_1 : Value) (h : Heap) (K : Value → Heap → Prop) : wpA Tryz.prog 9 (anOf []) (bodyOf Tryz.f22) 1 (fun A h => resA Tryz.prog A h K [.tmp 2, .tmp 3]) (fun _ _ _ => False) (fun A h => resA Tryz.prog A h K [.tmp 2, .tmp 3]) (aargs [g0_1] 0) h = t22 Tryz.prog g0_1 h K := by kernel_rfl
theorem c22 (g0_1 : Value) (h : Heap) (K : Value → Heap → Prop) (H : t22 Tryz.prog g0_1 h K) : callM Tryz.prog 22 #[g0_1] h K :=
  callM_of_wpA mixed (fn := Tryz.f22) Tryz.func22 (c := bodyOf Tryz.f22) rfl (of_decide_eq_true (by kernel_rfl)) (anOf []) 8 9 (by kernel_rfl) rfl [.tmp 2, .tmp 3] (by kernel_rfl) (args := [g0_1]) (by rw [e22]; exact H)

/-! spec.DrawParseGraph -/
def t23 (P : Program) (code0_1 : Value) (h : Heap) (K : Value → Heap → Prop) : Prop :=
  pop P (Instr.build 59 #[(0, code0_1)]) fun t6_1 =>
  eop P (Instr.box 59 t6_1) h fun t7_1 h_1 =>
  callM P 42 #[t7_1, (Value.int IntKind.i64 5)] h_1 fun t9_1 h_2 =>
  callM P 29 #[t9_1] h_2 fun t10_1 h_3 =>
  callM P 43 #[t7_1, (Value.int IntKind.i64 3)] h_3 fun t12_1 h_4 =>
  condM t12_1
  (callM P 44 #[t7_1, t10_1, (Value.string { data := #[48, 49, 50, 51, 52, 53, 54, 55, 59, 44, 45, 32] })] h_4 fun t15_1 h_5 =>
  K t15_1 h_5)
  (K t10_1 h_4)
theorem e23 (code0_1 : Value) (h : Heap) (K : Value → Heap → Prop) : wpA Tryz.prog 17 (anOf []) (bodyOf Tryz.f23) 1 (fun A h => resA Tryz.prog A h K [.tmp 2]) (fun _ _ _ => False) (fun A h => resA Tryz.prog A h K [.tmp 2]) (aargs [code0_1] 0) h = t23 Tryz.prog code0_1 h K := by kernel_rfl
theorem c23 (code0_1 : Value) (h : Heap) (K : Value → Heap → Prop) (H : t23 Tryz.prog code0_1 h K) : callM Tryz.prog 23 #[code0_1] h K :=
  callM_of_wpA mixed (fn := Tryz.f23) Tryz.func23 (c := bodyOf Tryz.f23) rfl (of_decide_eq_true (by kernel_rfl)) (anOf []) 16 17 (by kernel_rfl) rfl [.tmp 2] (by kernel_rfl) (args := [code0_1]) (by rw [e23]; exact H)

/-! spec.ParseGraph -/
def t24 (P : Program) (s0_1 : Value) (h : Heap) (K : Value → Heap → Prop) : Prop :=
  eop P (Instr.alloc 26 true (.tuple #[])) h fun t2_1 h_1 =>
  callM P 45 #[s0_1] h_1 fun t5_1 h_2 =>
  pop P (Instr.extract t5_1 0) fun t6_1 =>
  pop P (Instr.extract t5_1 1) fun t7_1 =>
  uop P (Instr.storeAt 26 t2_1 t6_1) h_2 fun u_1 h_3 =>
  rop P (Instr.loadAt 26 t2_1) h_3 fun r_1 =>
  K (.tuple #[r_1, t7_1]) h_3
theorem e24 (s0_1 : Value) (h : Heap) (K : Value → Heap → Prop) : wpA Tryz.prog 8 (anOf []) (bodyOf Tryz.f24) 1 (fun A h => resA Tryz.prog A h K [.cell 2 26, .tmp 3]) (fun _ _ _ => False) (fun A h => resA Tryz.prog A h K [.cell 2 26, .tmp 3]) (aargs [s0_1] 0) h = t24 Tryz.prog s0_1 h K := by kernel_rfl
theorem c24 (s0_1 : Value) (h : Heap) (K : Value → Heap → Prop) (H : t24 Tryz.prog s0_1 h K) : callM Tryz.prog 24 #[s0_1] h K :=
  callM_of_wpA mixed (fn := Tryz.f24) Tryz.func24 (c := bodyOf Tryz.f24) rfl (of_decide_eq_true (by kernel_rfl)) (anOf []) 7 8 (by kernel_rfl) rfl [.cell 2 26, .tmp 3] (by kernel_rfl) (args := [s0_1]) (by rw [e24]; exact H)

/-! spec.DrawIsGraph -/
def t25 (P : Program) (code0_1 : Value) (h : Heap) (K : Value → Heap → Prop) : Prop :=
  eop P (Instr.alloc 26 true (.tuple #[])) h fun t2_1 h_1 =>
  pop P (Instr.build 59 #[(0, code0_1)]) fun t5_1 =>
  eop P (Instr.box 59 t5_1) h_1 fun t6_1 h_2 =>
  callM P 46 #[t6_1] h_2 fun t8_1 h_3 =>
  uop P (Instr.storeAt 26 t2_1 t8_1) h_3 fun u_1 h_4 =>
  rop P (Instr.loadAt 26 t2_1) h_4 fun r_1 =>
  K r_1 h_4
theorem e25 (code0_1 : Value) (h : Heap) (K : Value → Heap → Prop) : wpA Tryz.prog 9 (anOf []) (bodyOf Tryz.f25) 1 (fun A h => resA Tryz.prog A h K [.cell 2 26]) (fun _ _ _ => False) (fun A h => resA Tryz.prog A h K [.cell 2 26]) (aargs [code0_1] 0) h = t25 Tryz.prog code0_1 h K := by kernel_rfl
theorem c25 (code0_1 : Value) (h : Heap) (K : Value → Heap → Prop) (H : t25 Tryz.prog code0_1 h K) : callM Tryz.prog 25 #[code0_1] h K :=
  callM_of_wpA mixed (fn := Tryz.f25) Tryz.func25 (c := bodyOf Tryz.f25) rfl (of_decide_eq_true (by kernel_rfl)) (anOf []) 8 9 (by kernel_rfl) rfl [.cell 2 26] (by kernel_rfl) (args := [code0_1]) (by rw [e25]; exact H)

/-! impl.isGraph -/
def t26 (P : Program) (g0_1 : Value) (h : Heap) (K : Value → Heap → Prop) : Prop :=
  eop P (Instr.box 26 g0_1) h fun g1_1 h_1 =>
  pop P (Instr.fieldAt 26 g1_1 0) fun t6_1 =>
  rop P (Instr.loadAt 24 t6_1) h_1 fun t7_1 =>
  pop P (lenS 24 3 t7_1) fun t8_1 =>
  eop P (Instr.alloc 3 true (.tuple #[])) h_1 fun n3_1 h_2 =>
  uop P (Instr.storeAt 3 n3_1 t8_1) h_2 fun u_1 h_3 =>
  rop P (Instr.loadAt 3 n3_1) h_3 fun t9_1 =>
  callM P 47 #[t9_1, (Value.int IntKind.i64 1), (Value.int IntKind.i64 8)] h_3 fun t10_1 h_4 =>
  pop P (Op.unary .not t10_1) fun t11_1 =>
  condM t11_1
  (K (Value.bool false) h_4)
  (pop P (Instr.fieldAt 26 g1_1 0) fun t12_1 =>
  rop P (Instr.loadAt 24 t12_1) h_4 fun t13_1 =>
  pop P (lenS 24 3 t13_1) fun t14_1 =>
  ∃ (I_1 : List Value → Heap → Prop) (μ_1 : List Value → Heap → Nat), I_1 [(Value.int IntKind.i64 0)] h_4 ∧
  ∀ (junk_1 : Nat → Value) (t15_1 : Value) (h_5 : Heap), I_1 [t15_1] h_5 →
  pop P (binA .lss 3 t15_1 t14_1) fun t16_1 =>
  condM t16_1
  (pop P (Instr.indexAt 24 t13_1 t15_1) fun t17_1 =>
  rop P (Instr.loadAt 36 t17_1) h_5 fun t18_1 =>
  pop P (lenS 36 3 t18_1) fun t20_1 =>
  pop P (binA .gtr 3 t20_1 (Value.int IntKind.i64 5)) fun t21_1 =>
  guardM (asG t21_1 false) false (fun k_1 => k_1 t18_1 h_5) h_5 fun t23_1 h_6 =>
  guardM (asG t21_1 false) false (fun k_2 => pop P (Instr.makeFunc (Fn.func 49) #[] #[n3_1]) fun t24_1 =>
  k_2 t24_1 h_6) h_6 fun t24_2 h_7 =>
  guardM (asG t21_1 false) false (fun k_3 => callM P 48 #[t23_1, t24_2] h_7 fun t25_1 h_8 =>
  k_3 t25_1 h_8) h_7 fun t25_2 h_9 =>
  pop P (pickS t21_1 (Value.bool true) t25_2) fun t26_1 =>
  condM t26_1
  (K (Value.bool false) h_9)
  (pop P (binA .add 3 t15_1 (Value.int IntKind.i64 1)) fun t27_1 =>
  I_1 [t27_1] h_9 ∧ μ_1 [t27_1] h_9 < μ_1 [t15_1] h_5))
  (K (Value.bool true) h_5))
theorem e26 (g0_1 : Value) (h : Heap) (K : Value → Heap → Prop) : wpA Tryz.prog 28 (anOf [(122, [15])]) (bodyOf Tryz.f26) 1 (fun A h => resA Tryz.prog A h K [.tmp 2]) (fun _ _ _ => False) (fun A h => resA Tryz.prog A h K [.tmp 2]) (aargs [g0_1] 0) h = t26 Tryz.prog g0_1 h K := by kernel_rfl
theorem c26 (g0_1 : Value) (h : Heap) (K : Value → Heap → Prop) (H : t26 Tryz.prog g0_1 h K) : callM Tryz.prog 26 #[g0_1] h K :=
  callM_of_wpA mixed (fn := Tryz.f26) Tryz.func26 (c := bodyOf Tryz.f26) rfl (of_decide_eq_true (by kernel_rfl)) (anOf [(122, [15])]) 27 28 (by kernel_rfl) rfl [.tmp 2] (by kernel_rfl) (args := [g0_1]) (by rw [e26]; exact H)

/-! impl.graphText -/
def t27 (P : Program) (g0_1 : Value) (h : Heap) (K : Value → Heap → Prop) : Prop :=
  eop P (Instr.box 26 g0_1) h fun g1_1 h_1 =>
  eop P (Instr.buildSlice 48 0 #[]) h_1 fun t6_1 h_2 =>
  pop P (Instr.fieldAt 26 g1_1 0) fun t7_1 =>
  rop P (Instr.loadAt 24 t7_1) h_2 fun t8_1 =>
  pop P (lenS 24 3 t8_1) fun t9_1 =>
  ∃ (I_1 : List Value → Heap → Prop) (μ_1 : List Value → Heap → Nat), I_1 [t6_1, (Value.int IntKind.i64 0)] h_2 ∧
  ∀ (junk_1 : Nat → Value) (lists3_1 : Value) (t10_1 : Value) (h_3 : Heap), I_1 [lists3_1, t10_1] h_3 →
  pop P (binA .lss 3 t10_1 t9_1) fun t11_1 =>
  condM t11_1
  (pop P (Instr.indexAt 24 t8_1 t10_1) fun t12_1 =>
  rop P (Instr.loadAt 36 t12_1) h_3 fun t13_1 =>
  callM P 50 #[t13_1] h_3 fun t16_1 h_4 =>
  eop P (Instr.buildSlice 48 1 #[(0, t16_1)]) h_4 fun t17_1 h_5 =>
  eop P (appS 48 48 48 lists3_1 t17_1) h_5 fun t18_1 h_6 =>
  pop P (binA .add 3 t10_1 (Value.int IntKind.i64 1)) fun t19_1 =>
  I_1 [t18_1, t19_1] h_6 ∧ μ_1 [t18_1, t19_1] h_6 < μ_1 [lists3_1, t10_1] h_3)
  (callM P 51 #[lists3_1, (Value.string { data := #[59] })] h_3 fun t21_1 h_7 =>
  K t21_1 h_7)
theorem e27 (g0_1 : Value) (h : Heap) (K : Value → Heap → Prop) : wpA Tryz.prog 22 (anOf [(58, [3, 10])]) (bodyOf Tryz.f27) 1 (fun A h => resA Tryz.prog A h K [.tmp 2]) (fun _ _ _ => False) (fun A h => resA Tryz.prog A h K [.tmp 2]) (aargs [g0_1] 0) h = t27 Tryz.prog g0_1 h K := by kernel_rfl
theorem c27 (g0_1 : Value) (h : Heap) (K : Value → Heap → Prop) (H : t27 Tryz.prog g0_1 h K) : callM Tryz.prog 27 #[g0_1] h K :=
  callM_of_wpA mixed (fn := Tryz.f27) Tryz.func27 (c := bodyOf Tryz.f27) rfl (of_decide_eq_true (by kernel_rfl)) (anOf [(58, [3, 10])]) 21 22 (by kernel_rfl) rfl [.tmp 2] (by kernel_rfl) (args := [g0_1]) (by rw [e27]; exact H)

/-! spec.grGood -/
def t28 (P : Program) (g0_1 : Value) (h : Heap) (K : Value → Heap → Prop) : Prop :=
  eop P (Instr.box 26 g0_1) h fun g1_1 h_1 =>
  pop P (Instr.fieldAt 26 g1_1 0) fun t6_1 =>
  rop P (Instr.loadAt 24 t6_1) h_1 fun t7_1 =>
  pop P (lenS 24 3 t7_1) fun t8_1 =>
  callM P 52 #[t8_1, (Value.int IntKind.i64 1), (Value.int IntKind.i64 8)] h_1 fun t10_1 h_2 =>
  pop P (Op.unary .not t10_1) fun t11_1 =>
  condM t11_1
  (K (Value.bool false) h_2)
  (pop P (Instr.fieldAt 26 g1_1 0) fun t12_1 =>
  rop P (Instr.loadAt 24 t12_1) h_2 fun t13_1 =>
  pop P (lenS 24 3 t13_1) fun t14_1 =>
  ∃ (I_1 : List Value → Heap → Prop) (μ_1 : List Value → Heap → Nat), I_1 [(Value.int IntKind.i64 0)] h_2 ∧
  ∀ (junk_1 : Nat → Value) (t15_1 : Value) (h_3 : Heap), I_1 [t15_1] h_3 →
  pop P (binA .lss 3 t15_1 t14_1) fun t16_1 =>
  condM t16_1
  (pop P (Instr.indexAt 24 t13_1 t15_1) fun t17_1 =>
  rop P (Instr.loadAt 36 t17_1) h_3 fun t18_1 =>
  pop P (lenS 36 3 t18_1) fun t20_1 =>
  pop P (binA .gtr 3 t20_1 (Value.int IntKind.i64 5)) fun t21_1 =>
  guardM (asG t21_1 false) false (fun k_1 => k_1 t18_1 h_3) h_3 fun t23_1 h_4 =>
  guardM (asG t21_1 false) false (fun k_2 => k_2 t8_1 h_4) h_4 fun t24_1 h_5 =>
  guardM (asG t21_1 false) false (fun k_3 => pop P (binA .sub 3 t24_1 (Value.int IntKind.i64 1)) fun t25_1 =>
  k_3 t25_1 h_5) h_5 fun t25_2 h_6 =>
  guardM (asG t21_1 false) false (fun k_4 => callM P 53 #[t23_1, (Value.int IntKind.i64 0), t25_2] h_6 fun t26_1 h_7 =>
  k_4 t26_1 h_7) h_6 fun t26_2 h_8 =>
  guardM (asG t21_1 false) false (fun k_5 => pop P (Op.unary .not t26_2) fun t27_1 =>
  k_5 t27_1 h_8) h_8 fun t27_2 h_9 =>
  pop P (pickS t21_1 (Value.bool true) t27_2) fun t28_1 =>
  condM t28_1
  (K (Value.bool false) h_9)
  (pop P (binA .add 3 t15_1 (Value.int IntKind.i64 1)) fun t29_1 =>
  I_1 [t29_1] h_9 ∧ μ_1 [t29_1] h_9 < μ_1 [t15_1] h_3))
  (K (Value.bool true) h_3))
theorem e28 (g0_1 : Value) (h : Heap) (K : Value → Heap → Prop) : wpA Tryz.prog 30 (anOf [(122, [15])]) (bodyOf Tryz.f28) 1 (fun A h => resA Tryz.prog A h K [.tmp 2]) (fun _ _ _ => False) (fun A h => resA Tryz.prog A h K [.tmp 2]) (aargs [g0_1] 0) h = t28 Tryz.prog g0_1 h K := by kernel_rfl
theorem c28 (g0_1 : Value) (h : Heap) (K : Value → Heap → Prop) (H : t28 Tryz.prog g0_1 h K) : callM Tryz.prog 28 #[g0_1] h K :=
  callM_of_wpA mixed (fn := Tryz.f28) Tryz.func28 (c := bodyOf Tryz.f28) rfl (of_decide_eq_true (by kernel_rfl)) (anOf [(122, [15])]) 29 30 (by kernel_rfl) rfl [.tmp 2] (by kernel_rfl) (args := [g0_1]) (by rw [e28]; exact H)

/-! spec.grText -/
def t29 (P : Program) (g0_1 : Value) (h : Heap) (K : Value → Heap → Prop) : Prop :=
  eop P (Instr.box 26 g0_1) h fun g1_1 h_1 =>
  pop P (Instr.fieldAt 26 g1_1 0) fun t8_1 =>
  rop P (Instr.loadAt 24 t8_1) h_1 fun t9_1 =>
  pop P (lenS 24 3 t9_1) fun t10_1 =>
  ∃ (I_1 : List Value → Heap → Prop) (μ_1 : List Value → Heap → Nat), I_1 [(Value.string { data := #[] }), (Value.int IntKind.i64 0)] h_1 ∧
  ∀ (junk_1 : Nat → Value) (out3_1 : Value) (t11_1 : Value) (h_2 : Heap), I_1 [out3_1, t11_1] h_2 →
  pop P (binA .lss 3 t11_1 t10_1) fun t12_1 =>
  condM t12_1
  (pop P (Instr.indexAt 24 t9_1 t11_1) fun t14_1 =>
  rop P (Instr.loadAt 36 t14_1) h_2 fun t15_1 =>
  ∃ J_1 : List Value → Heap → Prop, (pop P (binA .gtr 3 t11_1 (Value.int IntKind.i64 0)) fun t17_1 =>
  condM t17_1
  (pop P (binA .add 9 out3_1 (Value.string { data := #[59] })) fun t19_1 =>
  J_1 [t19_1] h_2)
  (J_1 [out3_1] h_2)) ∧
  ∀ (junk_2 : Nat → Value) (out3_2 : Value) (h_3 : Heap), J_1 [out3_2] h_3 →
  ∃ J_2 : List Value → Heap → Prop, (pop P (lenS 36 3 t15_1) fun t21_1 =>
  pop P (binE .eql 3 (.tmp 21) (.const (Value.int IntKind.i64 0)) t21_1 (Value.int IntKind.i64 0)) fun t22_1 =>
  condM t22_1
  (pop P (binA .add 9 out3_2 (Value.string { data := #[45] })) fun t24_1 =>
  J_2 [t24_1] h_3)
  (J_2 [out3_2] h_3)) ∧
  ∀ (junk_3 : Nat → Value) (out3_3 : Value) (h_4 : Heap), J_2 [out3_3] h_4 →
  pop P (lenS 36 3 t15_1) fun t26_1 =>
  ∃ (I_2 : List Value → Heap → Prop) (μ_2 : List Value → Heap → Nat), I_2 [out3_3, (Value.int IntKind.i64 0)] h_4 ∧
  ∀ (junk_4 : Nat → Value) (out3_4 : Value) (t27_1 : Value) (h_5 : Heap), I_2 [out3_4, t27_1] h_5 →
  pop P (binA .lss 3 t27_1 t26_1) fun t28_1 =>
  condM t28_1
  (pop P (Instr.indexAt 36 t15_1 t27_1) fun t30_1 =>
  rop P (Instr.loadAt 3 t30_1) h_5 fun t31_1 =>
  ∃ J_3 : List Value → Heap → Prop, (pop P (binA .gtr 3 t27_1 (Value.int IntKind.i64 0)) fun t33_1 =>
  condM t33_1
  (pop P (binA .add 9 out3_4 (Value.string { data := #[44] })) fun t35_1 =>
  J_3 [t35_1] h_5)
  (J_3 [out3_4] h_5)) ∧
  ∀ (junk_5 : Nat → Value) (out3_5 : Value) (h_6 : Heap), J_3 [out3_5] h_6 →
  callM P 54 #[t31_1] h_6 fun t38_1 h_7 =>
  pop P (binA .add 9 out3_5 t38_1) fun t39_1 =>
  pop P (binA .add 3 t27_1 (Value.int IntKind.i64 1)) fun t40_1 =>
  I_2 [t39_1, t40_1] h_7 ∧ μ_2 [t39_1, t40_1] h_7 < μ_2 [out3_4, t27_1] h_5)
  (pop P (binA .add 3 t11_1 (Value.int IntKind.i64 1)) fun t41_1 =>
  I_1 [out3_4, t41_1] h_5 ∧ μ_1 [out3_4, t41_1] h_5 < μ_1 [out3_1, t11_1] h_2))
  (K out3_1 h_2)
theorem e29 (g0_1 : Value) (h : Heap) (K : Value → Heap → Prop) : wpA Tryz.prog 43 (anOf [(58, [3, 11]), (3737, [3]), (7475, [3]), (59806, [3, 27]), (3827609, [3])]) (bodyOf Tryz.f29) 1 (fun A h => resA Tryz.prog A h K [.tmp 2]) (fun _ _ _ => False) (fun A h => resA Tryz.prog A h K [.tmp 2]) (aargs [g0_1] 0) h = t29 Tryz.prog g0_1 h K := by kernel_rfl
theorem c29 (g0_1 : Value) (h : Heap) (K : Value → Heap → Prop) (H : t29 Tryz.prog g0_1 h K) : callM Tryz.prog 29 #[g0_1] h K :=
  callM_of_wpA mixed (fn := Tryz.f29) Tryz.func29 (c := bodyOf Tryz.f29) rfl (of_decide_eq_true (by kernel_rfl)) (anOf [(58, [3, 11]), (3737, [3]), (7475, [3]), (59806, [3, 27]), (3827609, [3])]) 42 43 (by kernel_rfl) rfl [.tmp 2] (by kernel_rfl) (args := [g0_1]) (by rw [e29]; exact H)

/-! slices.Concat[[]int,int] -/
def t30 (P : Program) (slices0_1 : Value) (h : Heap) (K : Value → Heap → Prop) : Prop :=
  pop P (lenS 24 3 slices0_1) fun t10_1 =>
  ∃ (I_1 : List Value → Heap → Prop) (μ_1 : List Value → Heap → Nat), I_1 [(Value.int IntKind.i64 0), (Value.int IntKind.i64 0)] h ∧
  ∀ (junk_1 : Nat → Value) (size3_1 : Value) (t11_1 : Value) (h_1 : Heap), I_1 [size3_1, t11_1] h_1 →
  pop P (binA .lss 3 t11_1 t10_1) fun t12_1 =>
  condM t12_1
  (pop P (Instr.indexAt 24 slices0_1 t11_1) fun t13_1 =>
  rop P (Instr.loadAt 36 t13_1) h_1 fun t14_1 =>
  pop P (lenS 36 3 t14_1) fun t17_1 =>
  pop P (binA .add 3 size3_1 t17_1) fun t18_1 =>
  pop P (binA .lss 3 t18_1 (Value.int IntKind.i64 0)) fun t20_1 =>
  condM t20_1
  (pop P (Instr.makeInterface 9 (Value.string { data := #[108, 101, 110, 32, 111, 117, 116, 32, 111, 102, 32, 114, 97, 110, 103, 101] })) fun t21_1 =>
  False)
  (pop P (binA .add 3 t11_1 (Value.int IntKind.i64 1)) fun t22_1 =>
  I_1 [t18_1, t22_1] h_1 ∧ μ_1 [t18_1, t22_1] h_1 < μ_1 [size3_1, t11_1] h_1))
  (callM P 55 #[(Value.slice none 0 0), size3_1] h_1 fun t24_1 h_2 =>
  pop P (lenS 24 3 slices0_1) fun t26_1 =>
  ∃ (I_2 : List Value → Heap → Prop) (μ_2 : List Value → Heap → Nat), I_2 [t24_1, (Value.int IntKind.i64 0)] h_2 ∧
  ∀ (junk_2 : Nat → Value) (newslice6_1 : Value) (t27_1 : Value) (h_3 : Heap), I_2 [newslice6_1, t27_1] h_3 →
  pop P (binA .lss 3 t27_1 t26_1) fun t28_1 =>
  condM t28_1
  (pop P (Instr.indexAt 24 slices0_1 t27_1) fun t29_1 =>
  rop P (Instr.loadAt 36 t29_1) h_3 fun t30_1 =>
  eop P (appS 36 36 36 newslice6_1 t30_1) h_3 fun t33_1 h_4 =>
  pop P (binA .add 3 t27_1 (Value.int IntKind.i64 1)) fun t34_1 =>
  I_2 [t33_1, t34_1] h_4 ∧ μ_2 [t33_1, t34_1] h_4 < μ_2 [newslice6_1, t27_1] h_3)
  (K newslice6_1 h_3))
theorem e30 (slices0_1 : Value) (h : Heap) (K : Value → Heap → Prop) : wpA Tryz.prog 36 (anOf [(58, [3, 11]), (250, [6, 27])]) (bodyOf Tryz.f30) 1 (fun A h => resA Tryz.prog A h K [.tmp 2]) (fun _ _ _ => False) (fun A h => resA Tryz.prog A h K [.tmp 2]) (aargs [slices0_1] 0) h = t30 Tryz.prog slices0_1 h K := by kernel_rfl
theorem c30 (slices0_1 : Value) (h : Heap) (K : Value → Heap → Prop) (H : t30 Tryz.prog slices0_1 h K) : callM Tryz.prog 30 #[slices0_1] h K :=
  callM_of_wpA mixed (fn := Tryz.f30) Tryz.func30 (c := bodyOf Tryz.f30) rfl (of_decide_eq_true (by kernel_rfl)) (anOf [(58, [3, 11]), (250, [6, 27])]) 35 36 (by kernel_rfl) rfl [.tmp 2] (by kernel_rfl) (args := [slices0_1]) (by rw [e30]; exact H)

/-! spec.grCount -/
def t31 (P : Program) (g0_1 : Value) (h : Heap) (K : Value → Heap → Prop) : Prop :=
  eop P (Instr.box 26 g0_1) h fun g1_1 h_1 =>
  pop P (Instr.fieldAt 26 g1_1 0) fun t6_1 =>
  rop P (Instr.loadAt 24 t6_1) h_1 fun t7_1 =>
  pop P (lenS 24 3 t7_1) fun t8_1 =>
  ∃ (I_1 : List Value → Heap → Prop) (μ_1 : List Value → Heap → Nat), I_1 [(Value.int IntKind.i64 0), (Value.int IntKind.i64 0)] h_1 ∧
  ∀ (junk_1 : Nat → Value) (n3_1 : Value) (t9_1 : Value) (h_2 : Heap), I_1 [n3_1, t9_1] h_2 →
  pop P (binA .lss 3 t9_1 t8_1) fun t10_1 =>
  condM t10_1
  (pop P (Instr.indexAt 24 t7_1 t9_1) fun t11_1 =>
  rop P (Instr.loadAt 36 t11_1) h_2 fun t12_1 =>
  pop P (lenS 36 3 t12_1) fun t15_1 =>
  pop P (binA .add 3 n3_1 t15_1) fun t16_1 =>
  pop P (binA .add 3 t9_1 (Value.int IntKind.i64 1)) fun t17_1 =>
  I_1 [t16_1, t17_1] h_2 ∧ μ_1 [t16_1, t17_1] h_2 < μ_1 [n3_1, t9_1] h_2)
  (K n3_1 h_2)
theorem e31 (g0_1 : Value) (h : Heap) (K : Value → Heap → Prop) : wpA Tryz.prog 19 (anOf [(58, [3, 9])]) (bodyOf Tryz.f31) 1 (fun A h => resA Tryz.prog A h K [.tmp 2]) (fun _ _ _ => False) (fun A h => resA Tryz.prog A h K [.tmp 2]) (aargs [g0_1] 0) h = t31 Tryz.prog g0_1 h K := by kernel_rfl
theorem c31 (g0_1 : Value) (h : Heap) (K : Value → Heap → Prop) (H : t31 Tryz.prog g0_1 h K) : callM Tryz.prog 31 #[g0_1] h K :=
  callM_of_wpA mixed (fn := Tryz.f31) Tryz.func31 (c := bodyOf Tryz.f31) rfl (of_decide_eq_true (by kernel_rfl)) (anOf [(58, [3, 9])]) 18 19 (by kernel_rfl) rfl [.tmp 2] (by kernel_rfl) (args := [g0_1]) (by rw [e31]; exact H)

/-! impl.readList -/
def t33 (P : Program) (s0_1 : Value) (h : Heap) (K : Value → Heap → Prop) : Prop :=
  eop P (Instr.buildSlice 36 0 #[]) h fun t9_1 h_1 =>
  pop P (binE .eql 9 (.tmp 10) (.const (Value.string { data := #[45] })) s0_1 (Value.string { data := #[45] })) fun t11_1 =>
  condM t11_1
  (K (.tuple #[t9_1, (Value.bool true)]) h_1)
  (callM P 32 #[s0_1, (Value.string { data := #[44] })] h_1 fun t14_1 h_2 =>
  pop P (lenS 48 3 t14_1) fun t15_1 =>
  ∃ (I_1 : List Value → Heap → Prop) (μ_1 : List Value → Heap → Nat), I_1 [t9_1, (Value.int IntKind.i64 0)] h_2 ∧
  ∀ (junk_1 : Nat → Value) (out4_1 : Value) (t16_1 : Value) (h_3 : Heap), I_1 [out4_1, t16_1] h_3 →
  pop P (binA .lss 3 t16_1 t15_1) fun t17_1 =>
  condM t17_1
  (pop P (Instr.indexAt 48 t14_1 t16_1) fun t18_1 =>
  rop P (Instr.loadAt 9 t18_1) h_3 fun t19_1 =>
  callM P 57 #[t19_1] h_3 fun t22_1 h_4 =>
  pop P (Instr.extract t22_1 0) fun t23_1 =>
  pop P (Instr.extract t22_1 1) fun t24_1 =>
  pop P (binE .neq 73 (.tmp 25) (.const Value.nilIface) t24_1 Value.nilIface) fun t26_1 =>
  guardM (asG t26_1 false) false (fun k_1 => k_1 t23_1 h_4) h_4 fun t28_1 h_5 =>
  guardM (asG t26_1 false) false (fun k_2 => callM P 58 #[t28_1] h_5 fun t29_1 h_6 =>
  k_2 t29_1 h_6) h_5 fun t29_2 h_7 =>
  guardM (asG t26_1 false) false (fun k_3 => k_3 t19_1 h_7) h_7 fun t30_1 h_8 =>
  guardM (asG t26_1 false) false (fun k_4 => pop P (binE .neq 9 (.tmp 29) (.tmp 30) t29_2 t30_1) fun t31_1 =>
  k_4 t31_1 h_8) h_8 fun t31_2 h_9 =>
  pop P (pickS t26_1 (Value.bool true) t31_2) fun t32_1 =>
  condM t32_1
  (K (.tuple #[(Value.slice none 0 0), (Value.bool false)]) h_9)
  (eop P (Instr.buildSlice 36 1 #[(0, t23_1)]) h_9 fun t35_1 h_10 =>
  eop P (appS 36 36 36 out4_1 t35_1) h_10 fun t36_1 h_11 =>
  pop P (binA .add 3 t16_1 (Value.int IntKind.i64 1)) fun t37_1 =>
  I_1 [t36_1, t37_1] h_11 ∧ μ_1 [t36_1, t37_1] h_11 < μ_1 [out4_1, t16_1] h_3))
  (K (.tuple #[out4_1, (Value.bool true)]) h_3))
theorem e33 (s0_1 : Value) (h : Heap) (K : Value → Heap → Prop) : wpA Tryz.prog 39 (anOf [(122, [4, 16])]) (bodyOf Tryz.f33) 1 (fun A h => resA Tryz.prog A h K [.tmp 2, .tmp 3]) (fun _ _ _ => False) (fun A h => resA Tryz.prog A h K [.tmp 2, .tmp 3]) (aargs [s0_1] 0) h = t33 Tryz.prog s0_1 h K := by kernel_rfl
theorem c33 (s0_1 : Value) (h : Heap) (K : Value → Heap → Prop) (H : t33 Tryz.prog s0_1 h K) : callM Tryz.prog 33 #[s0_1] h K :=
  callM_of_wpA mixed (fn := Tryz.f33) Tryz.func33 (c := bodyOf Tryz.f33) rfl (of_decide_eq_true (by kernel_rfl)) (anOf [(122, [4, 16])]) 38 39 (by kernel_rfl) rfl [.tmp 2, .tmp 3] (by kernel_rfl) (args := [s0_1]) (by rw [e33]; exact H)

/-! impl.told -/
def t34 (P : Program) (g0_1 : Value) (h : Heap) (K : Value → Heap → Prop) : Prop :=
  eop P (Instr.box 26 g0_1) h fun g1_1 h_1 =>
  eop P (Instr.alloc 26 true (.tuple #[])) h_1 fun t2_1 h_2 =>
  rop P (Instr.loadAt 26 g1_1) h_2 fun t4_1 =>
  callM P 26 #[t4_1] h_2 fun t5_1 h_3 =>
  pop P (Op.unary .not t5_1) fun t6_1 =>
  condM t6_1
  (pop P (Instr.build 26 #[]) fun t7_1 =>
  uop P (Instr.storeAt 26 t2_1 t7_1) h_3 fun u_1 h_4 =>
  rop P (Instr.loadAt 26 t2_1) h_4 fun r_1 =>
  K (.tuple #[r_1, (Value.bool false)]) h_4)
  (rop P (Instr.loadAt 26 g1_1) h_3 fun t8_1 =>
  uop P (Instr.storeAt 26 t2_1 t8_1) h_3 fun u_2 h_5 =>
  rop P (Instr.loadAt 26 t2_1) h_5 fun r_2 =>
  K (.tuple #[r_2, (Value.bool true)]) h_5)
theorem e34 (g0_1 : Value) (h : Heap) (K : Value → Heap → Prop) : wpA Tryz.prog 9 (anOf []) (bodyOf Tryz.f34) 1 (fun A h => resA Tryz.prog A h K [.cell 2 26, .tmp 3]) (fun _ _ _ => False) (fun A h => resA Tryz.prog A h K [.cell 2 26, .tmp 3]) (aargs [g0_1] 0) h = t34 Tryz.prog g0_1 h K := by kernel_rfl
theorem c34 (g0_1 : Value) (h : Heap) (K : Value → Heap → Prop) (H : t34 Tryz.prog g0_1 h K) : callM Tryz.prog 34 #[g0_1] h K :=
  callM_of_wpA mixed (fn := Tryz.f34) Tryz.func34 (c := bodyOf Tryz.f34) rfl (of_decide_eq_true (by kernel_rfl)) (anOf []) 8 9 (by kernel_rfl) rfl [.cell 2 26, .tmp 3] (by kernel_rfl) (args := [g0_1]) (by rw [e34]; exact H)

/-! laws.wRows -/
def t35 (P : Program) (a0_1 : Value) (b1_1 : Value) (h : Heap) (K : Value → Heap → Prop) : Prop :=
  pop P (lenS 24 3 a0_1) fun t7_1 =>
  pop P (lenS 24 3 b1_1) fun t9_1 =>
  pop P (binE .neq 3 (.tmp 7) (.tmp 9) t7_1 t9_1) fun t10_1 =>
  condM t10_1
  (K (Value.bool false) h)
  (pop P (lenS 24 3 a0_1) fun t12_1 =>
  ∃ (I_1 : List Value → Heap → Prop) (μ_1 : List Value → Heap → Nat), I_1 [(Value.int IntKind.i64 0)] h ∧
  ∀ (junk_1 : Nat → Value) (t13_1 : Value) (h_1 : Heap), I_1 [t13_1] h_1 →
  pop P (binA .lss 3 t13_1 t12_1) fun t14_1 =>
  condM t14_1
  (pop P (Instr.indexAt 24 a0_1 t13_1) fun t18_1 =>
  rop P (Instr.loadAt 36 t18_1) h_1 fun t19_1 =>
  pop P (Instr.indexAt 24 b1_1 t13_1) fun t22_1 =>
  rop P (Instr.loadAt 36 t22_1) h_1 fun t23_1 =>
  callM P 18 #[t19_1, t23_1] h_1 fun t24_1 h_2 =>
  pop P (Op.unary .not t24_1) fun t25_1 =>
  condM t25_1
  (K (Value.bool false) h_2)
  (pop P (binA .add 3 t13_1 (Value.int IntKind.i64 1)) fun t26_1 =>
  I_1 [t26_1] h_2 ∧ μ_1 [t26_1] h_2 < μ_1 [t13_1] h_1))
  (K (Value.bool true) h_1))
theorem e35 (a0_1 : Value) (b1_1 : Value) (h : Heap) (K : Value → Heap → Prop) : wpA Tryz.prog 27 (anOf [(58, [13])]) (bodyOf Tryz.f35) 1 (fun A h => resA Tryz.prog A h K [.tmp 4]) (fun _ _ _ => False) (fun A h => resA Tryz.prog A h K [.tmp 4]) (aargs [a0_1, b1_1] 0) h = t35 Tryz.prog a0_1 b1_1 h K := by kernel_rfl
theorem c35 (a0_1 : Value) (b1_1 : Value) (h : Heap) (K : Value → Heap → Prop) (H : t35 Tryz.prog a0_1 b1_1 h K) : callM Tryz.prog 35 #[a0_1, b1_1] h K :=
  callM_of_wpA mixed (fn := Tryz.f35) Tryz.func35 (c := bodyOf Tryz.f35) rfl (of_decide_eq_true (by kernel_rfl)) (anOf [(58, [13])]) 25 27 (by kernel_rfl) rfl [.tmp 4] (by kernel_rfl) (args := [a0_1, b1_1]) (by rw [e35]; exact H)

/-! impl.has -/
def t36 (P : Program) (g0_1 : Value) (places1_1 : Value) (h : Heap) (K : Value → Heap → Prop) : Prop :=
  eop P (Instr.box 26 g0_1) h fun g2_1 h_1 =>
  rop P (Instr.loadAt 26 g2_1) h_1 fun t5_1 =>
  callM P 26 #[t5_1] h_1 fun t6_1 h_2 =>
  guardM (asG t6_1 true) true (fun k_1 => k_1 places1_1 h_2) h_2 fun t8_1 h_3 =>
  guardM (asG t6_1 true) true (fun k_2 => pop P (Instr.makeFunc (Fn.func 59) #[] #[g2_1]) fun t9_1 =>
  k_2 t9_1 h_3) h_3 fun t9_2 h_4 =>
  guardM (asG t6_1 true) true (fun k_3 => callM P 48 #[t8_1, t9_2] h_4 fun t10_1 h_5 =>
  k_3 t10_1 h_5) h_4 fun t10_2 h_6 =>
  guardM (asG t6_1 true) true (fun k_4 => pop P (Op.unary .not t10_2) fun t11_1 =>
  k_4 t11_1 h_6) h_6 fun t11_2 h_7 =>
  pop P (pickS t6_1 t11_2 (Value.bool false)) fun t12_1 =>
  K t12_1 h_7
theorem e36 (g0_1 : Value) (places1_1 : Value) (h : Heap) (K : Value → Heap → Prop) : wpA Tryz.prog 13 (anOf []) (bodyOf Tryz.f36) 1 (fun A h => resA Tryz.prog A h K [.tmp 4]) (fun _ _ _ => False) (fun A h => resA Tryz.prog A h K [.tmp 4]) (aargs [g0_1, places1_1] 0) h = t36 Tryz.prog g0_1 places1_1 h K := by kernel_rfl
theorem c36 (g0_1 : Value) (places1_1 : Value) (h : Heap) (K : Value → Heap → Prop) (H : t36 Tryz.prog g0_1 places1_1 h K) : callM Tryz.prog 36 #[g0_1, places1_1] h K :=
  callM_of_wpA mixed (fn := Tryz.f36) Tryz.func36 (c := bodyOf Tryz.f36) rfl (of_decide_eq_true (by kernel_rfl)) (anOf []) 11 13 (by kernel_rfl) rfl [.tmp 4] (by kernel_rfl) (args := [g0_1, places1_1]) (by rw [e36]; exact H)

/-! slices.Clone[[]int,int] -/
def t37 (P : Program) (s0_1 : Value) (h : Heap) (K : Value → Heap → Prop) : Prop :=
  pop P (binE .eql 36 (.tmp 3) (.const (Value.slice none 0 0)) s0_1 (Value.slice none 0 0)) fun t4_1 =>
  condM t4_1
  (K (Value.slice none 0 0) h)
  (eop P (Instr.buildSlice 36 0 #[]) h fun t5_1 h_1 =>
  eop P (appS 36 36 36 t5_1 s0_1) h_1 fun t7_1 h_2 =>
  K t7_1 h_2)
theorem e37 (s0_1 : Value) (h : Heap) (K : Value → Heap → Prop) : wpA Tryz.prog 8 (anOf []) (bodyOf Tryz.f37) 1 (fun A h => resA Tryz.prog A h K [.tmp 2]) (fun _ _ _ => False) (fun A h => resA Tryz.prog A h K [.tmp 2]) (aargs [s0_1] 0) h = t37 Tryz.prog s0_1 h K := by kernel_rfl
theorem c37 (s0_1 : Value) (h : Heap) (K : Value → Heap → Prop) (H : t37 Tryz.prog s0_1 h K) : callM Tryz.prog 37 #[s0_1] h K :=
  callM_of_wpA mixed (fn := Tryz.f37) Tryz.func37 (c := bodyOf Tryz.f37) rfl (of_decide_eq_true (by kernel_rfl)) (anOf []) 7 8 (by kernel_rfl) rfl [.tmp 2] (by kernel_rfl) (args := [s0_1]) (by rw [e37]; exact H)

/-! (impl.Graph).entries -/
def t38 (P : Program) (g0_1 : Value) (p1_1 : Value) (h : Heap) (K : Value → Heap → Prop) : Prop :=
  eop P (Instr.box 26 g0_1) h fun g2_1 h_1 =>
  pop P (Instr.fieldAt 26 g2_1 0) fun t8_1 =>
  rop P (Instr.loadAt 24 t8_1) h_1 fun t9_1 =>
  callM P 30 #[t9_1] h_1 fun t10_1 h_2 =>
  pop P (lenS 36 3 t10_1) fun t11_1 =>
  ∃ (I_1 : List Value → Heap → Prop) (μ_1 : List Value → Heap → Nat), I_1 [(Value.int IntKind.i64 0), (Value.int IntKind.i64 0)] h_2 ∧
  ∀ (junk_1 : Nat → Value) (many5_1 : Value) (t12_1 : Value) (h_3 : Heap), I_1 [many5_1, t12_1] h_3 →
  pop P (binA .lss 3 t12_1 t11_1) fun t13_1 =>
  condM t13_1
  (pop P (Instr.indexAt 36 t10_1 t12_1) fun t14_1 =>
  rop P (Instr.loadAt 3 t14_1) h_3 fun t15_1 =>
  pop P (binE .eql 3 (.tmp 16) (.tmp 17) t15_1 p1_1) fun t18_1 =>
  condM t18_1
  (pop P (binA .add 3 many5_1 (Value.int IntKind.i64 1)) fun t20_1 =>
  pop P (binA .add 3 t12_1 (Value.int IntKind.i64 1)) fun t21_1 =>
  I_1 [t20_1, t21_1] h_3 ∧ μ_1 [t20_1, t21_1] h_3 < μ_1 [many5_1, t12_1] h_3)
  (pop P (binA .add 3 t12_1 (Value.int IntKind.i64 1)) fun t21_2 =>
  I_1 [many5_1, t21_2] h_3 ∧ μ_1 [many5_1, t21_2] h_3 < μ_1 [many5_1, t12_1] h_3))
  (K many5_1 h_3)
theorem e38 (g0_1 : Value) (p1_1 : Value) (h : Heap) (K : Value → Heap → Prop) : wpA Tryz.prog 23 (anOf [(58, [5, 12])]) (bodyOf Tryz.f38) 1 (fun A h => resA Tryz.prog A h K [.tmp 4]) (fun _ _ _ => False) (fun A h => resA Tryz.prog A h K [.tmp 4]) (aargs [g0_1, p1_1] 0) h = t38 Tryz.prog g0_1 p1_1 h K := by kernel_rfl
theorem c38 (g0_1 : Value) (p1_1 : Value) (h : Heap) (K : Value → Heap → Prop) (H : t38 Tryz.prog g0_1 p1_1 h K) : callM Tryz.prog 38 #[g0_1, p1_1] h K :=
  callM_of_wpA mixed (fn := Tryz.f38) Tryz.func38 (c := bodyOf Tryz.f38) rfl (of_decide_eq_true (by kernel_rfl)) (anOf [(58, [5, 12])]) 21 23 (by kernel_rfl) rfl [.tmp 4] (by kernel_rfl) (args := [g0_1, p1_1]) (by rw [e38]; exact H)

/-! (impl.Graph).isBalanced -/
def t39 (P : Program) (g0_1 : Value) (h : Heap) (K : Value → Heap → Prop) : Prop :=
  eop P (Instr.box 26 g0_1) h fun g1_1 h_1 =>
  pop P (Instr.fieldAt 26 g1_1 0) fun t5_1 =>
  rop P (Instr.loadAt 24 t5_1) h_1 fun t6_1 =>
  pop P (lenS 24 3 t6_1) fun t7_1 =>
  ∃ (I_1 : List Value → Heap → Prop) (μ_1 : List Value → Heap → Nat), I_1 [(Value.int IntKind.i64 0)] h_1 ∧
  ∀ (junk_1 : Nat → Value) (t8_1 : Value) (h_2 : Heap), I_1 [t8_1] h_2 →
  pop P (binA .lss 3 t8_1 t7_1) fun t9_1 =>
  condM t9_1
  (pop P (Instr.indexAt 24 t6_1 t8_1) fun t11_1 =>
  rop P (Instr.loadAt 36 t11_1) h_2 fun t12_1 =>
  pop P (lenS 36 3 t12_1) fun t14_1 =>
  rop P (Instr.loadAt 26 g1_1) h_2 fun t15_1 =>
  callM P 38 #[t15_1, t8_1] h_2 fun t17_1 h_3 =>
  pop P (binE .neq 3 (.tmp 14) (.tmp 17) t14_1 t17_1) fun t18_1 =>
  condM t18_1
  (K (Value.bool false) h_3)
  (pop P (binA .add 3 t8_1 (Value.int IntKind.i64 1)) fun t19_1 =>
  I_1 [t19_1] h_3 ∧ μ_1 [t19_1] h_3 < μ_1 [t8_1] h_2))
  (K (Value.bool true) h_2)
theorem e39 (g0_1 : Value) (h : Heap) (K : Value → Heap → Prop) : wpA Tryz.prog 20 (anOf [(26, [8])]) (bodyOf Tryz.f39) 1 (fun A h => resA Tryz.prog A h K [.tmp 2]) (fun _ _ _ => False) (fun A h => resA Tryz.prog A h K [.tmp 2]) (aargs [g0_1] 0) h = t39 Tryz.prog g0_1 h K := by kernel_rfl
theorem c39 (g0_1 : Value) (h : Heap) (K : Value → Heap → Prop) (H : t39 Tryz.prog g0_1 h K) : callM Tryz.prog 39 #[g0_1] h K :=
  callM_of_wpA mixed (fn := Tryz.f39) Tryz.func39 (c := bodyOf Tryz.f39) rfl (of_decide_eq_true (by kernel_rfl)) (anOf [(26, [8])]) 19 20 (by kernel_rfl) rfl [.tmp 2] (by kernel_rfl) (args := [g0_1]) (by rw [e39]; exact H)

/-! spec.grIf -/
def t40 (P : Program) (g0_1 : Value) (h : Heap) (K : Value → Heap → Prop) : Prop :=
  eop P (Instr.box 26 g0_1) h fun g1_1 h_1 =>
  eop P (Instr.alloc 26 true (.tuple #[])) h_1 fun t2_1 h_2 =>
  rop P (Instr.loadAt 26 g1_1) h_2 fun t4_1 =>
  callM P 28 #[t4_1] h_2 fun t5_1 h_3 =>
  pop P (Op.unary .not t5_1) fun t6_1 =>
  condM t6_1
  (pop P (Instr.build 26 #[]) fun t7_1 =>
  uop P (Instr.storeAt 26 t2_1 t7_1) h_3 fun u_1 h_4 =>
  rop P (Instr.loadAt 26 t2_1) h_4 fun r_1 =>
  K (.tuple #[r_1, (Value.bool false)]) h_4)
  (rop P (Instr.loadAt 26 g1_1) h_3 fun t8_1 =>
  uop P (Instr.storeAt 26 t2_1 t8_1) h_3 fun u_2 h_5 =>
  rop P (Instr.loadAt 26 t2_1) h_5 fun r_2 =>
  K (.tuple #[r_2, (Value.bool true)]) h_5)
theorem e40 (g0_1 : Value) (h : Heap) (K : Value → Heap → Prop) : wpA Tryz.prog 9 (anOf []) (bodyOf Tryz.f40) 1 (fun A h => resA Tryz.prog A h K [.cell 2 26, .tmp 3]) (fun _ _ _ => False) (fun A h => resA Tryz.prog A h K [.cell 2 26, .tmp 3]) (aargs [g0_1] 0) h = t40 Tryz.prog g0_1 h K := by kernel_rfl
theorem c40 (g0_1 : Value) (h : Heap) (K : Value → Heap → Prop) (H : t40 Tryz.prog g0_1 h K) : callM Tryz.prog 40 #[g0_1] h K :=
  callM_of_wpA mixed (fn := Tryz.f40) Tryz.func40 (c := bodyOf Tryz.f40) rfl (of_decide_eq_true (by kernel_rfl)) (anOf []) 8 9 (by kernel_rfl) rfl [.cell 2 26, .tmp 3] (by kernel_rfl) (args := [g0_1]) (by rw [e40]; exact H)

/-! (impl.Graph).isStrong -/
def t41 (P : Program) (g0_1 : Value) (h : Heap) (K : Value → Heap → Prop) : Prop :=
  eop P (Instr.box 26 g0_1) h fun g1_1 h_1 =>
  pop P (Instr.fieldAt 26 g1_1 0) fun t4_1 =>
  rop P (Instr.loadAt 24 t4_1) h_1 fun t5_1 =>
  pop P (lenS 24 3 t5_1) fun t6_1 =>
  ∃ (I_1 : List Value → Heap → Prop) (μ_1 : List Value → Heap → Nat), I_1 [(Value.int IntKind.i64 0)] h_1 ∧
  ∀ (junk_1 : Nat → Value) (t7_1 : Value) (h_2 : Heap), I_1 [t7_1] h_2 →
  pop P (binA .lss 3 t7_1 t6_1) fun t8_1 =>
  condM t8_1
  (rop P (Instr.loadAt 26 g1_1) h_2 fun t10_1 =>
  pop P (Instr.fieldAt 26 g1_1 0) fun t14_1 =>
  rop P (Instr.loadAt 24 t14_1) h_2 fun t15_1 =>
  pop P (lenS 24 3 t15_1) fun t16_1 =>
  callM P 60 #[t10_1, t7_1] h_2 fun t12_1 h_3 =>
  (∀ w : World, w.heap = h_3 → (Instr.loadAt 24 t14_1).run P w = .ok t15_1 w) ∧
  pop P (lenS 36 3 t12_1) fun t13_1 =>
  pop P (binE .neq 3 (.tmp 13) (.tmp 16) t13_1 t16_1) fun t17_1 =>
  condM t17_1
  (K (Value.bool false) h_3)
  (pop P (binA .add 3 t7_1 (Value.int IntKind.i64 1)) fun t18_1 =>
  I_1 [t18_1] h_3 ∧ μ_1 [t18_1] h_3 < μ_1 [t7_1] h_2))
  (K (Value.bool true) h_2)
theorem e41 (g0_1 : Value) (h : Heap) (K : Value → Heap → Prop) : wpA Tryz.prog 19 (anOf [(26, [7])]) (bodyOf Tryz.f41) 1 (fun A h => resA Tryz.prog A h K [.tmp 2]) (fun _ _ _ => False) (fun A h => resA Tryz.prog A h K [.tmp 2]) (aargs [g0_1] 0) h = t41 Tryz.prog g0_1 h K := by kernel_rfl
theorem c41 (g0_1 : Value) (h : Heap) (K : Value → Heap → Prop) (H : t41 Tryz.prog g0_1 h K) : callM Tryz.prog 41 #[g0_1] h K :=
  callM_of_wpA mixed (fn := Tryz.f41) Tryz.func41 (c := bodyOf Tryz.f41) rfl (of_decide_eq_true (by kernel_rfl)) (anOf [(26, [7])]) 18 19 (by kernel_rfl) rfl [.tmp 2] (by kernel_rfl) (args := [g0_1]) (by rw [e41]; exact H)

/-! (*spec.l1Cur).sureGraph -/
def t42 (P : Program) (c0_1 : Value) (most1_1 : Value) (h : Heap) (K : Value → Heap → Prop) : Prop :=
  eop P (Instr.alloc 26 true (.tuple #[])) h fun t4_1 h_1 =>
  callM P 61 #[c0_1, most1_1] h_1 fun t13_1 h_2 =>
  pop P (binA .add 3 (Value.int IntKind.i64 1) t13_1) fun t14_1 =>
  callM P 43 #[c0_1, (Value.int IntKind.i64 4)] h_2 fun t16_1 h_3 =>
  condM t16_1
  (callM P 43 #[c0_1, (Value.int IntKind.i64 2)] h_3 fun t19_1 h_4 =>
  callM P 62 #[t14_1, t19_1] h_4 fun t20_1 h_5 =>
  uop P (Instr.storeAt 26 t4_1 t20_1) h_5 fun u_1 h_6 =>
  rop P (Instr.loadAt 26 t4_1) h_6 fun r_1 =>
  K r_1 h_6)
  (pop P (Instr.build 26 #[]) fun t21_1 =>
  eop P (Instr.alloc 26 true (.tuple #[])) h_3 fun g6_1 h_7 =>
  uop P (Instr.storeAt 26 g6_1 t21_1) h_7 fun u_2 h_8 =>
  ∃ (I_1 : List Value → Heap → Prop) (μ_1 : List Value → Heap → Nat), I_1 [(Value.int IntKind.i64 0)] h_8 ∧
  ∀ (junk_1 : Nat → Value) (p7_1 : Value) (h_9 : Heap), I_1 [p7_1] h_9 →
  pop P (binA .lss 3 p7_1 t14_1) fun t24_1 =>
  condM t24_1
  (callM P 61 #[c0_1, (Value.int IntKind.i64 3)] h_9 fun t28_1 h_10 =>
  pop P (binA .add 3 (Value.int IntKind.i64 1) t28_1) fun t29_1 =>
  ∃ (I_2 : List Value → Heap → Prop) (μ_2 : List Value → Heap → Nat), I_2 [(Value.slice none 0 0), t29_1] h_10 ∧
  ∀ (junk_2 : Nat → Value) (list8_1 : Value) (k9_1 : Value) (h_11 : Heap), I_2 [list8_1, k9_1] h_11 →
  pop P (binA .gtr 3 k9_1 (Value.int IntKind.i64 0)) fun t31_1 =>
  condM t31_1
  (callM P 61 #[c0_1, t14_1] h_11 fun t37_1 h_12 =>
  eop P (Instr.buildSlice 36 1 #[(0, t37_1)]) h_12 fun t38_1 h_13 =>
  eop P (appS 36 36 36 list8_1 t38_1) h_13 fun t39_1 h_14 =>
  pop P (binA .sub 3 k9_1 (Value.int IntKind.i64 1)) fun t33_1 =>
  I_2 [t39_1, t33_1] h_14 ∧ μ_2 [t39_1, t33_1] h_14 < μ_2 [list8_1, k9_1] h_11)
  (∃ J_1 : List Value → Heap → Prop, (callM P 43 #[c0_1, (Value.int IntKind.i64 8)] h_11 fun t41_1 h_15 =>
  condM t41_1
  (J_1 [(Value.slice none 0 0)] h_15)
  (J_1 [list8_1] h_15)) ∧
  ∀ (junk_3 : Nat → Value) (list8_2 : Value) (h_16 : Heap), J_1 [list8_2] h_16 →
  pop P (Instr.fieldAt 26 g6_1 0) fun t42_1 =>
  rop P (Instr.loadAt 24 t42_1) h_16 fun t43_1 =>
  eop P (Instr.buildSlice 24 1 #[(0, list8_2)]) h_16 fun t45_1 h_17 =>
  eop P (appS 24 24 24 t43_1 t45_1) h_17 fun t46_1 h_18 =>
  pop P (Instr.fieldAt 26 g6_1 0) fun t47_1 =>
  uop P (Instr.storeAt 24 t47_1 t46_1) h_18 fun u_3 h_19 =>
  pop P (binA .add 3 p7_1 (Value.int IntKind.i64 1)) fun t26_1 =>
  I_1 [t26_1] h_19 ∧ μ_1 [t26_1] h_19 < μ_1 [p7_1] h_9))
  (callM P 43 #[c0_1, (Value.int IntKind.i64 2)] h_9 fun t49_1 h_20 =>
  condM t49_1
  (pop P (Instr.fieldAt 26 g6_1 0) fun t50_1 =>
  rop P (Instr.loadAt 24 t50_1) h_20 fun t51_1 =>
  pop P (lenS 24 3 t51_1) fun t52_1 =>
  ∃ (I_3 : List Value → Heap → Prop) (μ_3 : List Value → Heap → Nat), I_3 [(Value.int IntKind.i64 0)] h_20 ∧
  ∀ (junk_4 : Nat → Value) (t53_1 : Value) (h_21 : Heap), I_3 [t53_1] h_21 →
  pop P (binA .lss 3 t53_1 t52_1) fun t54_1 =>
  condM t54_1
  (pop P (Instr.fieldAt 26 g6_1 0) fun t56_1 =>
  rop P (Instr.loadAt 24 t56_1) h_21 fun t57_1 =>
  pop P (Instr.fieldAt 26 g6_1 0) fun t59_1 =>
  rop P (Instr.loadAt 24 t59_1) h_21 fun t60_1 =>
  pop P (Instr.indexAt 24 t60_1 t53_1) fun t62_1 =>
  rop P (Instr.loadAt 36 t62_1) h_21 fun t63_1 =>
  pop P (binA .add 3 t53_1 (Value.int IntKind.i64 1)) fun t65_1 =>
  pop P (binA .rem 3 t65_1 t14_1) fun t67_1 =>
  eop P (Instr.buildSlice 36 1 #[(0, t67_1)]) h_21 fun t68_1 h_22 =>
  (∀ w : World, w.heap = h_22 → (Instr.loadAt 36 t62_1).run P w = .ok t63_1 w) ∧
  (∀ w : World, w.heap = h_22 → (Instr.loadAt 24 t59_1).run P w = .ok t60_1 w) ∧
  (∀ w : World, w.heap = h_22 → (Instr.loadAt 24 t56_1).run P w = .ok t57_1 w) ∧
  eop P (appS 36 36 36 t63_1 t68_1) h_22 fun t69_1 h_23 =>
  (∀ w : World, w.heap = h_23 → (Instr.loadAt 24 t59_1).run P w = .ok t60_1 w) ∧
  (∀ w : World, w.heap = h_23 → (Instr.loadAt 24 t56_1).run P w = .ok t57_1 w) ∧
  pop P (Instr.indexAt 24 t57_1 t53_1) fun t70_1 =>
  uop P (Instr.storeAt 36 t70_1 t69_1) h_23 fun u_4 h_24 =>
  pop P (binA .add 3 t53_1 (Value.int IntKind.i64 1)) fun t71_1 =>
  I_3 [t71_1] h_24 ∧ μ_3 [t71_1] h_24 < μ_3 [t53_1] h_21)
  (rop P (Instr.loadAt 26 g6_1) h_21 fun t72_1 =>
  uop P (Instr.storeAt 26 t4_1 t72_1) h_21 fun u_5 h_25 =>
  rop P (Instr.loadAt 26 t4_1) h_25 fun r_2 =>
  K r_2 h_25))
  (rop P (Instr.loadAt 26 g6_1) h_20 fun t72_2 =>
  uop P (Instr.storeAt 26 t4_1 t72_2) h_20 fun u_6 h_26 =>
  rop P (Instr.loadAt 26 t4_1) h_26 fun r_3 =>
  K r_3 h_26)))
theorem e42 (c0_1 : Value) (most1_1 : Value) (h : Heap) (K : Value → Heap → Prop) : wpA Tryz.prog 73 (anOf [(250, [7]), (2026, [53]), (16019, [8]), (64074, [8, 9])]) (bodyOf Tryz.f42) 1 (fun A h => resA Tryz.prog A h K [.cell 4 26]) (fun _ _ _ => False) (fun A h => resA Tryz.prog A h K [.cell 4 26]) (aargs [c0_1, most1_1] 0) h = t42 Tryz.prog c0_1 most1_1 h K := by kernel_rfl
theorem c42 (c0_1 : Value) (most1_1 : Value) (h : Heap) (K : Value → Heap → Prop) (H : t42 Tryz.prog c0_1 most1_1 h K) : callM Tryz.prog 42 #[c0_1, most1_1] h K :=
  callM_of_wpA mixed (fn := Tryz.f42) Tryz.func42 (c := bodyOf Tryz.f42) rfl (of_decide_eq_true (by kernel_rfl)) (anOf [(250, [7]), (2026, [53]), (16019, [8]), (64074, [8, 9])]) 71 73 (by kernel_rfl) rfl [.cell 4 26] (by kernel_rfl) (args := [c0_1, most1_1]) (by rw [e42]; exact H)

/-! (*spec.l1Cur).one -/
def t43 (P : Program) (c0_1 : Value) (n1_1 : Value) (h : Heap) (K : Value → Heap → Prop) : Prop :=
  callM P 61 #[c0_1, n1_1] h fun t7_1 h_1 =>
  pop P (binE .eql 3 (.tmp 7) (.const (Value.int IntKind.i64 0)) t7_1 (Value.int IntKind.i64 0)) fun t8_1 =>
  K t8_1 h_1
theorem e43 (c0_1 : Value) (n1_1 : Value) (h : Heap) (K : Value → Heap → Prop) : wpA Tryz.prog 9 (anOf []) (bodyOf Tryz.f43) 1 (fun A h => resA Tryz.prog A h K [.tmp 4]) (fun _ _ _ => False) (fun A h => resA Tryz.prog A h K [.tmp 4]) (aargs [c0_1, n1_1] 0) h = t43 Tryz.prog c0_1 n1_1 h K := by kernel_rfl
theorem c43 (c0_1 : Value) (n1_1 : Value) (h : Heap) (K : Value → Heap → Prop) (H : t43 Tryz.prog c0_1 n1_1 h K) : callM Tryz.prog 43 #[c0_1, n1_1] h K :=
  callM_of_wpA mixed (fn := Tryz.f43) Tryz.func43 (c := bodyOf Tryz.f43) rfl (of_decide_eq_true (by kernel_rfl)) (anOf []) 7 9 (by kernel_rfl) rfl [.tmp 4] (by kernel_rfl) (args := [c0_1, n1_1]) (by rw [e43]; exact H)

/-! (*spec.l1Cur).spoilt -/
def t44 (P : Program) (c0_1 : Value) (t1_1 : Value) (with2_1 : Value) (h : Heap) (K : Value → Heap → Prop) : Prop :=
  callM P 61 #[c0_1, (Value.int IntKind.i64 2)] h fun t11_1 h_1 =>
  pop P (binA .add 3 (Value.int IntKind.i64 1) t11_1) fun t12_1 =>
  ∃ (I_1 : List Value → Heap → Prop) (μ_1 : List Value → Heap → Nat), I_1 [t1_1, t12_1] h_1 ∧
  ∀ (junk_1 : Nat → Value) (t1_2 : Value) (n7_1 : Value) (h_2 : Heap), I_1 [t1_2, n7_1] h_2 →
  pop P (binA .gtr 3 n7_1 (Value.int IntKind.i64 0)) fun t14_1 =>
  guardM (asG t14_1 true) true (fun k_1 => k_1 t1_2 h_2) h_2 fun t16_1 h_3 =>
  guardM (asG t14_1 true) true (fun k_2 => pop P (lenS 9 3 t16_1) fun t17_1 =>
  k_2 t17_1 h_3) h_3 fun t17_2 h_4 =>
  guardM (asG t14_1 true) true (fun k_3 => pop P (binA .gtr 3 t17_2 (Value.int IntKind.i64 0)) fun t18_1 =>
  k_3 t18_1 h_4) h_4 fun t18_2 h_5 =>
  pop P (pickS t14_1 t18_2 (Value.bool false)) fun t19_1 =>
  condM t19_1
  (∃ J_1 : List Value → Heap → Prop, (pop P (lenS 9 3 t1_2) fun t24_1 =>
  callM P 61 #[c0_1, t24_1] h_5 fun t25_1 h_6 =>
  pop P (lenS 9 3 with2_1) fun t29_1 =>
  callM P 61 #[c0_1, t29_1] h_6 fun t30_1 h_7 =>
  pop P (Instr.index 9 with2_1 t30_1) fun t31_1 =>
  eop P (Instr.buildSlice 22 1 #[(0, t31_1)]) h_7 fun t32_1 h_8 =>
  rop P (convert 22 9 t32_1) h_8 fun t33_1 =>
  callM P 61 #[c0_1, (Value.int IntKind.i64 3)] h_8 fun t35_1 h_9 =>
  pop P (binE .eql 3 (.tmp 35) (.const (Value.int IntKind.i64 0)) t35_1 (Value.int IntKind.i64 0)) fun t45_1 =>
  condM t45_1
  (pop P (Instr.sliceAt 9 t1_2 none (some t25_1) none) fun t48_1 =>
  pop P (binA .add 9 t48_1 t33_1) fun t50_1 =>
  pop P (Instr.sliceAt 9 t1_2 (some t25_1) none none) fun t53_1 =>
  pop P (binA .add 9 t50_1 t53_1) fun t54_1 =>
  J_1 [t54_1] h_9)
  (pop P (binE .eql 3 (.tmp 35) (.const (Value.int IntKind.i64 1)) t35_1 (Value.int IntKind.i64 1)) fun t56_1 =>
  condM t56_1
  (pop P (Instr.sliceAt 9 t1_2 none (some t25_1) none) fun t59_1 =>
  pop P (binA .add 9 t59_1 t33_1) fun t61_1 =>
  pop P (binA .add 3 t25_1 (Value.int IntKind.i64 1)) fun t64_1 =>
  pop P (Instr.sliceAt 9 t1_2 (some t64_1) none none) fun t65_1 =>
  pop P (binA .add 9 t61_1 t65_1) fun t66_1 =>
  J_1 [t66_1] h_9)
  (pop P (Instr.sliceAt 9 t1_2 none (some t25_1) none) fun t38_1 =>
  pop P (binA .add 3 t25_1 (Value.int IntKind.i64 1)) fun t41_1 =>
  pop P (Instr.sliceAt 9 t1_2 (some t41_1) none none) fun t42_1 =>
  pop P (binA .add 9 t38_1 t42_1) fun t43_1 =>
  J_1 [t43_1] h_9))) ∧
  ∀ (junk_2 : Nat → Value) (t1_3 : Value) (h_10 : Heap), J_1 [t1_3] h_10 →
  pop P (binA .sub 3 n7_1 (Value.int IntKind.i64 1)) fun t21_1 =>
  I_1 [t1_3, t21_1] h_10 ∧ μ_1 [t1_3, t21_1] h_10 < μ_1 [t1_2, n7_1] h_2)
  (K t1_2 h_5)
theorem e44 (c0_1 : Value) (t1_1 : Value) (with2_1 : Value) (h : Heap) (K : Value → Heap → Prop) : wpA Tryz.prog 68 (anOf [(26, [1, 7]), (105, [1])]) (bodyOf Tryz.f44) 1 (fun A h => resA Tryz.prog A h K [.tmp 6]) (fun _ _ _ => False) (fun A h => resA Tryz.prog A h K [.tmp 6]) (aargs [c0_1, t1_1, with2_1] 0) h = t44 Tryz.prog c0_1 t1_1 with2_1 h K := by kernel_rfl
theorem c44 (c0_1 : Value) (t1_1 : Value) (with2_1 : Value) (h : Heap) (K : Value → Heap → Prop) (H : t44 Tryz.prog c0_1 t1_1 with2_1 h K) : callM Tryz.prog 44 #[c0_1, t1_1, with2_1] h K :=
  callM_of_wpA mixed (fn := Tryz.f44) Tryz.func44 (c := bodyOf Tryz.f44) rfl (of_decide_eq_true (by kernel_rfl)) (anOf [(26, [1, 7]), (105, [1])]) 65 68 (by kernel_rfl) rfl [.tmp 6] (by kernel_rfl) (args := [c0_1, t1_1, with2_1]) (by rw [e44]; exact H)

/-! spec.grParse -/
def t45 (P : Program) (s0_1 : Value) (h : Heap) (K : Value → Heap → Prop) : Prop :=
  eop P (Instr.alloc 26 true (.tuple #[])) h fun t2_1 h_1 =>
  pop P (lenS 9 3 s0_1) fun t9_1 =>
  pop P (binA .gtr 3 t9_1 (Value.int IntKind.i64 200)) fun t10_1 =>
  condM t10_1
  (pop P (Instr.build 26 #[]) fun t11_1 =>
  uop P (Instr.storeAt 26 t2_1 t11_1) h_1 fun u_1 h_2 =>
  rop P (Instr.loadAt 26 t2_1) h_2 fun r_1 =>
  K (.tuple #[r_1, (Value.bool false)]) h_2)
  (pop P (Instr.build 26 #[]) fun t12_1 =>
  eop P (Instr.alloc 26 true (.tuple #[])) h_1 fun g4_1 h_3 =>
  uop P (Instr.storeAt 26 g4_1 t12_1) h_3 fun u_2 h_4 =>
  ∃ (I_1 : List Value → Heap → Prop) (μ_1 : List Value → Heap → Nat), I_1 [(Value.slice none 0 0), (Value.int IntKind.i64 0)] h_4 ∧
  ∀ (junk_1 : Nat → Value) (list5_1 : Value) (i6_1 : Value) (h_5 : Heap), I_1 [list5_1, i6_1] h_5 →
  pop P (lenS 9 3 s0_1) fun t15_1 =>
  pop P (binA .lss 3 i6_1 t15_1) fun t16_1 =>
  condM t16_1
  (∃ J_1 : List Value → Heap → Prop, (pop P (Instr.index 9 s0_1 i6_1) fun t21_1 =>
  pop P (binA .geq 5 t21_1 (Value.int IntKind.u8 48)) fun t24_1 =>
  guardM (asG t24_1 true) true (fun k_1 => k_1 t21_1 h_5) h_5 fun t26_1 h_6 =>
  guardM (asG t24_1 true) true (fun k_2 => pop P (binA .leq 5 t26_1 (Value.int IntKind.u8 55)) fun t27_1 =>
  k_2 t27_1 h_6) h_6 fun t27_2 h_7 =>
  pop P (pickS t24_1 t27_2 (Value.bool false)) fun t28_1 =>
  condM t28_1
  (pop P (binA .sub 5 t21_1 (Value.int IntKind.u8 48)) fun t31_1 =>
  rop P (convert 5 3 t31_1) h_7 fun t32_1 =>
  eop P (Instr.buildSlice 36 1 #[(0, t32_1)]) h_7 fun t33_1 h_8 =>
  eop P (appS 36 36 36 list5_1 t33_1) h_8 fun t34_1 h_9 =>
  J_1 [t34_1] h_9)
  (pop P (binE .eql 5 (.tmp 36) (.const (Value.int IntKind.u8 59)) t21_1 (Value.int IntKind.u8 59)) fun t37_1 =>
  condM t37_1
  (pop P (Instr.fieldAt 26 g4_1 0) fun t38_1 =>
  rop P (Instr.loadAt 24 t38_1) h_7 fun t39_1 =>
  eop P (Instr.buildSlice 24 1 #[(0, list5_1)]) h_7 fun t41_1 h_10 =>
  eop P (appS 24 24 24 t39_1 t41_1) h_10 fun t42_1 h_11 =>
  pop P (Instr.fieldAt 26 g4_1 0) fun t43_1 =>
  uop P (Instr.storeAt 24 t43_1 t42_1) h_11 fun u_3 h_12 =>
  J_1 [(Value.slice none 0 0)] h_12)
  (J_1 [list5_1] h_7))) ∧
  ∀ (junk_2 : Nat → Value) (list5_2 : Value) (h_13 : Heap), J_1 [list5_2] h_13 →
  pop P (binA .add 3 i6_1 (Value.int IntKind.i64 1)) fun t18_1 =>
  I_1 [list5_2, t18_1] h_13 ∧ μ_1 [list5_2, t18_1] h_13 < μ_1 [list5_1, i6_1] h_5)
  (pop P (Instr.fieldAt 26 g4_1 0) fun t44_1 =>
  rop P (Instr.loadAt 24 t44_1) h_5 fun t45_1 =>
  eop P (Instr.buildSlice 24 1 #[(0, list5_1)]) h_5 fun t47_1 h_14 =>
  eop P (appS 24 24 24 t45_1 t47_1) h_14 fun t48_1 h_15 =>
  pop P (Instr.fieldAt 26 g4_1 0) fun t49_1 =>
  uop P (Instr.storeAt 24 t49_1 t48_1) h_15 fun u_4 h_16 =>
  rop P (Instr.loadAt 26 g4_1) h_16 fun t50_1 =>
  callM P 28 #[t50_1] h_16 fun t51_1 h_17 =>
  pop P (Op.unary .not t51_1) fun t52_1 =>
  guardM (asG t52_1 false) false (fun k_3 => rop P (Instr.loadAt 26 g4_1) h_17 fun t54_1 =>
  k_3 t54_1 h_17) h_17 fun t54_2 h_18 =>
  guardM (asG t52_1 false) false (fun k_4 => callM P 29 #[t54_2] h_18 fun t55_1 h_19 =>
  k_4 t55_1 h_19) h_18 fun t55_2 h_20 =>
  guardM (asG t52_1 false) false (fun k_5 => k_5 s0_1 h_20) h_20 fun t56_1 h_21 =>
  guardM (asG t52_1 false) false (fun k_6 => pop P (binE .neq 9 (.tmp 55) (.tmp 56) t55_2 t56_1) fun t57_1 =>
  k_6 t57_1 h_21) h_21 fun t57_2 h_22 =>
  pop P (pickS t52_1 (Value.bool true) t57_2) fun t58_1 =>
  condM t58_1
  (pop P (Instr.build 26 #[]) fun t59_1 =>
  uop P (Instr.storeAt 26 t2_1 t59_1) h_22 fun u_5 h_23 =>
  rop P (Instr.loadAt 26 t2_1) h_23 fun r_2 =>
  K (.tuple #[r_2, (Value.bool false)]) h_23)
  (rop P (Instr.loadAt 26 g4_1) h_22 fun t60_1 =>
  uop P (Instr.storeAt 26 t2_1 t60_1) h_22 fun u_6 h_24 =>
  rop P (Instr.loadAt 26 t2_1) h_24 fun r_3 =>
  K (.tuple #[r_3, (Value.bool true)]) h_24)))
theorem e45 (s0_1 : Value) (h : Heap) (K : Value → Heap → Prop) : wpA Tryz.prog 61 (anOf [(250, [5, 6]), (1001, [5])]) (bodyOf Tryz.f45) 1 (fun A h => resA Tryz.prog A h K [.cell 2 26, .tmp 3]) (fun _ _ _ => False) (fun A h => resA Tryz.prog A h K [.cell 2 26, .tmp 3]) (aargs [s0_1] 0) h = t45 Tryz.prog s0_1 h K := by kernel_rfl
theorem c45 (s0_1 : Value) (h : Heap) (K : Value → Heap → Prop) (H : t45 Tryz.prog s0_1 h K) : callM Tryz.prog 45 #[s0_1] h K :=
  callM_of_wpA mixed (fn := Tryz.f45) Tryz.func45 (c := bodyOf Tryz.f45) rfl (of_decide_eq_true (by kernel_rfl)) (anOf [(250, [5, 6]), (1001, [5])]) 60 61 (by kernel_rfl) rfl [.cell 2 26, .tmp 3] (by kernel_rfl) (args := [s0_1]) (by rw [e45]; exact H)

/-! (*spec.l1Cur).graph -/
def t46 (P : Program) (c0_1 : Value) (h : Heap) (K : Value → Heap → Prop) : Prop :=
  eop P (Instr.alloc 26 true (.tuple #[])) h fun t2_1 h_1 =>
  callM P 42 #[c0_1, (Value.int IntKind.i64 6)] h_1 fun t5_1 h_2 =>
  eop P (Instr.alloc 26 true (.tuple #[])) h_2 fun g3_1 h_3 =>
  uop P (Instr.storeAt 26 g3_1 t5_1) h_3 fun u_1 h_4 =>
  callM P 61 #[c0_1, (Value.int IntKind.i64 16)] h_4 fun t7_1 h_5 =>
  pop P (binE .eql 3 (.tmp 7) (.const (Value.int IntKind.i64 0)) t7_1 (Value.int IntKind.i64 0)) fun t9_1 =>
  condM t9_1
  (pop P (Instr.fieldAt 26 g3_1 0) fun t10_1 =>
  rop P (Instr.loadAt 24 t10_1) h_5 fun t11_1 =>
  pop P (Instr.fieldAt 26 g3_1 0) fun t12_1 =>
  rop P (Instr.loadAt 24 t12_1) h_5 fun t13_1 =>
  pop P (Instr.indexAt 24 t13_1 (Value.int IntKind.i64 0)) fun t14_1 =>
  rop P (Instr.loadAt 36 t14_1) h_5 fun t15_1 =>
  pop P (Instr.fieldAt 26 g3_1 0) fun t17_1 =>
  rop P (Instr.loadAt 24 t17_1) h_5 fun t18_1 =>
  pop P (lenS 24 3 t18_1) fun t19_1 =>
  eop P (Instr.buildSlice 36 3 #[(0, (Value.int IntKind.i64 (-1))), (1, t19_1), (2, (Value.int IntKind.i64 4611686018427387904))]) h_5 fun t20_1 h_6 =>
  (∀ w : World, w.heap = h_6 → (Instr.loadAt 24 t17_1).run P w = .ok t18_1 w) ∧
  (∀ w : World, w.heap = h_6 → (Instr.loadAt 36 t14_1).run P w = .ok t15_1 w) ∧
  (∀ w : World, w.heap = h_6 → (Instr.loadAt 24 t12_1).run P w = .ok t13_1 w) ∧
  (∀ w : World, w.heap = h_6 → (Instr.loadAt 24 t10_1).run P w = .ok t11_1 w) ∧
  callM P 63 #[c0_1, t20_1] h_6 fun t21_1 h_7 =>
  (∀ w : World, w.heap = h_7 → (Instr.loadAt 24 t17_1).run P w = .ok t18_1 w) ∧
  (∀ w : World, w.heap = h_7 → (Instr.loadAt 36 t14_1).run P w = .ok t15_1 w) ∧
  (∀ w : World, w.heap = h_7 → (Instr.loadAt 24 t12_1).run P w = .ok t13_1 w) ∧
  (∀ w : World, w.heap = h_7 → (Instr.loadAt 24 t10_1).run P w = .ok t11_1 w) ∧
  eop P (Instr.buildSlice 36 1 #[(0, t21_1)]) h_7 fun t22_1 h_8 =>
  (∀ w : World, w.heap = h_8 → (Instr.loadAt 24 t17_1).run P w = .ok t18_1 w) ∧
  (∀ w : World, w.heap = h_8 → (Instr.loadAt 36 t14_1).run P w = .ok t15_1 w) ∧
  (∀ w : World, w.heap = h_8 → (Instr.loadAt 24 t12_1).run P w = .ok t13_1 w) ∧
  (∀ w : World, w.heap = h_8 → (Instr.loadAt 24 t10_1).run P w = .ok t11_1 w) ∧
  eop P (appS 36 36 36 t15_1 t22_1) h_8 fun t23_1 h_9 =>
  (∀ w : World, w.heap = h_9 → (Instr.loadAt 24 t17_1).run P w = .ok t18_1 w) ∧
  (∀ w : World, w.heap = h_9 → (Instr.loadAt 24 t12_1).run P w = .ok t13_1 w) ∧
  (∀ w : World, w.heap = h_9 → (Instr.loadAt 24 t10_1).run P w = .ok t11_1 w) ∧
  pop P (Instr.indexAt 24 t11_1 (Value.int IntKind.i64 0)) fun t24_1 =>
  uop P (Instr.storeAt 36 t24_1 t23_1) h_9 fun u_2 h_10 =>
  rop P (Instr.loadAt 26 g3_1) h_10 fun t52_1 =>
  uop P (Instr.storeAt 26 t2_1 t52_1) h_10 fun u_3 h_11 =>
  rop P (Instr.loadAt 26 t2_1) h_11 fun r_1 =>
  K r_1 h_11)
  (pop P (binE .eql 3 (.tmp 7) (.const (Value.int IntKind.i64 1)) t7_1 (Value.int IntKind.i64 1)) fun t26_1 =>
  condM t26_1
  (pop P (Instr.fieldAt 26 g3_1 0) fun t27_1 =>
  rop P (Instr.loadAt 24 t27_1) h_5 fun t28_1 =>
  callM P 61 #[c0_1, (Value.int IntKind.i64 2)] h_5 fun t30_1 h_12 =>
  (∀ w : World, w.heap = h_12 → (Instr.loadAt 24 t27_1).run P w = .ok t28_1 w) ∧
  pop P (binA .add 3 (Value.int IntKind.i64 5) t30_1) fun t31_1 =>
  eop P (Instr.makeSlice 36 t31_1 t31_1) h_12 fun t32_1 h_13 =>
  (∀ w : World, w.heap = h_13 → (Instr.loadAt 24 t27_1).run P w = .ok t28_1 w) ∧
  pop P (Instr.indexAt 24 t28_1 (Value.int IntKind.i64 0)) fun t33_1 =>
  uop P (Instr.storeAt 36 t33_1 t32_1) h_13 fun u_4 h_14 =>
  rop P (Instr.loadAt 26 g3_1) h_14 fun t52_2 =>
  uop P (Instr.storeAt 26 t2_1 t52_2) h_14 fun u_5 h_15 =>
  rop P (Instr.loadAt 26 t2_1) h_15 fun r_2 =>
  K r_2 h_15)
  (pop P (binE .eql 3 (.tmp 7) (.const (Value.int IntKind.i64 2)) t7_1 (Value.int IntKind.i64 2)) fun t35_1 =>
  condM t35_1
  (∃ (I_1 : List Value → Heap → Prop) (μ_1 : List Value → Heap → Nat), I_1 [] h_5 ∧
  ∀ (junk_1 : Nat → Value) (h_16 : Heap), I_1 [] h_16 →
  pop P (Instr.fieldAt 26 g3_1 0) fun t36_1 =>
  rop P (Instr.loadAt 24 t36_1) h_16 fun t37_1 =>
  pop P (lenS 24 3 t37_1) fun t38_1 =>
  callM P 61 #[c0_1, (Value.int IntKind.i64 2)] h_16 fun t40_1 h_17 =>
  (∀ w : World, w.heap = h_17 → (Instr.loadAt 24 t36_1).run P w = .ok t37_1 w) ∧
  pop P (binA .add 3 (Value.int IntKind.i64 8) t40_1) fun t41_1 =>
  pop P (binA .lss 3 t38_1 t41_1) fun t42_1 =>
  condM t42_1
  (pop P (Instr.fieldAt 26 g3_1 0) fun t43_1 =>
  rop P (Instr.loadAt 24 t43_1) h_17 fun t44_1 =>
  eop P (Instr.buildSlice 36 1 #[(0, (Value.int IntKind.i64 0))]) h_17 fun t45_1 h_18 =>
  eop P (Instr.buildSlice 24 1 #[(0, t45_1)]) h_18 fun t46_1 h_19 =>
  eop P (appS 24 24 24 t44_1 t46_1) h_19 fun t47_1 h_20 =>
  pop P (Instr.fieldAt 26 g3_1 0) fun t48_1 =>
  uop P (Instr.storeAt 24 t48_1 t47_1) h_20 fun u_6 h_21 =>
  I_1 [] h_21 ∧ μ_1 [] h_21 < μ_1 [] h_16)
  (rop P (Instr.loadAt 26 g3_1) h_17 fun t52_3 =>
  uop P (Instr.storeAt 26 t2_1 t52_3) h_17 fun u_7 h_22 =>
  rop P (Instr.loadAt 26 t2_1) h_22 fun r_3 =>
  K r_3 h_22))
  (pop P (binE .eql 3 (.tmp 7) (.const (Value.int IntKind.i64 3)) t7_1 (Value.int IntKind.i64 3)) fun t50_1 =>
  condM t50_1
  (pop P (Instr.build 26 #[]) fun t51_1 =>
  uop P (Instr.storeAt 26 g3_1 t51_1) h_5 fun u_8 h_23 =>
  rop P (Instr.loadAt 26 g3_1) h_23 fun t52_4 =>
  uop P (Instr.storeAt 26 t2_1 t52_4) h_23 fun u_9 h_24 =>
  rop P (Instr.loadAt 26 t2_1) h_24 fun r_4 =>
  K r_4 h_24)
  (rop P (Instr.loadAt 26 g3_1) h_5 fun t52_5 =>
  uop P (Instr.storeAt 26 t2_1 t52_5) h_5 fun u_10 h_25 =>
  rop P (Instr.loadAt 26 t2_1) h_25 fun r_5 =>
  K r_5 h_25))))
theorem e46 (c0_1 : Value) (h : Heap) (K : Value → Heap → Prop) : wpA Tryz.prog 53 (anOf [(7548, [])]) (bodyOf Tryz.f46) 1 (fun A h => resA Tryz.prog A h K [.cell 2 26]) (fun _ _ _ => False) (fun A h => resA Tryz.prog A h K [.cell 2 26]) (aargs [c0_1] 0) h = t46 Tryz.prog c0_1 h K := by kernel_rfl
theorem c46 (c0_1 : Value) (h : Heap) (K : Value → Heap → Prop) (H : t46 Tryz.prog c0_1 h K) : callM Tryz.prog 46 #[c0_1] h K :=
  callM_of_wpA mixed (fn := Tryz.f46) Tryz.func46 (c := bodyOf Tryz.f46) rfl (of_decide_eq_true (by kernel_rfl)) (anOf [(7548, [])]) 52 53 (by kernel_rfl) rfl [.cell 2 26] (by kernel_rfl) (args := [c0_1]) (by rw [e46]; exact H)

/-! impl.in -/
def t47 (P : Program) (n0_1 : Value) (low1_1 : Value) (high2_1 : Value) (h : Heap) (K : Value → Heap → Prop) : Prop :=
  pop P (binA .leq 3 low1_1 n0_1) fun t9_1 =>
  guardM (asG t9_1 true) true (fun k_1 => k_1 n0_1 h) h fun t11_1 h_1 =>
  guardM (asG t9_1 true) true (fun k_2 => k_2 high2_1 h_1) h_1 fun t12_1 h_2 =>
  guardM (asG t9_1 true) true (fun k_3 => pop P (binA .leq 3 t11_1 t12_1) fun t13_1 =>
  k_3 t13_1 h_2) h_2 fun t13_2 h_3 =>
  pop P (pickS t9_1 t13_2 (Value.bool false)) fun t14_1 =>
  K t14_1 h_3
theorem e47 (n0_1 : Value) (low1_1 : Value) (high2_1 : Value) (h : Heap) (K : Value → Heap → Prop) : wpA Tryz.prog 15 (anOf []) (bodyOf Tryz.f47) 1 (fun A h => resA Tryz.prog A h K [.tmp 6]) (fun _ _ _ => False) (fun A h => resA Tryz.prog A h K [.tmp 6]) (aargs [n0_1, low1_1, high2_1] 0) h = t47 Tryz.prog n0_1 low1_1 high2_1 h K := by kernel_rfl
theorem c47 (n0_1 : Value) (low1_1 : Value) (high2_1 : Value) (h : Heap) (K : Value → Heap → Prop) (H : t47 Tryz.prog n0_1 low1_1 high2_1 h K) : callM Tryz.prog 47 #[n0_1, low1_1, high2_1] h K :=
  callM_of_wpA mixed (fn := Tryz.f47) Tryz.func47 (c := bodyOf Tryz.f47) rfl (of_decide_eq_true (by kernel_rfl)) (anOf []) 12 15 (by kernel_rfl) rfl [.tmp 6] (by kernel_rfl) (args := [n0_1, low1_1, high2_1]) (by rw [e47]; exact H)

/-! slices.ContainsFunc[[]int,int] -/
def t48 (P : Program) (s0_1 : Value) (f1_1 : Value) (h : Heap) (K : Value → Heap → Prop) : Prop :=
  callM P 64 #[s0_1, f1_1] h fun t7_1 h_1 =>
  pop P (binA .geq 3 t7_1 (Value.int IntKind.i64 0)) fun t8_1 =>
  K t8_1 h_1
theorem e48 (s0_1 : Value) (f1_1 : Value) (h : Heap) (K : Value → Heap → Prop) : wpA Tryz.prog 9 (anOf []) (bodyOf Tryz.f48) 1 (fun A h => resA Tryz.prog A h K [.tmp 4]) (fun _ _ _ => False) (fun A h => resA Tryz.prog A h K [.tmp 4]) (aargs [s0_1, f1_1] 0) h = t48 Tryz.prog s0_1 f1_1 h K := by kernel_rfl
theorem c48 (s0_1 : Value) (f1_1 : Value) (h : Heap) (K : Value → Heap → Prop) (H : t48 Tryz.prog s0_1 f1_1 h K) : callM Tryz.prog 48 #[s0_1, f1_1] h K :=
  callM_of_wpA mixed (fn := Tryz.f48) Tryz.func48 (c := bodyOf Tryz.f48) rfl (of_decide_eq_true (by kernel_rfl)) (anOf []) 7 9 (by kernel_rfl) rfl [.tmp 4] (by kernel_rfl) (args := [s0_1, f1_1]) (by rw [e48]; exact H)

/-! impl.isGraph$1 -/
def t49 (P : Program) (q0_1 : Value) (t1_1 : Value) (h : Heap) (K : Value → Heap → Prop) : Prop :=
  rop P (Instr.loadAt 3 t1_1) h fun t5_1 =>
  pop P (binA .sub 3 t5_1 (Value.int IntKind.i64 1)) fun t6_1 =>
  callM P 47 #[q0_1, (Value.int IntKind.i64 0), t6_1] h fun t7_1 h_1 =>
  pop P (Op.unary .not t7_1) fun t8_1 =>
  K t8_1 h_1
theorem e49 (q0_1 : Value) (t1_1 : Value) (h : Heap) (K : Value → Heap → Prop) : wpA Tryz.prog 9 (anOf []) (bodyOf Tryz.f49) 1 (fun A h => resA Tryz.prog A h K [.tmp 3]) (fun _ _ _ => False) (fun A h => resA Tryz.prog A h K [.tmp 3]) (aargs [q0_1, t1_1] 0) h = t49 Tryz.prog q0_1 t1_1 h K := by kernel_rfl
theorem c49 (q0_1 : Value) (t1_1 : Value) (h : Heap) (K : Value → Heap → Prop) (H : t49 Tryz.prog q0_1 t1_1 h K) : callM Tryz.prog 49 #[q0_1, t1_1] h K :=
  callM_of_wpA mixed (fn := Tryz.f49) Tryz.func49 (c := bodyOf Tryz.f49) rfl (of_decide_eq_true (by kernel_rfl)) (anOf []) 7 9 (by kernel_rfl) rfl [.tmp 3] (by kernel_rfl) (args := [q0_1, t1_1]) (by rw [e49]; exact H)

/-! impl.listText -/
def t50 (P : Program) (list0_1 : Value) (h : Heap) (K : Value → Heap → Prop) : Prop :=
  pop P (lenS 36 3 list0_1) fun t7_1 =>
  pop P (binE .eql 3 (.tmp 7) (.const (Value.int IntKind.i64 0)) t7_1 (Value.int IntKind.i64 0)) fun t8_1 =>
  condM t8_1
  (K (Value.string { data := #[45] }) h)
  (eop P (Instr.buildSlice 48 0 #[]) h fun t9_1 h_1 =>
  pop P (lenS 36 3 list0_1) fun t11_1 =>
  ∃ (I_1 : List Value → Heap → Prop) (μ_1 : List Value → Heap → Nat), I_1 [t9_1, (Value.int IntKind.i64 0)] h_1 ∧
  ∀ (junk_1 : Nat → Value) (words3_1 : Value) (t12_1 : Value) (h_2 : Heap), I_1 [words3_1, t12_1] h_2 →
  pop P (binA .lss 3 t12_1 t11_1) fun t13_1 =>
  condM t13_1
  (pop P (Instr.indexAt 36 list0_1 t12_1) fun t14_1 =>
  rop P (Instr.loadAt 3 t14_1) h_2 fun t15_1 =>
  callM P 58 #[t15_1] h_2 fun t18_1 h_3 =>
  eop P (Instr.buildSlice 48 1 #[(0, t18_1)]) h_3 fun t19_1 h_4 =>
  eop P (appS 48 48 48 words3_1 t19_1) h_4 fun t20_1 h_5 =>
  pop P (binA .add 3 t12_1 (Value.int IntKind.i64 1)) fun t21_1 =>
  I_1 [t20_1, t21_1] h_5 ∧ μ_1 [t20_1, t21_1] h_5 < μ_1 [words3_1, t12_1] h_2)
  (callM P 51 #[words3_1, (Value.string { data := #[44] })] h_2 fun t23_1 h_6 =>
  K t23_1 h_6))
theorem e50 (list0_1 : Value) (h : Heap) (K : Value → Heap → Prop) : wpA Tryz.prog 24 (anOf [(122, [3, 12])]) (bodyOf Tryz.f50) 1 (fun A h => resA Tryz.prog A h K [.tmp 2]) (fun _ _ _ => False) (fun A h => resA Tryz.prog A h K [.tmp 2]) (aargs [list0_1] 0) h = t50 Tryz.prog list0_1 h K := by kernel_rfl
theorem c50 (list0_1 : Value) (h : Heap) (K : Value → Heap → Prop) (H : t50 Tryz.prog list0_1 h K) : callM Tryz.prog 50 #[list0_1] h K :=
  callM_of_wpA mixed (fn := Tryz.f50) Tryz.func50 (c := bodyOf Tryz.f50) rfl (of_decide_eq_true (by kernel_rfl)) (anOf [(122, [3, 12])]) 23 24 (by kernel_rfl) rfl [.tmp 2] (by kernel_rfl) (args := [list0_1]) (by rw [e50]; exact H)

/-! spec.l1In -/
def t52 (P : Program) (n0_1 : Value) (lo1_1 : Value) (hi2_1 : Value) (h : Heap) (K : Value → Heap → Prop) : Prop :=
  pop P (binA .geq 3 n0_1 lo1_1) fun t9_1 =>
  guardM (asG t9_1 true) true (fun k_1 => k_1 n0_1 h) h fun t11_1 h_1 =>
  guardM (asG t9_1 true) true (fun k_2 => k_2 hi2_1 h_1) h_1 fun t12_1 h_2 =>
  guardM (asG t9_1 true) true (fun k_3 => pop P (binA .leq 3 t11_1 t12_1) fun t13_1 =>
  k_3 t13_1 h_2) h_2 fun t13_2 h_3 =>
  pop P (pickS t9_1 t13_2 (Value.bool false)) fun t14_1 =>
  K t14_1 h_3
theorem e52 (n0_1 : Value) (lo1_1 : Value) (hi2_1 : Value) (h : Heap) (K : Value → Heap → Prop) : wpA Tryz.prog 15 (anOf []) (bodyOf Tryz.f52) 1 (fun A h => resA Tryz.prog A h K [.tmp 6]) (fun _ _ _ => False) (fun A h => resA Tryz.prog A h K [.tmp 6]) (aargs [n0_1, lo1_1, hi2_1] 0) h = t52 Tryz.prog n0_1 lo1_1 hi2_1 h K := by kernel_rfl
theorem c52 (n0_1 : Value) (lo1_1 : Value) (hi2_1 : Value) (h : Heap) (K : Value → Heap → Prop) (H : t52 Tryz.prog n0_1 lo1_1 hi2_1 h K) : callM Tryz.prog 52 #[n0_1, lo1_1, hi2_1] h K :=
  callM_of_wpA mixed (fn := Tryz.f52) Tryz.func52 (c := bodyOf Tryz.f52) rfl (of_decide_eq_true (by kernel_rfl)) (anOf []) 12 15 (by kernel_rfl) rfl [.tmp 6] (by kernel_rfl) (args := [n0_1, lo1_1, hi2_1]) (by rw [e52]; exact H)

/-! spec.l1All -/
def t53 (P : Program) (l0_1 : Value) (lo1_1 : Value) (hi2_1 : Value) (h : Heap) (K : Value → Heap → Prop) : Prop :=
  pop P (lenS 36 3 l0_1) fun t10_1 =>
  ∃ (I_1 : List Value → Heap → Prop) (μ_1 : List Value → Heap → Nat), I_1 [(Value.int IntKind.i64 0)] h ∧
  ∀ (junk_1 : Nat → Value) (t11_1 : Value) (h_1 : Heap), I_1 [t11_1] h_1 →
  pop P (binA .lss 3 t11_1 t10_1) fun t12_1 =>
  condM t12_1
  (pop P (Instr.indexAt 36 l0_1 t11_1) fun t13_1 =>
  rop P (Instr.loadAt 3 t13_1) h_1 fun t14_1 =>
  callM P 52 #[t14_1, lo1_1, hi2_1] h_1 fun t18_1 h_2 =>
  pop P (Op.unary .not t18_1) fun t19_1 =>
  condM t19_1
  (K (Value.bool false) h_2)
  (pop P (binA .add 3 t11_1 (Value.int IntKind.i64 1)) fun t20_1 =>
  I_1 [t20_1] h_2 ∧ μ_1 [t20_1] h_2 < μ_1 [t11_1] h_1))
  (K (Value.bool true) h_1)
theorem e53 (l0_1 : Value) (lo1_1 : Value) (hi2_1 : Value) (h : Heap) (K : Value → Heap → Prop) : wpA Tryz.prog 21 (anOf [(26, [11])]) (bodyOf Tryz.f53) 1 (fun A h => resA Tryz.prog A h K [.tmp 6]) (fun _ _ _ => False) (fun A h => resA Tryz.prog A h K [.tmp 6]) (aargs [l0_1, lo1_1, hi2_1] 0) h = t53 Tryz.prog l0_1 lo1_1 hi2_1 h K := by kernel_rfl
theorem c53 (l0_1 : Value) (lo1_1 : Value) (hi2_1 : Value) (h : Heap) (K : Value → Heap → Prop) (H : t53 Tryz.prog l0_1 lo1_1 hi2_1 h K) : callM Tryz.prog 53 #[l0_1, lo1_1, hi2_1] h K :=
  callM_of_wpA mixed (fn := Tryz.f53) Tryz.func53 (c := bodyOf Tryz.f53) rfl (of_decide_eq_true (by kernel_rfl)) (anOf [(26, [11])]) 18 21 (by kernel_rfl) rfl [.tmp 6] (by kernel_rfl) (args := [l0_1, lo1_1, hi2_1]) (by rw [e53]; exact H)

/-! spec.l1Num -/
def t54 (P : Program) (n0_1 : Value) (h : Heap) (K : Value → Heap → Prop) : Prop :=
  pop P (binA .lss 3 n0_1 (Value.int IntKind.i64 10)) fun t4_1 =>
  condM t4_1
  (pop P (binA .add 3 (Value.int IntKind.i64 48) n0_1) fun t6_1 =>
  rop P (convert 3 5 t6_1) h fun t7_1 =>
  eop P (Instr.buildSlice 22 1 #[(0, t7_1)]) h fun t8_1 h_1 =>
  rop P (convert 22 9 t8_1) h_1 fun t9_1 =>
  K t9_1 h_1)
  (pop P (binA .quo 3 n0_1 (Value.int IntKind.i64 10)) fun t11_1 =>
  pop P (binA .rem 3 n0_1 (Value.int IntKind.i64 10)) fun t14_1 =>
  pop P (binA .add 3 (Value.int IntKind.i64 48) t14_1) fun t15_1 =>
  rop P (convert 3 5 t15_1) h fun t16_1 =>
  (callM P 54 #[t11_1] h fun t12_1 h_2 =>
  (∀ w : World, w.heap = h_2 → (convert 3 5 t15_1).run P w = .ok t16_1 w) ∧
  eop P (Instr.buildSlice 22 1 #[(0, t16_1)]) h_2 fun t17_1 h_3 =>
  rop P (convert 22 9 t17_1) h_3 fun t18_1 =>
  pop P (binA .add 9 t12_1 t18_1) fun t19_1 =>
  K t19_1 h_3) ∧
  (eop P (Instr.buildSlice 22 1 #[(0, t16_1)]) h fun t17_2 h_4 =>
  rop P (convert 22 9 t17_2) h_4 fun t18_2 =>
  callM P 54 #[t11_1] h_4 fun t12_2 h_5 =>
  (∀ w : World, w.heap = h_5 → (convert 22 9 t17_2).run P w = .ok t18_2 w) ∧
  pop P (binA .add 9 t12_2 t18_2) fun t19_2 =>
  K t19_2 h_5))
theorem e54 (n0_1 : Value) (h : Heap) (K : Value → Heap → Prop) : wpA Tryz.prog 20 (anOf []) (bodyOf Tryz.f54) 1 (fun A h => resA Tryz.prog A h K [.tmp 2]) (fun _ _ _ => False) (fun A h => resA Tryz.prog A h K [.tmp 2]) (aargs [n0_1] 0) h = t54 Tryz.prog n0_1 h K := by kernel_rfl
theorem c54 (n0_1 : Value) (h : Heap) (K : Value → Heap → Prop) (H : t54 Tryz.prog n0_1 h K) : callM Tryz.prog 54 #[n0_1] h K :=
  callM_of_wpA mixed (fn := Tryz.f54) Tryz.func54 (c := bodyOf Tryz.f54) rfl (of_decide_eq_true (by kernel_rfl)) (anOf []) 19 20 (by kernel_rfl) rfl [.tmp 2] (by kernel_rfl) (args := [n0_1]) (by rw [e54]; exact H)

/-! slices.Grow[[]int,int] -/
def t55 (P : Program) (s0_1 : Value) (n1_1 : Value) (h : Heap) (K : Value → Heap → Prop) : Prop :=
  ∃ J_1 : List Value → Heap → Prop, (pop P (binA .lss 3 n1_1 (Value.int IntKind.i64 0)) fun t6_1 =>
  condM t6_1
  (pop P (Instr.makeInterface 9 (Value.string { data := #[99, 97, 110, 110, 111, 116, 32, 98, 101, 32, 110, 101, 103, 97, 116, 105, 118, 101] })) fun t7_1 =>
  False)
  (J_1 [] h)) ∧
  ∀ (junk_1 : Nat → Value) (h_1 : Heap), J_1 [] h_1 →
  pop P (Builtin.cap_ #[36] 3 #[s0_1]) fun t10_1 =>
  pop P (lenS 36 3 s0_1) fun t12_1 =>
  pop P (binA .sub 3 t10_1 t12_1) fun t13_1 =>
  pop P (binA .sub 3 n1_1 t13_1) fun t14_1 =>
  pop P (binA .gtr 3 t14_1 (Value.int IntKind.i64 0)) fun t16_1 =>
  condM t16_1
  (pop P (Builtin.cap_ #[36] 3 #[s0_1]) fun t19_1 =>
  pop P (Instr.sliceAt 36 s0_1 none (some t19_1) none) fun t20_1 =>
  eop P (appS 36 3 36 t20_1 t14_1) h_1 fun t22_1 h_2 =>
  pop P (lenS 36 3 s0_1) fun t24_1 =>
  pop P (Instr.sliceAt 36 t22_1 none (some t24_1) none) fun t25_1 =>
  K t25_1 h_2)
  (K s0_1 h_1)
theorem e55 (s0_1 : Value) (n1_1 : Value) (h : Heap) (K : Value → Heap → Prop) : wpA Tryz.prog 27 (anOf [(3, [])]) (bodyOf Tryz.f55) 1 (fun A h => resA Tryz.prog A h K [.tmp 4]) (fun _ _ _ => False) (fun A h => resA Tryz.prog A h K [.tmp 4]) (aargs [s0_1, n1_1] 0) h = t55 Tryz.prog s0_1 n1_1 h K := by kernel_rfl
theorem c55 (s0_1 : Value) (n1_1 : Value) (h : Heap) (K : Value → Heap → Prop) (H : t55 Tryz.prog s0_1 n1_1 h K) : callM Tryz.prog 55 #[s0_1, n1_1] h K :=
  callM_of_wpA mixed (fn := Tryz.f55) Tryz.func55 (c := bodyOf Tryz.f55) rfl (of_decide_eq_true (by kernel_rfl)) (anOf [(3, [])]) 25 27 (by kernel_rfl) rfl [.tmp 4] (by kernel_rfl) (args := [s0_1, n1_1]) (by rw [e55]; exact H)

/-! impl.has$1 -/
def t59 (P : Program) (p0_1 : Value) (t1_1 : Value) (h : Heap) (K : Value → Heap → Prop) : Prop :=
  pop P (Instr.fieldAt 26 t1_1 0) fun t5_1 =>
  rop P (Instr.loadAt 24 t5_1) h fun t6_1 =>
  pop P (lenS 24 3 t6_1) fun t7_1 =>
  pop P (binA .sub 3 t7_1 (Value.int IntKind.i64 1)) fun t8_1 =>
  callM P 47 #[p0_1, (Value.int IntKind.i64 0), t8_1] h fun t9_1 h_1 =>
  pop P (Op.unary .not t9_1) fun t10_1 =>
  K t10_1 h_1
theorem e59 (p0_1 : Value) (t1_1 : Value) (h : Heap) (K : Value → Heap → Prop) : wpA Tryz.prog 11 (anOf []) (bodyOf Tryz.f59) 1 (fun A h => resA Tryz.prog A h K [.tmp 3]) (fun _ _ _ => False) (fun A h => resA Tryz.prog A h K [.tmp 3]) (aargs [p0_1, t1_1] 0) h = t59 Tryz.prog p0_1 t1_1 h K := by kernel_rfl
theorem c59 (p0_1 : Value) (t1_1 : Value) (h : Heap) (K : Value → Heap → Prop) (H : t59 Tryz.prog p0_1 t1_1 h K) : callM Tryz.prog 59 #[p0_1, t1_1] h K :=
  callM_of_wpA mixed (fn := Tryz.f59) Tryz.func59 (c := bodyOf Tryz.f59) rfl (of_decide_eq_true (by kernel_rfl)) (anOf []) 9 11 (by kernel_rfl) rfl [.tmp 3] (by kernel_rfl) (args := [p0_1, t1_1]) (by rw [e59]; exact H)

/-! (impl.Graph).reach -/
def t60 (P : Program) (g0_1 : Value) (p1_1 : Value) (h : Heap) (K : Value → Heap → Prop) : Prop :=
  eop P (Instr.box 26 g0_1) h fun g2_1 h_1 =>
  eop P (Instr.buildSlice 36 0 #[]) h_1 fun t8_1 h_2 =>
  rop P (Instr.loadAt 26 g2_1) h_2 fun t9_1 =>
  callM P 74 #[t9_1, p1_1] h_2 fun t11_1 h_3 =>
  pop P (lenS 36 3 t11_1) fun t12_1 =>
  ∃ (I_1 : List Value → Heap → Prop) (μ_1 : List Value → Heap → Nat), I_1 [t8_1, (Value.int IntKind.i64 0)] h_3 ∧
  ∀ (junk_1 : Nat → Value) (out5_1 : Value) (t13_1 : Value) (h_4 : Heap), I_1 [out5_1, t13_1] h_4 →
  pop P (binA .lss 3 t13_1 t12_1) fun t14_1 =>
  condM t14_1
  (pop P (Instr.indexAt 36 t11_1 t13_1) fun t16_1 =>
  rop P (Instr.loadAt 3 t16_1) h_4 fun t17_1 =>
  pop P (binA .geq 3 t17_1 (Value.int IntKind.i64 0)) fun t19_1 =>
  condM t19_1
  (eop P (Instr.buildSlice 36 1 #[(0, t13_1)]) h_4 fun t22_1 h_5 =>
  eop P (appS 36 36 36 out5_1 t22_1) h_5 fun t23_1 h_6 =>
  pop P (binA .add 3 t13_1 (Value.int IntKind.i64 1)) fun t24_1 =>
  I_1 [t23_1, t24_1] h_6 ∧ μ_1 [t23_1, t24_1] h_6 < μ_1 [out5_1, t13_1] h_4)
  (pop P (binA .add 3 t13_1 (Value.int IntKind.i64 1)) fun t24_2 =>
  I_1 [out5_1, t24_2] h_4 ∧ μ_1 [out5_1, t24_2] h_4 < μ_1 [out5_1, t13_1] h_4))
  (K out5_1 h_4)
theorem e60 (g0_1 : Value) (p1_1 : Value) (h : Heap) (K : Value → Heap → Prop) : wpA Tryz.prog 26 (anOf [(58, [5, 13])]) (bodyOf Tryz.f60) 1 (fun A h => resA Tryz.prog A h K [.tmp 4]) (fun _ _ _ => False) (fun A h => resA Tryz.prog A h K [.tmp 4]) (aargs [g0_1, p1_1] 0) h = t60 Tryz.prog g0_1 p1_1 h K := by kernel_rfl
theorem c60 (g0_1 : Value) (p1_1 : Value) (h : Heap) (K : Value → Heap → Prop) (H : t60 Tryz.prog g0_1 p1_1 h K) : callM Tryz.prog 60 #[g0_1, p1_1] h K :=
  callM_of_wpA mixed (fn := Tryz.f60) Tryz.func60 (c := bodyOf Tryz.f60) rfl (of_decide_eq_true (by kernel_rfl)) (anOf [(58, [5, 13])]) 24 26 (by kernel_rfl) rfl [.tmp 4] (by kernel_rfl) (args := [g0_1, p1_1]) (by rw [e60]; exact H)

/-! (*spec.l1Cur).pick -/
def t61 (P : Program) (c0_1 : Value) (n1_1 : Value) (h : Heap) (K : Value → Heap → Prop) : Prop :=
  pop P (binA .leq 3 n1_1 (Value.int IntKind.i64 1)) fun t7_1 =>
  condM t7_1
  (K (Value.int IntKind.i64 0) h)
  (callM P 75 #[c0_1] h fun t9_1 h_1 =>
  ∃ J_1 : List Value → Heap → Prop, (pop P (binA .gtr 3 n1_1 (Value.int IntKind.i64 200)) fun t11_1 =>
  condM t11_1
  (pop P (binA .mul 3 t9_1 (Value.int IntKind.i64 256)) fun t13_1 =>
  callM P 75 #[c0_1] h_1 fun t15_1 h_2 =>
  pop P (binA .add 3 t13_1 t15_1) fun t16_1 =>
  J_1 [t16_1] h_2)
  (J_1 [t9_1] h_1)) ∧
  ∀ (junk_1 : Nat → Value) (x5_1 : Value) (h_3 : Heap), J_1 [x5_1] h_3 →
  pop P (binA .rem 3 x5_1 n1_1) fun t19_1 =>
  K t19_1 h_3)
theorem e61 (c0_1 : Value) (n1_1 : Value) (h : Heap) (K : Value → Heap → Prop) : wpA Tryz.prog 20 (anOf [(15, [5])]) (bodyOf Tryz.f61) 1 (fun A h => resA Tryz.prog A h K [.tmp 4]) (fun _ _ _ => False) (fun A h => resA Tryz.prog A h K [.tmp 4]) (aargs [c0_1, n1_1] 0) h = t61 Tryz.prog c0_1 n1_1 h K := by kernel_rfl
theorem c61 (c0_1 : Value) (n1_1 : Value) (h : Heap) (K : Value → Heap → Prop) (H : t61 Tryz.prog c0_1 n1_1 h K) : callM Tryz.prog 61 #[c0_1, n1_1] h K :=
  callM_of_wpA mixed (fn := Tryz.f61) Tryz.func61 (c := bodyOf Tryz.f61) rfl (of_decide_eq_true (by kernel_rfl)) (anOf [(15, [5])]) 18 20 (by kernel_rfl) rfl [.tmp 4] (by kernel_rfl) (args := [c0_1, n1_1]) (by rw [e61]; exact H)

/-! spec.grCycle -/
def t62 (P : Program) (n0_1 : Value) (both1_1 : Value) (h : Heap) (K : Value → Heap → Prop) : Prop :=
  eop P (Instr.alloc 26 true (.tuple #[])) h fun t4_1 h_1 =>
  pop P (Instr.build 26 #[]) fun t8_1 =>
  eop P (Instr.alloc 26 true (.tuple #[])) h_1 fun g5_1 h_2 =>
  uop P (Instr.storeAt 26 g5_1 t8_1) h_2 fun u_1 h_3 =>
  ∃ (I_1 : List Value → Heap → Prop) (μ_1 : List Value → Heap → Nat), I_1 [(Value.int IntKind.i64 0)] h_3 ∧
  ∀ (junk_1 : Nat → Value) (p6_1 : Value) (h_4 : Heap), I_1 [p6_1] h_4 →
  pop P (binA .lss 3 p6_1 n0_1) fun t11_1 =>
  condM t11_1
  (pop P (binA .add 3 p6_1 (Value.int IntKind.i64 1)) fun t15_1 =>
  pop P (binA .rem 3 t15_1 n0_1) fun t17_1 =>
  eop P (Instr.buildSlice 36 1 #[(0, t17_1)]) h_4 fun t18_1 h_5 =>
  ∃ J_1 : List Value → Heap → Prop, (condM both1_1
  (pop P (binA .add 3 p6_1 n0_1) fun t23_1 =>
  pop P (binA .sub 3 t23_1 (Value.int IntKind.i64 1)) fun t24_1 =>
  pop P (binA .rem 3 t24_1 n0_1) fun t26_1 =>
  eop P (Instr.buildSlice 36 1 #[(0, t26_1)]) h_5 fun t27_1 h_6 =>
  eop P (appS 36 36 36 t18_1 t27_1) h_6 fun t28_1 h_7 =>
  J_1 [t28_1] h_7)
  (J_1 [t18_1] h_5)) ∧
  ∀ (junk_2 : Nat → Value) (list7_1 : Value) (h_8 : Heap), J_1 [list7_1] h_8 →
  pop P (Instr.fieldAt 26 g5_1 0) fun t29_1 =>
  rop P (Instr.loadAt 24 t29_1) h_8 fun t30_1 =>
  eop P (Instr.buildSlice 24 1 #[(0, list7_1)]) h_8 fun t32_1 h_9 =>
  eop P (appS 24 24 24 t30_1 t32_1) h_9 fun t33_1 h_10 =>
  pop P (Instr.fieldAt 26 g5_1 0) fun t34_1 =>
  uop P (Instr.storeAt 24 t34_1 t33_1) h_10 fun u_2 h_11 =>
  pop P (binA .add 3 p6_1 (Value.int IntKind.i64 1)) fun t13_1 =>
  I_1 [t13_1] h_11 ∧ μ_1 [t13_1] h_11 < μ_1 [p6_1] h_4)
  (rop P (Instr.loadAt 26 g5_1) h_4 fun t35_1 =>
  uop P (Instr.storeAt 26 t4_1 t35_1) h_4 fun u_3 h_12 =>
  rop P (Instr.loadAt 26 t4_1) h_12 fun r_1 =>
  K r_1 h_12)
theorem e62 (n0_1 : Value) (both1_1 : Value) (h : Heap) (K : Value → Heap → Prop) : wpA Tryz.prog 36 (anOf [(58, [6]), (1865, [7])]) (bodyOf Tryz.f62) 1 (fun A h => resA Tryz.prog A h K [.cell 4 26]) (fun _ _ _ => False) (fun A h => resA Tryz.prog A h K [.cell 4 26]) (aargs [n0_1, both1_1] 0) h = t62 Tryz.prog n0_1 both1_1 h K := by kernel_rfl
theorem c62 (n0_1 : Value) (both1_1 : Value) (h : Heap) (K : Value → Heap → Prop) (H : t62 Tryz.prog n0_1 both1_1 h K) : callM Tryz.prog 62 #[n0_1, both1_1] h K :=
  callM_of_wpA mixed (fn := Tryz.f62) Tryz.func62 (c := bodyOf Tryz.f62) rfl (of_decide_eq_true (by kernel_rfl)) (anOf [(58, [6]), (1865, [7])]) 34 36 (by kernel_rfl) rfl [.cell 4 26] (by kernel_rfl) (args := [n0_1, both1_1]) (by rw [e62]; exact H)

/-! (*spec.l1Cur).among -/
def t63 (P : Program) (c0_1 : Value) (list1_1 : Value) (h : Heap) (K : Value → Heap → Prop) : Prop :=
  pop P (lenS 36 3 list1_1) fun t8_1 =>
  callM P 61 #[c0_1, t8_1] h fun t9_1 h_1 =>
  pop P (Instr.indexAt 36 list1_1 t9_1) fun t10_1 =>
  rop P (Instr.loadAt 3 t10_1) h_1 fun t11_1 =>
  K t11_1 h_1
theorem e63 (c0_1 : Value) (list1_1 : Value) (h : Heap) (K : Value → Heap → Prop) : wpA Tryz.prog 12 (anOf []) (bodyOf Tryz.f63) 1 (fun A h => resA Tryz.prog A h K [.tmp 4]) (fun _ _ _ => False) (fun A h => resA Tryz.prog A h K [.tmp 4]) (aargs [c0_1, list1_1] 0) h = t63 Tryz.prog c0_1 list1_1 h K := by kernel_rfl
theorem c63 (c0_1 : Value) (list1_1 : Value) (h : Heap) (K : Value → Heap → Prop) (H : t63 Tryz.prog c0_1 list1_1 h K) : callM Tryz.prog 63 #[c0_1, list1_1] h K :=
  callM_of_wpA mixed (fn := Tryz.f63) Tryz.func63 (c := bodyOf Tryz.f63) rfl (of_decide_eq_true (by kernel_rfl)) (anOf []) 10 12 (by kernel_rfl) rfl [.tmp 4] (by kernel_rfl) (args := [c0_1, list1_1]) (by rw [e63]; exact H)

/-! slices.IndexFunc[[]int,int] -/
def t64 (P : Program) (s0_1 : Value) (f1_1 : Value) (h : Heap) (K : Value → Heap → Prop) : Prop :=
  pop P (lenS 36 3 s0_1) fun t7_1 =>
  ∃ (I_1 : List Value → Heap → Prop) (μ_1 : List Value → Heap → Nat), I_1 [(Value.int IntKind.i64 0)] h ∧
  ∀ (junk_1 : Nat → Value) (t8_1 : Value) (h_1 : Heap), I_1 [t8_1] h_1 →
  pop P (binA .lss 3 t8_1 t7_1) fun t9_1 =>
  condM t9_1
  (pop P (Instr.indexAt 36 s0_1 t8_1) fun t14_1 =>
  rop P (Instr.loadAt 3 t14_1) h_1 fun t15_1 =>
  callV P f1_1 [t15_1] h_1 fun t16_1 h_2 =>
  condM t16_1
  (K t8_1 h_2)
  (pop P (binA .add 3 t8_1 (Value.int IntKind.i64 1)) fun t18_1 =>
  I_1 [t18_1] h_2 ∧ μ_1 [t18_1] h_2 < μ_1 [t8_1] h_1))
  (K (Value.int IntKind.i64 (-1)) h_1)
theorem e64 (s0_1 : Value) (f1_1 : Value) (h : Heap) (K : Value → Heap → Prop) : wpA Tryz.prog 19 (anOf [(26, [8])]) (bodyOf Tryz.f64) 1 (fun A h => resA Tryz.prog A h K [.tmp 4]) (fun _ _ _ => False) (fun A h => resA Tryz.prog A h K [.tmp 4]) (aargs [s0_1, f1_1] 0) h = t64 Tryz.prog s0_1 f1_1 h K := by kernel_rfl
theorem c64 (s0_1 : Value) (f1_1 : Value) (h : Heap) (K : Value → Heap → Prop) (H : t64 Tryz.prog s0_1 f1_1 h K) : callM Tryz.prog 64 #[s0_1, f1_1] h K :=
  callM_of_wpA mixed (fn := Tryz.f64) Tryz.func64 (c := bodyOf Tryz.f64) rfl (of_decide_eq_true (by kernel_rfl)) (anOf [(26, [8])]) 17 19 (by kernel_rfl) rfl [.tmp 4] (by kernel_rfl) (args := [s0_1, f1_1]) (by rw [e64]; exact H)

/-! (impl.Graph).lengths -/
def t74 (P : Program) (g0_1 : Value) (p1_1 : Value) (h : Heap) (K : Value → Heap → Prop) : Prop :=
  eop P (Instr.box 26 g0_1) h fun g2_1 h_1 =>
  eop P (Instr.buildSlice 36 1 #[(0, (Value.int IntKind.i64 (-1)))]) h_1 fun t9_1 h_2 =>
  pop P (Instr.fieldAt 26 g2_1 0) fun t10_1 =>
  rop P (Instr.loadAt 24 t10_1) h_2 fun t11_1 =>
  pop P (lenS 24 3 t11_1) fun t12_1 =>
  callM P 88 #[t9_1, t12_1] h_2 fun t13_1 h_3 =>
  pop P (Instr.indexAt 36 t13_1 p1_1) fun t16_1 =>
  uop P (Instr.storeAt 3 t16_1 (Value.int IntKind.i64 0)) h_3 fun u_1 h_4 =>
  eop P (Instr.buildSlice 36 1 #[(0, p1_1)]) h_4 fun t18_1 h_5 =>
  ∃ (I_1 : List Value → Heap → Prop) (μ_1 : List Value → Heap → Nat), I_1 [t18_1] h_5 ∧
  ∀ (junk_1 : Nat → Value) (list6_1 : Value) (h_6 : Heap), I_1 [list6_1] h_6 →
  pop P (lenS 36 3 list6_1) fun t20_1 =>
  pop P (binA .gtr 3 t20_1 (Value.int IntKind.i64 0)) fun t21_1 =>
  condM t21_1
  (pop P (Instr.fieldAt 26 g2_1 0) fun t24_1 =>
  rop P (Instr.loadAt 24 t24_1) h_6 fun t25_1 =>
  pop P (Instr.indexAt 36 list6_1 (Value.int IntKind.i64 0)) fun t27_1 =>
  rop P (Instr.loadAt 3 t27_1) h_6 fun t28_1 =>
  pop P (Instr.indexAt 24 t25_1 t28_1) fun t29_1 =>
  rop P (Instr.loadAt 36 t29_1) h_6 fun t30_1 =>
  pop P (lenS 36 3 t30_1) fun t31_1 =>
  ∃ (I_2 : List Value → Heap → Prop) (μ_2 : List Value → Heap → Nat), I_2 [list6_1, (Value.int IntKind.i64 0)] h_6 ∧
  ∀ (junk_2 : Nat → Value) (list6_2 : Value) (t32_1 : Value) (h_7 : Heap), I_2 [list6_2, t32_1] h_7 →
  pop P (binA .lss 3 t32_1 t31_1) fun t33_1 =>
  condM t33_1
  (pop P (Instr.indexAt 36 t30_1 t32_1) fun t34_1 =>
  rop P (Instr.loadAt 3 t34_1) h_7 fun t35_1 =>
  pop P (Instr.indexAt 36 t13_1 t35_1) fun t38_1 =>
  rop P (Instr.loadAt 3 t38_1) h_7 fun t39_1 =>
  pop P (binA .lss 3 t39_1 (Value.int IntKind.i64 0)) fun t40_1 =>
  condM t40_1
  (pop P (Instr.indexAt 36 list6_2 (Value.int IntKind.i64 0)) fun t45_1 =>
  rop P (Instr.loadAt 3 t45_1) h_7 fun t46_1 =>
  pop P (Instr.indexAt 36 t13_1 t46_1) fun t47_1 =>
  rop P (Instr.loadAt 3 t47_1) h_7 fun t48_1 =>
  pop P (binA .add 3 t48_1 (Value.int IntKind.i64 1)) fun t49_1 =>
  pop P (Instr.indexAt 36 t13_1 t35_1) fun t50_1 =>
  uop P (Instr.storeAt 3 t50_1 t49_1) h_7 fun u_2 h_8 =>
  eop P (Instr.buildSlice 36 1 #[(0, t35_1)]) h_8 fun t53_1 h_9 =>
  eop P (appS 36 36 36 list6_2 t53_1) h_9 fun t54_1 h_10 =>
  pop P (binA .add 3 t32_1 (Value.int IntKind.i64 1)) fun t55_1 =>
  I_2 [t54_1, t55_1] h_10 ∧ μ_2 [t54_1, t55_1] h_10 < μ_2 [list6_2, t32_1] h_7)
  (pop P (binA .add 3 t32_1 (Value.int IntKind.i64 1)) fun t55_2 =>
  I_2 [list6_2, t55_2] h_7 ∧ μ_2 [list6_2, t55_2] h_7 < μ_2 [list6_2, t32_1] h_7))
  (pop P (Instr.sliceAt 36 list6_2 (some (Value.int IntKind.i64 1)) none none) fun t23_1 =>
  I_1 [t23_1] h_7 ∧ μ_1 [t23_1] h_7 < μ_1 [list6_1] h_6))
  (K t13_1 h_6)
theorem e74 (g0_1 : Value) (p1_1 : Value) (h : Heap) (K : Value → Heap → Prop) : wpA Tryz.prog 57 (anOf [(122, [6]), (7826, [6, 32])]) (bodyOf Tryz.f74) 1 (fun A h => resA Tryz.prog A h K [.tmp 4]) (fun _ _ _ => False) (fun A h => resA Tryz.prog A h K [.tmp 4]) (aargs [g0_1, p1_1] 0) h = t74 Tryz.prog g0_1 p1_1 h K := by kernel_rfl
theorem c74 (g0_1 : Value) (p1_1 : Value) (h : Heap) (K : Value → Heap → Prop) (H : t74 Tryz.prog g0_1 p1_1 h K) : callM Tryz.prog 74 #[g0_1, p1_1] h K :=
  callM_of_wpA mixed (fn := Tryz.f74) Tryz.func74 (c := bodyOf Tryz.f74) rfl (of_decide_eq_true (by kernel_rfl)) (anOf [(122, [6]), (7826, [6, 32])]) 55 57 (by kernel_rfl) rfl [.tmp 4] (by kernel_rfl) (args := [g0_1, p1_1]) (by rw [e74]; exact H)

/-! (*spec.l1Cur).next -/
def t75 (P : Program) (c0_1 : Value) (h : Heap) (K : Value → Heap → Prop) : Prop :=
  ∃ J_1 : List Value → Heap → Prop, (pop P (nilS c0_1) fun t5_1 =>
  pop P (Instr.fieldAt 59 t5_1 1) fun t6_1 =>
  rop P (Instr.loadAt 3 t6_1) h fun t7_1 =>
  pop P (nilS c0_1) fun t9_1 =>
  pop P (Instr.fieldAt 59 t9_1 0) fun t10_1 =>
  rop P (Instr.loadAt 22 t10_1) h fun t11_1 =>
  pop P (lenS 22 3 t11_1) fun t12_1 =>
  pop P (binA .lss 3 t7_1 t12_1) fun t13_1 =>
  condM t13_1
  (pop P (nilS c0_1) fun t15_1 =>
  pop P (Instr.fieldAt 59 t15_1 0) fun t16_1 =>
  rop P (Instr.loadAt 22 t16_1) h fun t17_1 =>
  pop P (nilS c0_1) fun t19_1 =>
  pop P (Instr.fieldAt 59 t19_1 1) fun t20_1 =>
  rop P (Instr.loadAt 3 t20_1) h fun t21_1 =>
  pop P (Instr.indexAt 22 t17_1 t21_1) fun t22_1 =>
  rop P (Instr.loadAt 5 t22_1) h fun t23_1 =>
  rop P (convert 5 3 t23_1) h fun t24_1 =>
  J_1 [t24_1] h)
  (J_1 [(Value.int IntKind.i64 0)] h)) ∧
  ∀ (junk_1 : Nat → Value) (b3_1 : Value) (h_1 : Heap), J_1 [b3_1] h_1 →
  pop P (nilS c0_1) fun t26_1 =>
  pop P (Instr.fieldAt 59 t26_1 1) fun t27_1 =>
  rop P (Instr.loadAt 3 t27_1) h_1 fun t28_1 =>
  pop P (binA .add 3 t28_1 (Value.int IntKind.i64 1)) fun t29_1 =>
  pop P (nilS c0_1) fun t30_1 =>
  pop P (Instr.fieldAt 59 t30_1 1) fun t31_1 =>
  uop P (Instr.storeAt 3 t31_1 t29_1) h_1 fun u_1 h_2 =>
  pop P (nilS c0_1) fun t34_1 =>
  pop P (Instr.fieldAt 59 t34_1 2) fun t35_1 =>
  rop P (Instr.loadAt 57 t35_1) h_2 fun t36_1 =>
  pop P (binA .mul 57 t36_1 (Value.int IntKind.u64 6364136223846793005)) fun t37_1 =>
  rop P (convert 3 57 b3_1) h_2 fun t39_1 =>
  pop P (binA .add 57 t37_1 t39_1) fun t40_1 =>
  pop P (binA .add 57 t40_1 (Value.int IntKind.u64 1442695040888963407)) fun t41_1 =>
  pop P (nilS c0_1) fun t42_1 =>
  pop P (Instr.fieldAt 59 t42_1 2) fun t43_1 =>
  uop P (Instr.storeAt 57 t43_1 t41_1) h_2 fun u_2 h_3 =>
  pop P (nilS c0_1) fun t45_1 =>
  pop P (Instr.fieldAt 59 t45_1 1) fun t46_1 =>
  rop P (Instr.loadAt 3 t46_1) h_3 fun t47_1 =>
  pop P (nilS c0_1) fun t49_1 =>
  pop P (Instr.fieldAt 59 t49_1 0) fun t50_1 =>
  rop P (Instr.loadAt 22 t50_1) h_3 fun t51_1 =>
  pop P (lenS 22 3 t51_1) fun t52_1 =>
  pop P (binA .leq 3 t47_1 t52_1) fun t53_1 =>
  condM t53_1
  (K b3_1 h_3)
  (pop P (nilS c0_1) fun t56_1 =>
  pop P (Instr.fieldAt 59 t56_1 2) fun t57_1 =>
  rop P (Instr.loadAt 57 t57_1) h_3 fun t58_1 =>
  pop P (binA .shr 57 t58_1 (Value.int IntKind.u64 40)) fun t59_1 =>
  pop P (binA .and 57 t59_1 (Value.int IntKind.u64 255)) fun t60_1 =>
  rop P (convert 57 3 t60_1) h_3 fun t61_1 =>
  K t61_1 h_3)
theorem e75 (c0_1 : Value) (h : Heap) (K : Value → Heap → Prop) : wpA Tryz.prog 62 (anOf [(7, [3])]) (bodyOf Tryz.f75) 1 (fun A h => resA Tryz.prog A h K [.tmp 2]) (fun _ _ _ => False) (fun A h => resA Tryz.prog A h K [.tmp 2]) (aargs [c0_1] 0) h = t75 Tryz.prog c0_1 h K := by kernel_rfl
theorem c75 (c0_1 : Value) (h : Heap) (K : Value → Heap → Prop) (H : t75 Tryz.prog c0_1 h K) : callM Tryz.prog 75 #[c0_1] h K :=
  callM_of_wpA mixed (fn := Tryz.f75) Tryz.func75 (c := bodyOf Tryz.f75) rfl (of_decide_eq_true (by kernel_rfl)) (anOf [(7, [3])]) 61 62 (by kernel_rfl) rfl [.tmp 2] (by kernel_rfl) (args := [c0_1]) (by rw [e75]; exact H)

/-! slices.Repeat[[]int,int] -/
def t88 (P : Program) (x0_1 : Value) (count1_1 : Value) (h : Heap) (K : Value → Heap → Prop) : Prop :=
  ∃ J_1 : List Value → Heap → Prop, (pop P (binA .lss 3 count1_1 (Value.int IntKind.i64 0)) fun t10_1 =>
  condM t10_1
  (pop P (Instr.makeInterface 9 (Value.string { data := #[99, 97, 110, 110, 111, 116, 32, 98, 101, 32, 110, 101, 103, 97, 116, 105, 118, 101] })) fun t11_1 =>
  False)
  (J_1 [] h)) ∧
  ∀ (junk_1 : Nat → Value) (h_1 : Heap), J_1 [] h_1 →
  pop P (lenS 36 3 x0_1) fun t14_1 =>
  rop P (convert 3 101 t14_1) h_1 fun t15_1 =>
  rop P (convert 3 101 count1_1) h_1 fun t17_1 =>
  callM P 103 #[t15_1, t17_1] h_1 fun t18_1 h_2 =>
  pop P (Instr.extract t18_1 0) fun t19_1 =>
  pop P (Instr.extract t18_1 1) fun t20_1 =>
  ∃ J_2 : List Value → Heap → Prop, (pop P (binA .gtr 101 t19_1 (Value.int IntKind.u64 0)) fun t22_1 =>
  guardM (asG t22_1 false) false (fun k_1 => k_1 t20_1 h_2) h_2 fun t24_1 h_3 =>
  guardM (asG t22_1 false) false (fun k_2 => pop P (binA .gtr 101 t24_1 (Value.int IntKind.u64 9223372036854775807)) fun t25_1 =>
  k_2 t25_1 h_3) h_3 fun t25_2 h_4 =>
  pop P (pickS t22_1 (Value.bool true) t25_2) fun t26_1 =>
  condM t26_1
  (pop P (Instr.makeInterface 9 (Value.string { data := #[116, 104, 101, 32, 114, 101, 115, 117, 108, 116, 32, 111, 102, 32, 40, 108, 101, 110, 40, 120, 41, 32, 42, 32, 99, 111, 117, 110, 116, 41, 32, 111, 118, 101, 114, 102, 108, 111, 119, 115] })) fun t27_1 =>
  False)
  (J_2 [] h_4)) ∧
  ∀ (junk_2 : Nat → Value) (h_5 : Heap), J_2 [] h_5 →
  rop P (convert 101 3 t20_1) h_5 fun t29_1 =>
  eop P (Instr.makeSlice 36 t29_1 t29_1) h_5 fun t30_1 h_6 =>
  eop P (Builtin.copy_ #[36, 36] 3 #[t30_1, x0_1]) h_6 fun t33_1 h_7 =>
  ∃ (I_1 : List Value → Heap → Prop) (μ_1 : List Value → Heap → Nat), I_1 [t33_1] h_7 ∧
  ∀ (junk_3 : Nat → Value) (n8_1 : Value) (h_8 : Heap), I_1 [n8_1] h_8 →
  pop P (lenS 36 3 t30_1) fun t36_1 =>
  pop P (binA .lss 3 n8_1 t36_1) fun t37_1 =>
  condM t37_1
  (pop P (Instr.sliceAt 36 t30_1 (some n8_1) none none) fun t41_1 =>
  pop P (Instr.sliceAt 36 t30_1 none (some n8_1) none) fun t44_1 =>
  eop P (Builtin.copy_ #[36, 36] 3 #[t41_1, t44_1]) h_8 fun t45_1 h_9 =>
  pop P (binA .add 3 n8_1 t45_1) fun t46_1 =>
  I_1 [t46_1] h_9 ∧ μ_1 [t46_1] h_9 < μ_1 [n8_1] h_8)
  (K t30_1 h_8)
theorem e88 (x0_1 : Value) (count1_1 : Value) (h : Heap) (K : Value → Heap → Prop) : wpA Tryz.prog 48 (anOf [(3, []), (15, []), (508, [8])]) (bodyOf Tryz.f88) 1 (fun A h => resA Tryz.prog A h K [.tmp 4]) (fun _ _ _ => False) (fun A h => resA Tryz.prog A h K [.tmp 4]) (aargs [x0_1, count1_1] 0) h = t88 Tryz.prog x0_1 count1_1 h K := by kernel_rfl
theorem c88 (x0_1 : Value) (count1_1 : Value) (h : Heap) (K : Value → Heap → Prop) (H : t88 Tryz.prog x0_1 count1_1 h K) : callM Tryz.prog 88 #[x0_1, count1_1] h K :=
  callM_of_wpA mixed (fn := Tryz.f88) Tryz.func88 (c := bodyOf Tryz.f88) rfl (of_decide_eq_true (by kernel_rfl)) (anOf [(3, []), (15, []), (508, [8])]) 46 48 (by kernel_rfl) rfl [.tmp 4] (by kernel_rfl) (args := [x0_1, count1_1]) (by rw [e88]; exact H)

/-! math/bits.Mul -/
def t103 (P : Program) (x0_1 : Value) (y1_1 : Value) (h : Heap) (K : Value → Heap → Prop) : Prop :=
  condM (Value.bool false)
  (rop P (convert 101 122 x0_1) h fun t12_1 =>
  rop P (convert 101 122 y1_1) h fun t14_1 =>
  callM P 113 #[t12_1, t14_1] h fun t15_1 h_1 =>
  pop P (Instr.extract t15_1 0) fun t16_1 =>
  pop P (Instr.extract t15_1 1) fun t17_1 =>
  rop P (convert 122 101 t16_1) h_1 fun t19_1 =>
  rop P (convert 122 101 t17_1) h_1 fun t21_1 =>
  K (.tuple #[t19_1, t21_1]) h_1)
  (callM P 114 #[x0_1, y1_1] h fun t25_1 h_2 =>
  pop P (Instr.extract t25_1 0) fun t26_1 =>
  pop P (Instr.extract t25_1 1) fun t27_1 =>
  K (.tuple #[t26_1, t27_1]) h_2)
theorem e103 (x0_1 : Value) (y1_1 : Value) (h : Heap) (K : Value → Heap → Prop) : wpA Tryz.prog 30 (anOf []) (bodyOf Tryz.f103) 1 (fun A h => resA Tryz.prog A h K [.tmp 4, .tmp 5]) (fun _ _ _ => False) (fun A h => resA Tryz.prog A h K [.tmp 4, .tmp 5]) (aargs [x0_1, y1_1] 0) h = t103 Tryz.prog x0_1 y1_1 h K := by kernel_rfl
theorem c103 (x0_1 : Value) (y1_1 : Value) (h : Heap) (K : Value → Heap → Prop) (H : t103 Tryz.prog x0_1 y1_1 h K) : callM Tryz.prog 103 #[x0_1, y1_1] h K :=
  callM_of_wpA mixed (fn := Tryz.f103) Tryz.func103 (c := bodyOf Tryz.f103) rfl (of_decide_eq_true (by kernel_rfl)) (anOf []) 28 30 (by kernel_rfl) rfl [.tmp 4, .tmp 5] (by kernel_rfl) (args := [x0_1, y1_1]) (by rw [e103]; exact H)

/-! math/bits.Mul32 -/
def t113 (P : Program) (x0_1 : Value) (y1_1 : Value) (h : Heap) (K : Value → Heap → Prop) : Prop :=
  rop P (convert 122 57 x0_1) h fun t8_1 =>
  rop P (convert 122 57 y1_1) h fun t10_1 =>
  pop P (binA .mul 57 t8_1 t10_1) fun t11_1 =>
  pop P (binA .shr 57 t11_1 (Value.int IntKind.u64 32)) fun t13_1 =>
  rop P (convert 57 122 t13_1) h fun t14_1 =>
  rop P (convert 57 122 t11_1) h fun t16_1 =>
  K (.tuple #[t14_1, t16_1]) h
theorem e113 (x0_1 : Value) (y1_1 : Value) (h : Heap) (K : Value → Heap → Prop) : wpA Tryz.prog 17 (anOf []) (bodyOf Tryz.f113) 1 (fun A h => resA Tryz.prog A h K [.tmp 4, .tmp 5]) (fun _ _ _ => False) (fun A h => resA Tryz.prog A h K [.tmp 4, .tmp 5]) (aargs [x0_1, y1_1] 0) h = t113 Tryz.prog x0_1 y1_1 h K := by kernel_rfl
theorem c113 (x0_1 : Value) (y1_1 : Value) (h : Heap) (K : Value → Heap → Prop) (H : t113 Tryz.prog x0_1 y1_1 h K) : callM Tryz.prog 113 #[x0_1, y1_1] h K :=
  callM_of_wpA mixed (fn := Tryz.f113) Tryz.func113 (c := bodyOf Tryz.f113) rfl (of_decide_eq_true (by kernel_rfl)) (anOf []) 15 17 (by kernel_rfl) rfl [.tmp 4, .tmp 5] (by kernel_rfl) (args := [x0_1, y1_1]) (by rw [e113]; exact H)

/-! math/bits.Mul64 -/
def t114 (P : Program) (x0_1 : Value) (y1_1 : Value) (h : Heap) (K : Value → Heap → Prop) : Prop :=
  pop P (binA .and 57 x0_1 (Value.int IntKind.u64 4294967295)) fun t15_1 =>
  pop P (binA .shr 57 x0_1 (Value.int IntKind.u64 32)) fun t17_1 =>
  pop P (binA .and 57 y1_1 (Value.int IntKind.u64 4294967295)) fun t19_1 =>
  pop P (binA .shr 57 y1_1 (Value.int IntKind.u64 32)) fun t21_1 =>
  pop P (binA .mul 57 t15_1 t19_1) fun t24_1 =>
  pop P (binA .mul 57 t17_1 t19_1) fun t27_1 =>
  pop P (binA .shr 57 t24_1 (Value.int IntKind.u64 32)) fun t29_1 =>
  pop P (binA .add 57 t27_1 t29_1) fun t30_1 =>
  pop P (binA .and 57 t30_1 (Value.int IntKind.u64 4294967295)) fun t32_1 =>
  pop P (binA .shr 57 t30_1 (Value.int IntKind.u64 32)) fun t34_1 =>
  pop P (binA .mul 57 t15_1 t21_1) fun t38_1 =>
  pop P (binA .add 57 t32_1 t38_1) fun t39_1 =>
  pop P (binA .mul 57 t17_1 t21_1) fun t42_1 =>
  pop P (binA .add 57 t42_1 t34_1) fun t44_1 =>
  pop P (binA .shr 57 t39_1 (Value.int IntKind.u64 32)) fun t46_1 =>
  pop P (binA .add 57 t44_1 t46_1) fun t47_1 =>
  pop P (binA .mul 57 x0_1 y1_1) fun t50_1 =>
  K (.tuple #[t47_1, t50_1]) h
theorem e114 (x0_1 : Value) (y1_1 : Value) (h : Heap) (K : Value → Heap → Prop) : wpA Tryz.prog 51 (anOf []) (bodyOf Tryz.f114) 1 (fun A h => resA Tryz.prog A h K [.tmp 4, .tmp 5]) (fun _ _ _ => False) (fun A h => resA Tryz.prog A h K [.tmp 4, .tmp 5]) (aargs [x0_1, y1_1] 0) h = t114 Tryz.prog x0_1 y1_1 h K := by kernel_rfl
theorem c114 (x0_1 : Value) (y1_1 : Value) (h : Heap) (K : Value → Heap → Prop) (H : t114 Tryz.prog x0_1 y1_1 h K) : callM Tryz.prog 114 #[x0_1, y1_1] h K :=
  callM_of_wpA mixed (fn := Tryz.f114) Tryz.func114 (c := bodyOf Tryz.f114) rfl (of_decide_eq_true (by kernel_rfl)) (anOf []) 49 51 (by kernel_rfl) rfl [.tmp 4, .tmp 5] (by kernel_rfl) (args := [x0_1, y1_1]) (by rw [e114]; exact H)

end Go.Proofs.YtgiamamfnpklkaaGreatDoor
