/-
  What each function that the law 'FnGraphsChanged' comes to asks of the heap, named; tied to the loaded program by the kernel. Written by a program.
-/
import Derived.Test.YtbhnecochpehdaaProg
import Derived.Test.YtbhnecochpehdaaM1
set_option linter.unusedVariables false
namespace Go.Proofs.Ytbhnecochpehdaa
open Go Go.Mx
theorem mixed : Try.prog.follows .mixedOrders = true := by kernel_rfl
/-! laws.FnGraphsChanged -/
def t8 (P : Program) (code0_1 : Value) (more1_1 : Value) (h : Heap) (K : Value → Heap → Prop) : Prop :=
  callM P 32 #[code0_1, more1_1] h fun t45_1 h_1 =>
  condM t45_1
  (K (Value.bool true) h_1)
  (callM P 55 #[code0_1] h_1 fun t48_1 h_2 =>
  pop P (Instr.extract t48_1 0) fun t49_1 =>
  pop P (Instr.extract t48_1 1) fun t50_1 =>
  pop P (Instr.extract t48_1 2) fun t51_1 =>
  eop P (Instr.alloc 32 true (.tuple #[])) h_2 fun g5_1 h_3 =>
  uop P (Instr.storeAt 32 g5_1 t49_1) h_3 fun u_1 h_4 =>
  rop P (Instr.loadAt 32 g5_1) h_4 fun t53_1 =>
  callM P 56 #[t53_1, t50_1, t51_1] h_4 fun t56_1 h_5 =>
  pop P (Instr.extract t56_1 0) fun t57_1 =>
  pop P (Instr.extract t56_1 1) fun t58_1 =>
  eop P (Instr.alloc 32 true (.tuple #[])) h_5 fun turned8_1 h_6 =>
  uop P (Instr.storeAt 32 turned8_1 t57_1) h_6 fun u_2 h_7 =>
  rop P (Instr.loadAt 32 g5_1) h_7 fun t60_1 =>
  callM P 57 #[t60_1, t50_1, t51_1] h_7 fun t63_1 h_8 =>
  pop P (Instr.extract t63_1 0) fun t64_1 =>
  pop P (Instr.extract t63_1 1) fun t65_1 =>
  eop P (Instr.alloc 32 true (.tuple #[])) h_8 fun right10_1 h_9 =>
  uop P (Instr.storeAt 32 right10_1 t64_1) h_9 fun u_3 h_10 =>
  pop P (binE .neq 4 (.tmp 66) (.tmp 67) t58_1 t65_1) fun t68_1 =>
  guardM t68_1 false (fun k_1 => rop P (Instr.loadAt 32 turned8_1) h_10 fun t70_1 =>
  k_1 t70_1 h_10) h_10 fun t70_2 h_11 =>
  guardM t68_1 false (fun k_2 => rop P (Instr.loadAt 32 right10_1) h_11 fun t71_1 =>
  k_2 t71_1 h_11) h_11 fun t71_2 h_12 =>
  guardM t68_1 false (fun k_3 => callM P 58 #[t70_2, t71_2] h_12 fun t72_1 h_13 =>
  k_3 t72_1 h_13) h_12 fun t72_2 h_14 =>
  guardM t68_1 false (fun k_4 => pop P (Op.unary .not t72_2) fun t73_1 =>
  k_4 t73_1 h_14) h_14 fun t73_2 h_15 =>
  pop P (pickS t68_1 (Value.bool true) t73_2) fun t74_1 =>
  condM t74_1
  (K (Value.bool false) h_15)
  (∃ J_1 : List Value → Heap → Prop, (condM t58_1
  (pop P (Instr.fieldAt 32 g5_1 0) fun t76_1 =>
  rop P (Instr.loadAt 22 t76_1) h_15 fun t77_1 =>
  pop P (Instr.indexAt 22 t77_1 t50_1) fun t79_1 =>
  rop P (Instr.loadAt 25 t79_1) h_15 fun t80_1 =>
  pop P (lenS 25 3 t80_1) fun t81_1 =>
  pop P (binA .gtr 3 t81_1 (Value.int IntKind.i64 0)) fun t83_1 =>
  condM t83_1
  (∃ J_2 : List Value → Heap → Prop, (rop P (Instr.loadAt 32 turned8_1) h_15 fun t85_1 =>
  pop P (binA .rem 3 t51_1 t81_1) fun t90_1 =>
  pop P (binA .sub 3 t81_1 t90_1) fun t91_1 =>
  (callM P 56 #[t85_1, t50_1, t91_1] h_15 fun t92_1 h_16 =>
  pop P (Instr.extract t92_1 0) fun t93_1 =>
  pop P (Instr.extract t92_1 1) fun t94_1 =>
  eop P (Instr.alloc 32 true (.tuple #[])) h_16 fun back13_1 h_17 =>
  uop P (Instr.storeAt 32 back13_1 t93_1) h_17 fun u_4 h_18 =>
  J_2 [back13_1, t94_1] h_18) ∧
  (eop P (Instr.alloc 32 true (.tuple #[])) h_15 fun back13_2 h_19 =>
  (∀ w : World, w.heap = h_19 → (Instr.loadAt 32 turned8_1).run P w = .ok t85_1 w) ∧
  callM P 56 #[t85_1, t50_1, t91_1] h_19 fun t92_2 h_20 =>
  pop P (Instr.extract t92_2 0) fun t93_2 =>
  pop P (Instr.extract t92_2 1) fun t94_2 =>
  uop P (Instr.storeAt 32 back13_2 t93_2) h_20 fun u_5 h_21 =>
  J_2 [back13_2, t94_2] h_21)) ∧
  ∀ (junk_1 : Nat → Value) (back13_3 : Value) (one14_1 : Value) (h_22 : Heap), J_2 [back13_3, one14_1] h_22 →
  pop P (Op.unary .not one14_1) fun t96_1 =>
  guardM t96_1 false (fun k_5 => rop P (Instr.loadAt 32 back13_3) h_22 fun t98_1 =>
  k_5 t98_1 h_22) h_22 fun t98_2 h_23 =>
  guardM t96_1 false (fun k_6 => rop P (Instr.loadAt 32 g5_1) h_23 fun t99_1 =>
  k_6 t99_1 h_23) h_23 fun t99_2 h_24 =>
  guardM t96_1 false (fun k_7 => callM P 58 #[t98_2, t99_2] h_24 fun t100_1 h_25 =>
  k_7 t100_1 h_25) h_24 fun t100_2 h_26 =>
  guardM t96_1 false (fun k_8 => pop P (Op.unary .not t100_2) fun t101_1 =>
  k_8 t101_1 h_26) h_26 fun t101_2 h_27 =>
  pop P (pickS t96_1 (Value.bool true) t101_2) fun t102_1 =>
  guardM t102_1 false (fun k_9 => pop P (Instr.fieldAt 32 turned8_1 0) fun t104_1 =>
  k_9 t104_1 h_27) h_27 fun t104_2 h_28 =>
  guardM t102_1 false (fun k_10 => rop P (Instr.loadAt 22 t104_2) h_28 fun t105_1 =>
  k_10 t105_1 h_28) h_28 fun t105_2 h_29 =>
  guardM t102_1 false (fun k_11 => k_11 t50_1 h_29) h_29 fun t106_1 h_30 =>
  guardM t102_1 false (fun k_12 => pop P (Instr.indexAt 22 t105_2 t106_1) fun t107_1 =>
  k_12 t107_1 h_30) h_30 fun t107_2 h_31 =>
  guardM t102_1 false (fun k_13 => rop P (Instr.loadAt 25 t107_2) h_31 fun t108_1 =>
  k_13 t108_1 h_31) h_31 fun t108_2 h_32 =>
  guardM t102_1 false (fun k_14 => pop P (Instr.indexAt 25 t108_2 (Value.int IntKind.i64 0)) fun t109_1 =>
  k_14 t109_1 h_32) h_32 fun t109_2 h_33 =>
  guardM t102_1 false (fun k_15 => rop P (Instr.loadAt 3 t109_2) h_33 fun t110_1 =>
  k_15 t110_1 h_33) h_33 fun t110_2 h_34 =>
  guardM t102_1 false (fun k_16 => pop P (Instr.fieldAt 32 g5_1 0) fun t111_1 =>
  k_16 t111_1 h_34) h_34 fun t111_2 h_35 =>
  guardM t102_1 false (fun k_17 => rop P (Instr.loadAt 22 t111_2) h_35 fun t112_1 =>
  k_17 t112_1 h_35) h_35 fun t112_2 h_36 =>
  guardM t102_1 false (fun k_18 => k_18 t50_1 h_36) h_36 fun t113_1 h_37 =>
  guardM t102_1 false (fun k_19 => pop P (Instr.indexAt 22 t112_2 t113_1) fun t114_1 =>
  k_19 t114_1 h_37) h_37 fun t114_2 h_38 =>
  guardM t102_1 false (fun k_20 => rop P (Instr.loadAt 25 t114_2) h_38 fun t115_1 =>
  k_20 t115_1 h_38) h_38 fun t115_2 h_39 =>
  guardM t102_1 false (fun k_21 => k_21 t51_1 h_39) h_39 fun t116_1 h_40 =>
  guardM t102_1 false (fun k_22 => k_22 t81_1 h_40) h_40 fun t117_1 h_41 =>
  guardM t102_1 false (fun k_23 => pop P (binA .rem 3 t116_1 t117_1) fun t118_1 =>
  k_23 t118_1 h_41) h_41 fun t118_2 h_42 =>
  guardM t102_1 false (fun k_24 => pop P (Instr.indexAt 25 t115_2 t118_2) fun t119_1 =>
  k_24 t119_1 h_42) h_42 fun t119_2 h_43 =>
  guardM t102_1 false (fun k_25 => rop P (Instr.loadAt 3 t119_2) h_43 fun t120_1 =>
  k_25 t120_1 h_43) h_43 fun t120_2 h_44 =>
  guardM t102_1 false (fun k_26 => pop P (binE .neq 3 (.tmp 110) (.tmp 120) t110_2 t120_2) fun t121_1 =>
  k_26 t121_1 h_44) h_44 fun t121_2 h_45 =>
  pop P (pickS t102_1 (Value.bool true) t121_2) fun t122_1 =>
  condM t122_1
  (K (Value.bool false) h_45)
  (J_1 [] h_45))
  (rop P (Instr.loadAt 32 turned8_1) h_15 fun t123_1 =>
  rop P (Instr.loadAt 32 g5_1) h_15 fun t124_1 =>
  callM P 58 #[t123_1, t124_1] h_15 fun t125_1 h_46 =>
  pop P (Op.unary .not t125_1) fun t126_1 =>
  condM t126_1
  (K (Value.bool false) h_46)
  (J_1 [] h_46)))
  (J_1 [] h_15)) ∧
  ∀ (junk_2 : Nat → Value) (h_47 : Heap), J_1 [] h_47 →
  callM P 59 #[more1_1] h_47 fun t129_1 h_48 =>
  pop P (Instr.extract t129_1 0) fun t130_1 =>
  pop P (Instr.extract t129_1 1) fun t131_1 =>
  pop P (Instr.extract t129_1 2) fun t132_1 =>
  eop P (Instr.alloc 32 true (.tuple #[])) h_48 fun h15_1 h_49 =>
  uop P (Instr.storeAt 32 h15_1 t130_1) h_49 fun u_6 h_50 =>
  rop P (Instr.loadAt 32 h15_1) h_50 fun t134_1 =>
  callM P 60 #[t134_1, t131_1, t132_1] h_50 fun t137_1 h_51 =>
  pop P (Instr.extract t137_1 0) fun t138_1 =>
  pop P (Instr.extract t137_1 1) fun t139_1 =>
  eop P (Instr.alloc 32 true (.tuple #[])) h_51 fun more218_1 h_52 =>
  uop P (Instr.storeAt 32 more218_1 t138_1) h_52 fun u_7 h_53 =>
  rop P (Instr.loadAt 32 h15_1) h_53 fun t141_1 =>
  callM P 61 #[t141_1, t131_1, t132_1] h_53 fun t144_1 h_54 =>
  pop P (Instr.extract t144_1 0) fun t145_1 =>
  pop P (Instr.extract t144_1 1) fun t146_1 =>
  eop P (Instr.alloc 32 true (.tuple #[])) h_54 fun want20_1 h_55 =>
  uop P (Instr.storeAt 32 want20_1 t145_1) h_55 fun u_8 h_56 =>
  pop P (binE .neq 4 (.tmp 147) (.tmp 148) t139_1 t146_1) fun t149_1 =>
  guardM t149_1 false (fun k_27 => rop P (Instr.loadAt 32 more218_1) h_56 fun t151_1 =>
  k_27 t151_1 h_56) h_56 fun t151_2 h_57 =>
  guardM t149_1 false (fun k_28 => rop P (Instr.loadAt 32 want20_1) h_57 fun t152_1 =>
  k_28 t152_1 h_57) h_57 fun t152_2 h_58 =>
  guardM t149_1 false (fun k_29 => callM P 58 #[t151_2, t152_2] h_58 fun t153_1 h_59 =>
  k_29 t153_1 h_59) h_58 fun t153_2 h_60 =>
  guardM t149_1 false (fun k_30 => pop P (Op.unary .not t153_2) fun t154_1 =>
  k_30 t154_1 h_60) h_60 fun t154_2 h_61 =>
  pop P (pickS t149_1 (Value.bool true) t154_2) fun t155_1 =>
  condM t155_1
  (K (Value.bool false) h_61)
  (∃ J_3 : List Value → Heap → Prop, (condM t139_1
  (rop P (Instr.loadAt 32 h15_1) h_61 fun t158_1 =>
  callM P 62 #[t158_1] h_61 fun t159_1 h_62 =>
  pop P (Instr.extract t159_1 0) fun t160_1 =>
  pop P (Instr.extract t159_1 1) fun t161_1 =>
  rop P (Instr.loadAt 32 more218_1) h_62 fun t163_1 =>
  callM P 62 #[t163_1] h_62 fun t164_1 h_63 =>
  pop P (Instr.extract t164_1 0) fun t165_1 =>
  pop P (Instr.extract t164_1 1) fun t166_1 =>
  rop P (Instr.loadAt 32 h15_1) h_63 fun t168_1 =>
  callM P 63 #[t168_1, t132_1] h_63 fun t170_1 h_64 =>
  pop P (Instr.extract t170_1 0) fun t171_1 =>
  pop P (Instr.extract t170_1 1) fun t172_1 =>
  rop P (Instr.loadAt 32 more218_1) h_64 fun t174_1 =>
  callM P 63 #[t174_1, t132_1] h_64 fun t176_1 h_65 =>
  pop P (Instr.extract t176_1 0) fun t177_1 =>
  pop P (Instr.extract t176_1 1) fun t178_1 =>
  pop P (Op.unary .not t161_1) fun t180_1 =>
  guardM t180_1 false (fun k_31 => k_31 t166_1 h_65) h_65 fun t182_1 h_66 =>
  guardM t180_1 false (fun k_32 => pop P (Op.unary .not t182_1) fun t183_1 =>
  k_32 t183_1 h_66) h_66 fun t183_2 h_67 =>
  pop P (pickS t180_1 (Value.bool true) t183_2) fun t184_1 =>
  guardM t184_1 false (fun k_33 => k_33 t165_1 h_67) h_67 fun t186_1 h_68 =>
  guardM t184_1 false (fun k_34 => k_34 t160_1 h_68) h_68 fun t187_1 h_69 =>
  guardM t184_1 false (fun k_35 => pop P (binA .add 3 t187_1 (Value.int IntKind.i64 1)) fun t188_1 =>
  k_35 t188_1 h_69) h_69 fun t188_2 h_70 =>
  guardM t184_1 false (fun k_36 => pop P (binE .neq 3 (.tmp 186) (.tmp 188) t186_1 t188_2) fun t189_1 =>
  k_36 t189_1 h_70) h_70 fun t189_2 h_71 =>
  pop P (pickS t184_1 (Value.bool true) t189_2) fun t190_1 =>
  guardM t190_1 false (fun k_37 => k_37 t172_1 h_71) h_71 fun t192_1 h_72 =>
  guardM t190_1 false (fun k_38 => pop P (Op.unary .not t192_1) fun t193_1 =>
  k_38 t193_1 h_72) h_72 fun t193_2 h_73 =>
  pop P (pickS t190_1 (Value.bool true) t193_2) fun t194_1 =>
  guardM t194_1 false (fun k_39 => k_39 t178_1 h_73) h_73 fun t196_1 h_74 =>
  guardM t194_1 false (fun k_40 => pop P (Op.unary .not t196_1) fun t197_1 =>
  k_40 t197_1 h_74) h_74 fun t197_2 h_75 =>
  pop P (pickS t194_1 (Value.bool true) t197_2) fun t198_1 =>
  guardM t198_1 false (fun k_41 => k_41 t177_1 h_75) h_75 fun t200_1 h_76 =>
  guardM t198_1 false (fun k_42 => k_42 t171_1 h_76) h_76 fun t201_1 h_77 =>
  guardM t198_1 false (fun k_43 => pop P (binA .add 3 t201_1 (Value.int IntKind.i64 1)) fun t202_1 =>
  k_43 t202_1 h_77) h_77 fun t202_2 h_78 =>
  guardM t198_1 false (fun k_44 => pop P (binE .neq 3 (.tmp 200) (.tmp 202) t200_1 t202_2) fun t203_1 =>
  k_44 t203_1 h_78) h_78 fun t203_2 h_79 =>
  pop P (pickS t198_1 (Value.bool true) t203_2) fun t204_1 =>
  condM t204_1
  (K (Value.bool false) h_79)
  (J_3 [] h_79))
  (J_3 [] h_61)) ∧
  ∀ (junk_3 : Nat → Value) (h_80 : Heap), J_3 [] h_80 →
  callM P 64 #[more1_1] h_80 fun t207_1 h_81 =>
  pop P (Instr.extract t207_1 0) fun t208_1 =>
  pop P (Instr.extract t207_1 1) fun t209_1 =>
  callM P 65 #[t208_1, t209_1] h_81 fun t213_1 h_82 =>
  pop P (Instr.extract t213_1 0) fun t214_1 =>
  pop P (Instr.extract t213_1 1) fun t215_1 =>
  eop P (Instr.alloc 32 true (.tuple #[])) h_82 fun cycle32_1 h_83 =>
  uop P (Instr.storeAt 32 cycle32_1 t214_1) h_83 fun u_9 h_84 =>
  callM P 66 #[t208_1, t209_1] h_84 fun t219_1 h_85 =>
  pop P (Instr.extract t219_1 0) fun t220_1 =>
  pop P (Instr.extract t219_1 1) fun t221_1 =>
  eop P (Instr.alloc 32 true (.tuple #[])) h_85 fun model34_1 h_86 =>
  uop P (Instr.storeAt 32 model34_1 t220_1) h_86 fun u_10 h_87 =>
  pop P (binE .neq 4 (.tmp 222) (.tmp 223) t215_1 t221_1) fun t224_1 =>
  guardM t224_1 false (fun k_45 => rop P (Instr.loadAt 32 cycle32_1) h_87 fun t226_1 =>
  k_45 t226_1 h_87) h_87 fun t226_2 h_88 =>
  guardM t224_1 false (fun k_46 => rop P (Instr.loadAt 32 model34_1) h_88 fun t227_1 =>
  k_46 t227_1 h_88) h_88 fun t227_2 h_89 =>
  guardM t224_1 false (fun k_47 => callM P 58 #[t226_2, t227_2] h_89 fun t228_1 h_90 =>
  k_47 t228_1 h_90) h_89 fun t228_2 h_91 =>
  guardM t224_1 false (fun k_48 => pop P (Op.unary .not t228_2) fun t229_1 =>
  k_48 t229_1 h_91) h_91 fun t229_2 h_92 =>
  pop P (pickS t224_1 (Value.bool true) t229_2) fun t230_1 =>
  condM t230_1
  (K (Value.bool false) h_92)
  (condM t215_1
  (rop P (Instr.loadAt 32 cycle32_1) h_92 fun t233_1 =>
  callM P 67 #[t233_1] h_92 fun t234_1 h_93 =>
  pop P (Instr.extract t234_1 0) fun t235_1 =>
  pop P (Instr.extract t234_1 1) fun t236_1 =>
  rop P (Instr.loadAt 32 cycle32_1) h_93 fun t238_1 =>
  callM P 68 #[t238_1] h_93 fun t239_1 h_94 =>
  pop P (Instr.extract t239_1 0) fun t240_1 =>
  pop P (Instr.extract t239_1 1) fun t241_1 =>
  rop P (Instr.loadAt 32 cycle32_1) h_94 fun t243_1 =>
  callM P 62 #[t243_1] h_94 fun t244_1 h_95 =>
  pop P (Instr.extract t244_1 0) fun t245_1 =>
  pop P (Instr.extract t244_1 1) fun t246_1 =>
  ∃ J_4 : List Value → Heap → Prop, (condM t209_1
  (pop P (binA .mul 3 (Value.int IntKind.i64 2) t208_1) fun t250_1 =>
  J_4 [t250_1] h_95)
  (J_4 [t208_1] h_95)) ∧
  ∀ (junk_4 : Nat → Value) (due42_1 : Value) (h_96 : Heap), J_4 [due42_1] h_96 →
  guardM t236_1 true (fun k_49 => k_49 t235_1 h_96) h_96 fun t253_1 h_97 =>
  pop P (pickS t236_1 t253_1 (Value.bool false)) fun t254_1 =>
  guardM t254_1 true (fun k_50 => k_50 t241_1 h_97) h_97 fun t256_1 h_98 =>
  pop P (pickS t254_1 t256_1 (Value.bool false)) fun t257_1 =>
  guardM t257_1 true (fun k_51 => k_51 t240_1 h_98) h_98 fun t259_1 h_99 =>
  pop P (pickS t257_1 t259_1 (Value.bool false)) fun t260_1 =>
  guardM t260_1 true (fun k_52 => k_52 t246_1 h_99) h_99 fun t262_1 h_100 =>
  pop P (pickS t260_1 t262_1 (Value.bool false)) fun t263_1 =>
  guardM t263_1 true (fun k_53 => k_53 t245_1 h_100) h_100 fun t265_1 h_101 =>
  guardM t263_1 true (fun k_54 => k_54 due42_1 h_101) h_101 fun t266_1 h_102 =>
  guardM t263_1 true (fun k_55 => pop P (binE .eql 3 (.tmp 265) (.tmp 266) t265_1 t266_1) fun t267_1 =>
  k_55 t267_1 h_102) h_102 fun t267_2 h_103 =>
  pop P (pickS t263_1 t267_2 (Value.bool false)) fun t268_1 =>
  K t268_1 h_103)
  (K (Value.bool true) h_92)))))
theorem e8 (code0_1 : Value) (more1_1 : Value) (h : Heap) (K : Value → Heap → Prop) : wpA Try.prog 269 (anOf [(127, []), (4095, []), (8150, [13, 14]), (16777135, [42])]) (bodyOf Try.f8) 1 (fun A h => resA Try.prog A h K [.tmp 4]) (fun _ _ _ => False) (fun A h => resA Try.prog A h K [.tmp 4]) (aargs [code0_1, more1_1] 0) h = t8 Try.prog code0_1 more1_1 h K := by kernel_rfl
theorem c8 (code0_1 : Value) (more1_1 : Value) (h : Heap) (K : Value → Heap → Prop) (H : t8 Try.prog code0_1 more1_1 h K) : callM Try.prog 8 #[code0_1, more1_1] h K :=
  callM_of_wpA mixed (fn := Try.f8) Try.func8 (c := bodyOf Try.f8) rfl (of_decide_eq_true (by kernel_rfl)) (anOf [(127, []), (4095, []), (8150, [13, 14]), (16777135, [42])]) 267 269 (by kernel_rfl) rfl [.tmp 4] (by kernel_rfl) (args := [code0_1, more1_1]) (by rw [e8]; exact H)

/-! laws.big -/
def t32 (P : Program) (code0_1 : Value) (more1_1 : Value) (h : Heap) (K : Value → Heap → Prop) : Prop :=
  pop P (lenS 55 3 code0_1) fun t6_1 =>
  pop P (binA .gtr 3 t6_1 (Value.int IntKind.i64 1048576)) fun t7_1 =>
  guardM t7_1 false (fun k_1 => k_1 more1_1 h) h fun t9_1 h_1 =>
  guardM t7_1 false (fun k_2 => pop P (lenS 55 3 t9_1) fun t10_1 =>
  k_2 t10_1 h_1) h_1 fun t10_2 h_2 =>
  guardM t7_1 false (fun k_3 => k_3 code0_1 h_2) h_2 fun t11_1 h_3 =>
  guardM t7_1 false (fun k_4 => pop P (lenS 55 3 t11_1) fun t12_1 =>
  k_4 t12_1 h_3) h_3 fun t12_2 h_4 =>
  guardM t7_1 false (fun k_5 => pop P (binA .sub 3 (Value.int IntKind.i64 1048576) t12_2) fun t13_1 =>
  k_5 t13_1 h_4) h_4 fun t13_2 h_5 =>
  guardM t7_1 false (fun k_6 => pop P (binA .gtr 3 t10_2 t13_2) fun t14_1 =>
  k_6 t14_1 h_5) h_5 fun t14_2 h_6 =>
  pop P (pickS t7_1 (Value.bool true) t14_2) fun t15_1 =>
  K t15_1 h_6
theorem e32 (code0_1 : Value) (more1_1 : Value) (h : Heap) (K : Value → Heap → Prop) : wpA Try.prog 16 (anOf []) (bodyOf Try.f32) 1 (fun A h => resA Try.prog A h K [.tmp 4]) (fun _ _ _ => False) (fun A h => resA Try.prog A h K [.tmp 4]) (aargs [code0_1, more1_1] 0) h = t32 Try.prog code0_1 more1_1 h K := by kernel_rfl
theorem c32 (code0_1 : Value) (more1_1 : Value) (h : Heap) (K : Value → Heap → Prop) (H : t32 Try.prog code0_1 more1_1 h K) : callM Try.prog 32 #[code0_1, more1_1] h K :=
  callM_of_wpA mixed (fn := Try.f32) Try.func32 (c := bodyOf Try.f32) rfl (of_decide_eq_true (by kernel_rfl)) (anOf []) 14 16 (by kernel_rfl) rfl [.tmp 4] (by kernel_rfl) (args := [code0_1, more1_1]) (by rw [e32]; exact H)

/-! spec.DrawTurnExits -/
def t55 (P : Program) (code0_1 : Value) (h : Heap) (K : Value → Heap → Prop) : Prop :=
  eop P (Instr.alloc 32 true (.tuple #[])) h fun t2_1 h_1 =>
  pop P (Instr.build 109 #[(0, code0_1)]) fun t8_1 =>
  eop P (Instr.box 109 t8_1) h_1 fun t9_1 h_2 =>
  callM P 112 #[t9_1] h_2 fun t11_1 h_3 =>
  eop P (Instr.alloc 32 true (.tuple #[])) h_3 fun g6_1 h_4 =>
  uop P (Instr.storeAt 32 g6_1 t11_1) h_4 fun u_1 h_5 =>
  callM P 99 #[t9_1, (Value.int IntKind.i64 10)] h_5 fun t13_1 h_6 =>
  condM t13_1
  (rop P (Instr.loadAt 32 g6_1) h_6 fun t14_1 =>
  rop P (Instr.loadAt 32 g6_1) h_6 fun t16_1 =>
  (callM P 106 #[t9_1, t16_1] h_6 fun t17_1 h_7 =>
  (∀ w : World, w.heap = h_7 → (Instr.loadAt 32 g6_1).run P w = .ok t14_1 w) ∧
  eop P (Instr.buildSlice 25 3 #[(0, (Value.int IntKind.i64 (-1))), (1, (Value.int IntKind.i64 1000)), (2, (Value.int IntKind.i64 1001))]) h_7 fun t19_1 h_8 =>
  (∀ w : World, w.heap = h_8 → (Instr.loadAt 32 g6_1).run P w = .ok t14_1 w) ∧
  callM P 101 #[t9_1, t19_1] h_8 fun t20_1 h_9 =>
  (∀ w : World, w.heap = h_9 → (Instr.loadAt 32 g6_1).run P w = .ok t14_1 w) ∧
  uop P (Instr.storeAt 32 t2_1 t14_1) h_9 fun u_2 h_10 =>
  rop P (Instr.loadAt 32 t2_1) h_10 fun r_1 =>
  K (.tuple #[r_1, t17_1, t20_1]) h_10) ∧
  (eop P (Instr.buildSlice 25 3 #[(0, (Value.int IntKind.i64 (-1))), (1, (Value.int IntKind.i64 1000)), (2, (Value.int IntKind.i64 1001))]) h_6 fun t19_2 h_11 =>
  (∀ w : World, w.heap = h_11 → (Instr.loadAt 32 g6_1).run P w = .ok t16_1 w) ∧
  (∀ w : World, w.heap = h_11 → (Instr.loadAt 32 g6_1).run P w = .ok t14_1 w) ∧
  callM P 106 #[t9_1, t16_1] h_11 fun t17_2 h_12 =>
  (∀ w : World, w.heap = h_12 → (Instr.loadAt 32 g6_1).run P w = .ok t14_1 w) ∧
  callM P 101 #[t9_1, t19_2] h_12 fun t20_2 h_13 =>
  (∀ w : World, w.heap = h_13 → (Instr.loadAt 32 g6_1).run P w = .ok t14_1 w) ∧
  uop P (Instr.storeAt 32 t2_1 t14_1) h_13 fun u_3 h_14 =>
  rop P (Instr.loadAt 32 t2_1) h_14 fun r_2 =>
  K (.tuple #[r_2, t17_2, t20_2]) h_14))
  (rop P (Instr.loadAt 32 g6_1) h_6 fun t21_1 =>
  rop P (Instr.loadAt 32 g6_1) h_6 fun t23_1 =>
  callM P 106 #[t9_1, t23_1] h_6 fun t24_1 h_15 =>
  (∀ w : World, w.heap = h_15 → (Instr.loadAt 32 g6_1).run P w = .ok t21_1 w) ∧
  callM P 100 #[t9_1, (Value.int IntKind.i64 9)] h_15 fun t26_1 h_16 =>
  (∀ w : World, w.heap = h_16 → (Instr.loadAt 32 g6_1).run P w = .ok t21_1 w) ∧
  uop P (Instr.storeAt 32 t2_1 t21_1) h_16 fun u_4 h_17 =>
  rop P (Instr.loadAt 32 t2_1) h_17 fun r_3 =>
  K (.tuple #[r_3, t24_1, t26_1]) h_17)
theorem e55 (code0_1 : Value) (h : Heap) (K : Value → Heap → Prop) : wpA Try.prog 27 (anOf []) (bodyOf Try.f55) 1 (fun A h => resA Try.prog A h K [.cell 2 32, .tmp 3, .tmp 4]) (fun _ _ _ => False) (fun A h => resA Try.prog A h K [.cell 2 32, .tmp 3, .tmp 4]) (aargs [code0_1] 0) h = t55 Try.prog code0_1 h K := by kernel_rfl
theorem c55 (code0_1 : Value) (h : Heap) (K : Value → Heap → Prop) (H : t55 Try.prog code0_1 h K) : callM Try.prog 55 #[code0_1] h K :=
  callM_of_wpA mixed (fn := Try.f55) Try.func55 (c := bodyOf Try.f55) rfl (of_decide_eq_true (by kernel_rfl)) (anOf []) 26 27 (by kernel_rfl) rfl [.cell 2 32, .tmp 3, .tmp 4] (by kernel_rfl) (args := [code0_1]) (by rw [e55]; exact H)

/-! impl.TurnExits -/
def t56 (P : Program) (g0_1 : Value) (p1_1 : Value) (k2_1 : Value) (h : Heap) (K : Value → Heap → Prop) : Prop :=
  eop P (Instr.box 32 g0_1) h fun g3_1 h_1 =>
  eop P (Instr.alloc 32 true (.tuple #[])) h_1 fun t6_1 h_2 =>
  rop P (Instr.loadAt 32 g3_1) h_2 fun t10_1 =>
  eop P (Instr.buildSlice 25 1 #[(0, p1_1)]) h_2 fun t12_1 h_3 =>
  callM P 107 #[t10_1, t12_1] h_3 fun t13_1 h_4 =>
  pop P (Op.unary .not t13_1) fun t14_1 =>
  guardM t14_1 false (fun k_1 => k_1 k2_1 h_4) h_4 fun t16_1 h_5 =>
  guardM t14_1 false (fun k_2 => callM P 113 #[t16_1, (Value.int IntKind.i64 0), (Value.int IntKind.i64 1000)] h_5 fun t17_1 h_6 =>
  k_2 t17_1 h_6) h_5 fun t17_2 h_7 =>
  guardM t14_1 false (fun k_3 => pop P (Op.unary .not t17_2) fun t18_1 =>
  k_3 t18_1 h_7) h_7 fun t18_2 h_8 =>
  pop P (pickS t14_1 (Value.bool true) t18_2) fun t19_1 =>
  condM t19_1
  (pop P (Instr.build 32 #[]) fun t20_1 =>
  uop P (Instr.storeAt 32 t6_1 t20_1) h_8 fun u_1 h_9 =>
  rop P (Instr.loadAt 32 t6_1) h_9 fun r_1 =>
  K (.tuple #[r_1, (Value.bool false)]) h_9)
  (rop P (Instr.loadAt 32 g3_1) h_8 fun t21_1 =>
  callM P 114 #[t21_1] h_8 fun t22_1 h_10 =>
  eop P (Instr.alloc 32 true (.tuple #[])) h_10 fun out8_1 h_11 =>
  uop P (Instr.storeAt 32 out8_1 t22_1) h_11 fun u_2 h_12 =>
  ∃ J_1 : List Value → Heap → Prop, (pop P (Instr.fieldAt 32 g3_1 0) fun t23_1 =>
  rop P (Instr.loadAt 22 t23_1) h_12 fun t24_1 =>
  pop P (Instr.indexAt 22 t24_1 p1_1) fun t26_1 =>
  rop P (Instr.loadAt 25 t26_1) h_12 fun t27_1 =>
  pop P (lenS 25 3 t27_1) fun t29_1 =>
  pop P (binA .gtr 3 t29_1 (Value.int IntKind.i64 0)) fun t30_1 =>
  condM t30_1
  (pop P (lenS 25 3 t27_1) fun t33_1 =>
  pop P (binA .rem 3 k2_1 t33_1) fun t34_1 =>
  pop P (Instr.fieldAt 32 out8_1 0) fun t35_1 =>
  rop P (Instr.loadAt 22 t35_1) h_12 fun t36_1 =>
  pop P (Instr.sliceAt 25 t27_1 (some t34_1) none none) fun t40_1 =>
  pop P (Instr.sliceAt 25 t27_1 none (some t34_1) none) fun t43_1 =>
  eop P (Instr.buildSlice 22 2 #[(0, t40_1), (1, t43_1)]) h_12 fun t44_1 h_13 =>
  (∀ w : World, w.heap = h_13 → (Instr.loadAt 22 t35_1).run P w = .ok t36_1 w) ∧
  callM P 115 #[t44_1] h_13 fun t45_1 h_14 =>
  (∀ w : World, w.heap = h_14 → (Instr.loadAt 22 t35_1).run P w = .ok t36_1 w) ∧
  pop P (Instr.indexAt 22 t36_1 p1_1) fun t46_1 =>
  uop P (Instr.storeAt 25 t46_1 t45_1) h_14 fun u_3 h_15 =>
  J_1 [] h_15)
  (J_1 [] h_12)) ∧
  ∀ (junk_1 : Nat → Value) (h_16 : Heap), J_1 [] h_16 →
  rop P (Instr.loadAt 32 out8_1) h_16 fun t47_1 =>
  uop P (Instr.storeAt 32 t6_1 t47_1) h_16 fun u_4 h_17 =>
  rop P (Instr.loadAt 32 t6_1) h_17 fun r_2 =>
  K (.tuple #[r_2, (Value.bool true)]) h_17)
theorem e56 (g0_1 : Value) (p1_1 : Value) (k2_1 : Value) (h : Heap) (K : Value → Heap → Prop) : wpA Try.prog 48 (anOf [(15, [])]) (bodyOf Try.f56) 1 (fun A h => resA Try.prog A h K [.cell 6 32, .tmp 7]) (fun _ _ _ => False) (fun A h => resA Try.prog A h K [.cell 6 32, .tmp 7]) (aargs [g0_1, p1_1, k2_1] 0) h = t56 Try.prog g0_1 p1_1 k2_1 h K := by kernel_rfl
theorem c56 (g0_1 : Value) (p1_1 : Value) (k2_1 : Value) (h : Heap) (K : Value → Heap → Prop) (H : t56 Try.prog g0_1 p1_1 k2_1 h K) : callM Try.prog 56 #[g0_1, p1_1, k2_1] h K :=
  callM_of_wpA mixed (fn := Try.f56) Try.func56 (c := bodyOf Try.f56) rfl (of_decide_eq_true (by kernel_rfl)) (anOf [(15, [])]) 45 48 (by kernel_rfl) rfl [.cell 6 32, .tmp 7] (by kernel_rfl) (args := [g0_1, p1_1, k2_1]) (by rw [e56]; exact H)

/-! spec.TurnExits -/
def t57 (P : Program) (g0_1 : Value) (p1_1 : Value) (k2_1 : Value) (h : Heap) (K : Value → Heap → Prop) : Prop :=
  eop P (Instr.box 32 g0_1) h fun g3_1 h_1 =>
  eop P (Instr.alloc 32 true (.tuple #[])) h_1 fun t6_1 h_2 =>
  rop P (Instr.loadAt 32 g3_1) h_2 fun t12_1 =>
  callM P 116 #[t12_1, p1_1] h_2 fun t14_1 h_3 =>
  pop P (Op.unary .not t14_1) fun t15_1 =>
  guardM t15_1 false (fun k_1 => k_1 k2_1 h_3) h_3 fun t17_1 h_4 =>
  guardM t15_1 false (fun k_2 => callM P 117 #[t17_1, (Value.int IntKind.i64 0), (Value.int IntKind.i64 1000)] h_4 fun t18_1 h_5 =>
  k_2 t18_1 h_5) h_4 fun t18_2 h_6 =>
  guardM t15_1 false (fun k_3 => pop P (Op.unary .not t18_2) fun t19_1 =>
  k_3 t19_1 h_6) h_6 fun t19_2 h_7 =>
  pop P (pickS t15_1 (Value.bool true) t19_2) fun t20_1 =>
  condM t20_1
  (pop P (Instr.build 32 #[]) fun t21_1 =>
  uop P (Instr.storeAt 32 t6_1 t21_1) h_7 fun u_1 h_8 =>
  rop P (Instr.loadAt 32 t6_1) h_8 fun r_1 =>
  K (.tuple #[r_1, (Value.bool false)]) h_8)
  (rop P (Instr.loadAt 32 g3_1) h_7 fun t22_1 =>
  callM P 118 #[t22_1] h_7 fun t23_1 h_9 =>
  eop P (Instr.alloc 32 true (.tuple #[])) h_9 fun out8_1 h_10 =>
  uop P (Instr.storeAt 32 out8_1 t23_1) h_10 fun u_2 h_11 =>
  pop P (Instr.fieldAt 32 g3_1 0) fun t24_1 =>
  rop P (Instr.loadAt 22 t24_1) h_11 fun t25_1 =>
  pop P (Instr.indexAt 22 t25_1 p1_1) fun t27_1 =>
  rop P (Instr.loadAt 25 t27_1) h_11 fun t28_1 =>
  pop P (lenS 25 3 t28_1) fun t30_1 =>
  ∃ (I_1 : List Value → Heap → Prop) (μ_1 : List Value → Heap → Nat), I_1 [(Value.int IntKind.i64 0)] h_11 ∧
  ∀ (junk_1 : Nat → Value) (t31_1 : Value) (h_12 : Heap), I_1 [t31_1] h_12 →
  pop P (binA .lss 3 t31_1 t30_1) fun t32_1 =>
  condM t32_1
  (pop P (Instr.fieldAt 32 out8_1 0) fun t34_1 =>
  rop P (Instr.loadAt 22 t34_1) h_12 fun t35_1 =>
  pop P (Instr.indexAt 22 t35_1 p1_1) fun t37_1 =>
  rop P (Instr.loadAt 25 t37_1) h_12 fun t38_1 =>
  pop P (binA .add 3 t31_1 k2_1) fun t44_1 =>
  pop P (lenS 25 3 t28_1) fun t46_1 =>
  pop P (binA .rem 3 t44_1 t46_1) fun t47_1 =>
  pop P (Instr.indexAt 25 t28_1 t47_1) fun t48_1 =>
  rop P (Instr.loadAt 3 t48_1) h_12 fun t49_1 =>
  pop P (Instr.indexAt 25 t38_1 t31_1) fun t50_1 =>
  uop P (Instr.storeAt 3 t50_1 t49_1) h_12 fun u_3 h_13 =>
  pop P (binA .add 3 t31_1 (Value.int IntKind.i64 1)) fun t51_1 =>
  I_1 [t51_1] h_13 ∧ μ_1 [t51_1] h_13 < μ_1 [t31_1] h_12)
  (rop P (Instr.loadAt 32 out8_1) h_12 fun t52_1 =>
  uop P (Instr.storeAt 32 t6_1 t52_1) h_12 fun u_4 h_14 =>
  rop P (Instr.loadAt 32 t6_1) h_14 fun r_2 =>
  K (.tuple #[r_2, (Value.bool true)]) h_14))
theorem e57 (g0_1 : Value) (p1_1 : Value) (k2_1 : Value) (h : Heap) (K : Value → Heap → Prop) : wpA Try.prog 53 (anOf [(250, [31])]) (bodyOf Try.f57) 1 (fun A h => resA Try.prog A h K [.cell 6 32, .tmp 7]) (fun _ _ _ => False) (fun A h => resA Try.prog A h K [.cell 6 32, .tmp 7]) (aargs [g0_1, p1_1, k2_1] 0) h = t57 Try.prog g0_1 p1_1 k2_1 h K := by kernel_rfl
theorem c57 (g0_1 : Value) (p1_1 : Value) (k2_1 : Value) (h : Heap) (K : Value → Heap → Prop) (H : t57 Try.prog g0_1 p1_1 k2_1 h K) : callM Try.prog 57 #[g0_1, p1_1, k2_1] h K :=
  callM_of_wpA mixed (fn := Try.f57) Try.func57 (c := bodyOf Try.f57) rfl (of_decide_eq_true (by kernel_rfl)) (anOf [(250, [31])]) 50 53 (by kernel_rfl) rfl [.cell 6 32, .tmp 7] (by kernel_rfl) (args := [g0_1, p1_1, k2_1]) (by rw [e57]; exact H)

/-! laws.wGraph -/
def t58 (P : Program) (a0_1 : Value) (b1_1 : Value) (h : Heap) (K : Value → Heap → Prop) : Prop :=
  eop P (Instr.box 32 a0_1) h fun a2_1 h_1 =>
  eop P (Instr.box 32 b1_1) h_1 fun b3_1 h_2 =>
  pop P (Instr.fieldAt 32 a2_1 0) fun t5_1 =>
  rop P (Instr.loadAt 22 t5_1) h_2 fun t6_1 =>
  pop P (Instr.fieldAt 32 b3_1 0) fun t7_1 =>
  rop P (Instr.loadAt 22 t7_1) h_2 fun t8_1 =>
  callM P 119 #[t6_1, t8_1] h_2 fun t9_1 h_3 =>
  K t9_1 h_3
theorem e58 (a0_1 : Value) (b1_1 : Value) (h : Heap) (K : Value → Heap → Prop) : wpA Try.prog 10 (anOf []) (bodyOf Try.f58) 1 (fun A h => resA Try.prog A h K [.tmp 4]) (fun _ _ _ => False) (fun A h => resA Try.prog A h K [.tmp 4]) (aargs [a0_1, b1_1] 0) h = t58 Try.prog a0_1 b1_1 h K := by kernel_rfl
theorem c58 (a0_1 : Value) (b1_1 : Value) (h : Heap) (K : Value → Heap → Prop) (H : t58 Try.prog a0_1 b1_1 h K) : callM Try.prog 58 #[a0_1, b1_1] h K :=
  callM_of_wpA mixed (fn := Try.f58) Try.func58 (c := bodyOf Try.f58) rfl (of_decide_eq_true (by kernel_rfl)) (anOf []) 8 10 (by kernel_rfl) rfl [.tmp 4] (by kernel_rfl) (args := [a0_1, b1_1]) (by rw [e58]; exact H)

/-! spec.DrawAddExit -/
def t59 (P : Program) (code0_1 : Value) (h : Heap) (K : Value → Heap → Prop) : Prop :=
  eop P (Instr.alloc 32 true (.tuple #[])) h fun t2_1 h_1 =>
  callM P 120 #[code0_1] h_1 fun t6_1 h_2 =>
  pop P (Instr.extract t6_1 0) fun t7_1 =>
  pop P (Instr.extract t6_1 1) fun t8_1 =>
  pop P (Instr.extract t6_1 2) fun t9_1 =>
  uop P (Instr.storeAt 32 t2_1 t7_1) h_2 fun u_1 h_3 =>
  rop P (Instr.loadAt 32 t2_1) h_3 fun r_1 =>
  K (.tuple #[r_1, t8_1, t9_1]) h_3
theorem e59 (code0_1 : Value) (h : Heap) (K : Value → Heap → Prop) : wpA Try.prog 10 (anOf []) (bodyOf Try.f59) 1 (fun A h => resA Try.prog A h K [.cell 2 32, .tmp 3, .tmp 4]) (fun _ _ _ => False) (fun A h => resA Try.prog A h K [.cell 2 32, .tmp 3, .tmp 4]) (aargs [code0_1] 0) h = t59 Try.prog code0_1 h K := by kernel_rfl
theorem c59 (code0_1 : Value) (h : Heap) (K : Value → Heap → Prop) (H : t59 Try.prog code0_1 h K) : callM Try.prog 59 #[code0_1] h K :=
  callM_of_wpA mixed (fn := Try.f59) Try.func59 (c := bodyOf Try.f59) rfl (of_decide_eq_true (by kernel_rfl)) (anOf []) 9 10 (by kernel_rfl) rfl [.cell 2 32, .tmp 3, .tmp 4] (by kernel_rfl) (args := [code0_1]) (by rw [e59]; exact H)

/-! impl.AddExit -/
def t60 (P : Program) (g0_1 : Value) (p1_1 : Value) (q2_1 : Value) (h : Heap) (K : Value → Heap → Prop) : Prop :=
  eop P (Instr.box 32 g0_1) h fun g3_1 h_1 =>
  eop P (Instr.alloc 32 true (.tuple #[])) h_1 fun t6_1 h_2 =>
  rop P (Instr.loadAt 32 g3_1) h_2 fun t9_1 =>
  eop P (Instr.buildSlice 25 2 #[(0, p1_1), (1, q2_1)]) h_2 fun t12_1 h_3 =>
  callM P 107 #[t9_1, t12_1] h_3 fun t13_1 h_4 =>
  pop P (Op.unary .not t13_1) fun t14_1 =>
  condM t14_1
  (pop P (Instr.build 32 #[]) fun t15_1 =>
  uop P (Instr.storeAt 32 t6_1 t15_1) h_4 fun u_1 h_5 =>
  rop P (Instr.loadAt 32 t6_1) h_5 fun r_1 =>
  K (.tuple #[r_1, (Value.bool false)]) h_5)
  (rop P (Instr.loadAt 32 g3_1) h_4 fun t16_1 =>
  callM P 114 #[t16_1] h_4 fun t17_1 h_6 =>
  eop P (Instr.alloc 32 true (.tuple #[])) h_6 fun out8_1 h_7 =>
  uop P (Instr.storeAt 32 out8_1 t17_1) h_7 fun u_2 h_8 =>
  pop P (Instr.fieldAt 32 out8_1 0) fun t18_1 =>
  rop P (Instr.loadAt 22 t18_1) h_8 fun t19_1 =>
  pop P (Instr.fieldAt 32 out8_1 0) fun t21_1 =>
  rop P (Instr.loadAt 22 t21_1) h_8 fun t22_1 =>
  pop P (Instr.indexAt 22 t22_1 p1_1) fun t24_1 =>
  rop P (Instr.loadAt 25 t24_1) h_8 fun t25_1 =>
  eop P (Instr.buildSlice 25 1 #[(0, q2_1)]) h_8 fun t27_1 h_9 =>
  (∀ w : World, w.heap = h_9 → (Instr.loadAt 25 t24_1).run P w = .ok t25_1 w) ∧
  (∀ w : World, w.heap = h_9 → (Instr.loadAt 22 t21_1).run P w = .ok t22_1 w) ∧
  (∀ w : World, w.heap = h_9 → (Instr.loadAt 22 t18_1).run P w = .ok t19_1 w) ∧
  eop P (appS 25 25 25 t25_1 t27_1) h_9 fun t28_1 h_10 =>
  (∀ w : World, w.heap = h_10 → (Instr.loadAt 22 t21_1).run P w = .ok t22_1 w) ∧
  (∀ w : World, w.heap = h_10 → (Instr.loadAt 22 t18_1).run P w = .ok t19_1 w) ∧
  pop P (Instr.indexAt 22 t19_1 p1_1) fun t29_1 =>
  uop P (Instr.storeAt 25 t29_1 t28_1) h_10 fun u_3 h_11 =>
  rop P (Instr.loadAt 32 out8_1) h_11 fun t30_1 =>
  callM P 121 #[t30_1] h_11 fun t31_1 h_12 =>
  pop P (Instr.extract t31_1 0) fun t32_1 =>
  pop P (Instr.extract t31_1 1) fun t33_1 =>
  uop P (Instr.storeAt 32 t6_1 t32_1) h_12 fun u_4 h_13 =>
  rop P (Instr.loadAt 32 t6_1) h_13 fun r_2 =>
  K (.tuple #[r_2, t33_1]) h_13)
theorem e60 (g0_1 : Value) (p1_1 : Value) (q2_1 : Value) (h : Heap) (K : Value → Heap → Prop) : wpA Try.prog 34 (anOf []) (bodyOf Try.f60) 1 (fun A h => resA Try.prog A h K [.cell 6 32, .tmp 7]) (fun _ _ _ => False) (fun A h => resA Try.prog A h K [.cell 6 32, .tmp 7]) (aargs [g0_1, p1_1, q2_1] 0) h = t60 Try.prog g0_1 p1_1 q2_1 h K := by kernel_rfl
theorem c60 (g0_1 : Value) (p1_1 : Value) (q2_1 : Value) (h : Heap) (K : Value → Heap → Prop) (H : t60 Try.prog g0_1 p1_1 q2_1 h K) : callM Try.prog 60 #[g0_1, p1_1, q2_1] h K :=
  callM_of_wpA mixed (fn := Try.f60) Try.func60 (c := bodyOf Try.f60) rfl (of_decide_eq_true (by kernel_rfl)) (anOf []) 31 34 (by kernel_rfl) rfl [.cell 6 32, .tmp 7] (by kernel_rfl) (args := [g0_1, p1_1, q2_1]) (by rw [e60]; exact H)

/-! spec.AddExit -/
def t61 (P : Program) (g0_1 : Value) (p1_1 : Value) (q2_1 : Value) (h : Heap) (K : Value → Heap → Prop) : Prop :=
  eop P (Instr.box 32 g0_1) h fun g3_1 h_1 =>
  eop P (Instr.alloc 32 true (.tuple #[])) h_1 fun t6_1 h_2 =>
  rop P (Instr.loadAt 32 g3_1) h_2 fun t9_1 =>
  callM P 116 #[t9_1, p1_1] h_2 fun t11_1 h_3 =>
  pop P (Op.unary .not t11_1) fun t12_1 =>
  guardM t12_1 false (fun k_1 => rop P (Instr.loadAt 32 g3_1) h_3 fun t14_1 =>
  k_1 t14_1 h_3) h_3 fun t14_2 h_4 =>
  guardM t12_1 false (fun k_2 => k_2 q2_1 h_4) h_4 fun t15_1 h_5 =>
  guardM t12_1 false (fun k_3 => callM P 116 #[t14_2, t15_1] h_5 fun t16_1 h_6 =>
  k_3 t16_1 h_6) h_5 fun t16_2 h_7 =>
  guardM t12_1 false (fun k_4 => pop P (Op.unary .not t16_2) fun t17_1 =>
  k_4 t17_1 h_7) h_7 fun t17_2 h_8 =>
  pop P (pickS t12_1 (Value.bool true) t17_2) fun t18_1 =>
  condM t18_1
  (pop P (Instr.build 32 #[]) fun t19_1 =>
  uop P (Instr.storeAt 32 t6_1 t19_1) h_8 fun u_1 h_9 =>
  rop P (Instr.loadAt 32 t6_1) h_9 fun r_1 =>
  K (.tuple #[r_1, (Value.bool false)]) h_9)
  (rop P (Instr.loadAt 32 g3_1) h_8 fun t20_1 =>
  callM P 118 #[t20_1] h_8 fun t21_1 h_10 =>
  eop P (Instr.alloc 32 true (.tuple #[])) h_10 fun out8_1 h_11 =>
  uop P (Instr.storeAt 32 out8_1 t21_1) h_11 fun u_2 h_12 =>
  pop P (Instr.fieldAt 32 out8_1 0) fun t22_1 =>
  rop P (Instr.loadAt 22 t22_1) h_12 fun t23_1 =>
  pop P (Instr.fieldAt 32 out8_1 0) fun t25_1 =>
  rop P (Instr.loadAt 22 t25_1) h_12 fun t26_1 =>
  pop P (Instr.indexAt 22 t26_1 p1_1) fun t28_1 =>
  rop P (Instr.loadAt 25 t28_1) h_12 fun t29_1 =>
  eop P (Instr.buildSlice 25 1 #[(0, q2_1)]) h_12 fun t31_1 h_13 =>
  (∀ w : World, w.heap = h_13 → (Instr.loadAt 25 t28_1).run P w = .ok t29_1 w) ∧
  (∀ w : World, w.heap = h_13 → (Instr.loadAt 22 t25_1).run P w = .ok t26_1 w) ∧
  (∀ w : World, w.heap = h_13 → (Instr.loadAt 22 t22_1).run P w = .ok t23_1 w) ∧
  eop P (appS 25 25 25 t29_1 t31_1) h_13 fun t32_1 h_14 =>
  (∀ w : World, w.heap = h_14 → (Instr.loadAt 22 t25_1).run P w = .ok t26_1 w) ∧
  (∀ w : World, w.heap = h_14 → (Instr.loadAt 22 t22_1).run P w = .ok t23_1 w) ∧
  pop P (Instr.indexAt 22 t23_1 p1_1) fun t33_1 =>
  uop P (Instr.storeAt 25 t33_1 t32_1) h_14 fun u_3 h_15 =>
  rop P (Instr.loadAt 32 out8_1) h_15 fun t34_1 =>
  callM P 122 #[t34_1] h_15 fun t35_1 h_16 =>
  pop P (Instr.extract t35_1 0) fun t36_1 =>
  pop P (Instr.extract t35_1 1) fun t37_1 =>
  uop P (Instr.storeAt 32 t6_1 t36_1) h_16 fun u_4 h_17 =>
  rop P (Instr.loadAt 32 t6_1) h_17 fun r_2 =>
  K (.tuple #[r_2, t37_1]) h_17)
theorem e61 (g0_1 : Value) (p1_1 : Value) (q2_1 : Value) (h : Heap) (K : Value → Heap → Prop) : wpA Try.prog 38 (anOf []) (bodyOf Try.f61) 1 (fun A h => resA Try.prog A h K [.cell 6 32, .tmp 7]) (fun _ _ _ => False) (fun A h => resA Try.prog A h K [.cell 6 32, .tmp 7]) (aargs [g0_1, p1_1, q2_1] 0) h = t61 Try.prog g0_1 p1_1 q2_1 h K := by kernel_rfl
theorem c61 (g0_1 : Value) (p1_1 : Value) (q2_1 : Value) (h : Heap) (K : Value → Heap → Prop) (H : t61 Try.prog g0_1 p1_1 q2_1 h K) : callM Try.prog 61 #[g0_1, p1_1, q2_1] h K :=
  callM_of_wpA mixed (fn := Try.f61) Try.func61 (c := bodyOf Try.f61) rfl (of_decide_eq_true (by kernel_rfl)) (anOf []) 35 38 (by kernel_rfl) rfl [.cell 6 32, .tmp 7] (by kernel_rfl) (args := [g0_1, p1_1, q2_1]) (by rw [e61]; exact H)

/-! impl.CountExits -/
def t62 (P : Program) (g0_1 : Value) (h : Heap) (K : Value → Heap → Prop) : Prop :=
  eop P (Instr.box 32 g0_1) h fun g1_1 h_1 =>
  rop P (Instr.loadAt 32 g1_1) h_1 fun t4_1 =>
  callM P 88 #[t4_1] h_1 fun t5_1 h_2 =>
  pop P (Op.unary .not t5_1) fun t6_1 =>
  condM t6_1
  (K (.tuple #[(Value.int IntKind.i64 0), (Value.bool false)]) h_2)
  (pop P (Instr.fieldAt 32 g1_1 0) fun t7_1 =>
  rop P (Instr.loadAt 22 t7_1) h_2 fun t8_1 =>
  callM P 115 #[t8_1] h_2 fun t9_1 h_3 =>
  pop P (lenS 25 3 t9_1) fun t10_1 =>
  K (.tuple #[t10_1, (Value.bool true)]) h_3)
theorem e62 (g0_1 : Value) (h : Heap) (K : Value → Heap → Prop) : wpA Try.prog 11 (anOf []) (bodyOf Try.f62) 1 (fun A h => resA Try.prog A h K [.tmp 2, .tmp 3]) (fun _ _ _ => False) (fun A h => resA Try.prog A h K [.tmp 2, .tmp 3]) (aargs [g0_1] 0) h = t62 Try.prog g0_1 h K := by kernel_rfl
theorem c62 (g0_1 : Value) (h : Heap) (K : Value → Heap → Prop) (H : t62 Try.prog g0_1 h K) : callM Try.prog 62 #[g0_1] h K :=
  callM_of_wpA mixed (fn := Try.f62) Try.func62 (c := bodyOf Try.f62) rfl (of_decide_eq_true (by kernel_rfl)) (anOf []) 10 11 (by kernel_rfl) rfl [.tmp 2, .tmp 3] (by kernel_rfl) (args := [g0_1]) (by rw [e62]; exact H)

/-! impl.EntriesOf -/
def t63 (P : Program) (g0_1 : Value) (p1_1 : Value) (h : Heap) (K : Value → Heap → Prop) : Prop :=
  eop P (Instr.box 32 g0_1) h fun g2_1 h_1 =>
  rop P (Instr.loadAt 32 g2_1) h_1 fun t6_1 =>
  eop P (Instr.buildSlice 25 1 #[(0, p1_1)]) h_1 fun t8_1 h_2 =>
  callM P 107 #[t6_1, t8_1] h_2 fun t9_1 h_3 =>
  pop P (Op.unary .not t9_1) fun t10_1 =>
  condM t10_1
  (K (.tuple #[(Value.int IntKind.i64 0), (Value.bool false)]) h_3)
  (rop P (Instr.loadAt 32 g2_1) h_3 fun t11_1 =>
  callM P 123 #[t11_1, p1_1] h_3 fun t13_1 h_4 =>
  K (.tuple #[t13_1, (Value.bool true)]) h_4)
theorem e63 (g0_1 : Value) (p1_1 : Value) (h : Heap) (K : Value → Heap → Prop) : wpA Try.prog 14 (anOf []) (bodyOf Try.f63) 1 (fun A h => resA Try.prog A h K [.tmp 4, .tmp 5]) (fun _ _ _ => False) (fun A h => resA Try.prog A h K [.tmp 4, .tmp 5]) (aargs [g0_1, p1_1] 0) h = t63 Try.prog g0_1 p1_1 h K := by kernel_rfl
theorem c63 (g0_1 : Value) (p1_1 : Value) (h : Heap) (K : Value → Heap → Prop) (H : t63 Try.prog g0_1 p1_1 h K) : callM Try.prog 63 #[g0_1, p1_1] h K :=
  callM_of_wpA mixed (fn := Try.f63) Try.func63 (c := bodyOf Try.f63) rfl (of_decide_eq_true (by kernel_rfl)) (anOf []) 12 14 (by kernel_rfl) rfl [.tmp 4, .tmp 5] (by kernel_rfl) (args := [g0_1, p1_1]) (by rw [e63]; exact H)

/-! spec.DrawCycleGraph -/
def t64 (P : Program) (code0_1 : Value) (h : Heap) (K : Value → Heap → Prop) : Prop :=
  pop P (Instr.build 109 #[(0, code0_1)]) fun t6_1 =>
  eop P (Instr.box 109 t6_1) h fun t7_1 h_1 =>
  callM P 100 #[t7_1, (Value.int IntKind.i64 11)] h_1 fun t9_1 h_2 =>
  pop P (binA .sub 3 t9_1 (Value.int IntKind.i64 1)) fun t10_1 =>
  callM P 99 #[t7_1, (Value.int IntKind.i64 2)] h_2 fun t12_1 h_3 =>
  K (.tuple #[t10_1, t12_1]) h_3
theorem e64 (code0_1 : Value) (h : Heap) (K : Value → Heap → Prop) : wpA Try.prog 13 (anOf []) (bodyOf Try.f64) 1 (fun A h => resA Try.prog A h K [.tmp 2, .tmp 3]) (fun _ _ _ => False) (fun A h => resA Try.prog A h K [.tmp 2, .tmp 3]) (aargs [code0_1] 0) h = t64 Try.prog code0_1 h K := by kernel_rfl
theorem c64 (code0_1 : Value) (h : Heap) (K : Value → Heap → Prop) (H : t64 Try.prog code0_1 h K) : callM Try.prog 64 #[code0_1] h K :=
  callM_of_wpA mixed (fn := Try.f64) Try.func64 (c := bodyOf Try.f64) rfl (of_decide_eq_true (by kernel_rfl)) (anOf []) 12 13 (by kernel_rfl) rfl [.tmp 2, .tmp 3] (by kernel_rfl) (args := [code0_1]) (by rw [e64]; exact H)

/-! impl.CycleGraph -/
def t65 (P : Program) (n0_1 : Value) (both1_1 : Value) (h : Heap) (K : Value → Heap → Prop) : Prop :=
  eop P (Instr.alloc 32 true (.tuple #[])) h fun t4_1 h_1 =>
  callM P 113 #[n0_1, (Value.int IntKind.i64 1), (Value.int IntKind.i64 8)] h_1 fun t10_1 h_2 =>
  pop P (Op.unary .not t10_1) fun t11_1 =>
  condM t11_1
  (pop P (Instr.build 32 #[]) fun t12_1 =>
  uop P (Instr.storeAt 32 t4_1 t12_1) h_2 fun u_1 h_3 =>
  rop P (Instr.loadAt 32 t4_1) h_3 fun r_1 =>
  K (.tuple #[r_1, (Value.bool false)]) h_3)
  (pop P (Instr.build 32 #[]) fun t13_1 =>
  eop P (Instr.alloc 32 true (.tuple #[])) h_2 fun out6_1 h_4 =>
  uop P (Instr.storeAt 32 out6_1 t13_1) h_4 fun u_2 h_5 =>
  ∃ (I_1 : List Value → Heap → Prop) (μ_1 : List Value → Heap → Nat), I_1 [(Value.int IntKind.i64 0)] h_5 ∧
  ∀ (junk_1 : Nat → Value) (t15_1 : Value) (h_6 : Heap), I_1 [t15_1] h_6 →
  pop P (binA .lss 3 t15_1 n0_1) fun t16_1 =>
  condM t16_1
  (pop P (binA .add 3 t15_1 (Value.int IntKind.i64 1)) fun t19_1 =>
  pop P (binA .rem 3 t19_1 n0_1) fun t21_1 =>
  eop P (Instr.buildSlice 25 1 #[(0, t21_1)]) h_6 fun t22_1 h_7 =>
  ∃ J_1 : List Value → Heap → Prop, (condM both1_1
  (pop P (binA .add 3 t15_1 n0_1) fun t27_1 =>
  pop P (binA .sub 3 t27_1 (Value.int IntKind.i64 1)) fun t28_1 =>
  pop P (binA .rem 3 t28_1 n0_1) fun t30_1 =>
  eop P (Instr.buildSlice 25 1 #[(0, t30_1)]) h_7 fun t31_1 h_8 =>
  eop P (appS 25 25 25 t22_1 t31_1) h_8 fun t32_1 h_9 =>
  J_1 [t32_1] h_9)
  (J_1 [t22_1] h_7)) ∧
  ∀ (junk_2 : Nat → Value) (list8_1 : Value) (h_10 : Heap), J_1 [list8_1] h_10 →
  pop P (Instr.fieldAt 32 out6_1 0) fun t33_1 =>
  rop P (Instr.loadAt 22 t33_1) h_10 fun t34_1 =>
  eop P (Instr.buildSlice 22 1 #[(0, list8_1)]) h_10 fun t36_1 h_11 =>
  eop P (appS 22 22 22 t34_1 t36_1) h_11 fun t37_1 h_12 =>
  pop P (Instr.fieldAt 32 out6_1 0) fun t38_1 =>
  uop P (Instr.storeAt 22 t38_1 t37_1) h_12 fun u_3 h_13 =>
  pop P (binA .add 3 t15_1 (Value.int IntKind.i64 1)) fun t39_1 =>
  I_1 [t39_1] h_13 ∧ μ_1 [t39_1] h_13 < μ_1 [t15_1] h_6)
  (rop P (Instr.loadAt 32 out6_1) h_6 fun t40_1 =>
  uop P (Instr.storeAt 32 t4_1 t40_1) h_6 fun u_4 h_14 =>
  rop P (Instr.loadAt 32 t4_1) h_14 fun r_2 =>
  K (.tuple #[r_2, (Value.bool true)]) h_14))
theorem e65 (n0_1 : Value) (both1_1 : Value) (h : Heap) (K : Value → Heap → Prop) : wpA Try.prog 41 (anOf [(122, [15]), (15667, [8])]) (bodyOf Try.f65) 1 (fun A h => resA Try.prog A h K [.cell 4 32, .tmp 5]) (fun _ _ _ => False) (fun A h => resA Try.prog A h K [.cell 4 32, .tmp 5]) (aargs [n0_1, both1_1] 0) h = t65 Try.prog n0_1 both1_1 h K := by kernel_rfl
theorem c65 (n0_1 : Value) (both1_1 : Value) (h : Heap) (K : Value → Heap → Prop) (H : t65 Try.prog n0_1 both1_1 h K) : callM Try.prog 65 #[n0_1, both1_1] h K :=
  callM_of_wpA mixed (fn := Try.f65) Try.func65 (c := bodyOf Try.f65) rfl (of_decide_eq_true (by kernel_rfl)) (anOf [(122, [15]), (15667, [8])]) 39 41 (by kernel_rfl) rfl [.cell 4 32, .tmp 5] (by kernel_rfl) (args := [n0_1, both1_1]) (by rw [e65]; exact H)

/-! spec.CycleGraph -/
def t66 (P : Program) (n0_1 : Value) (both1_1 : Value) (h : Heap) (K : Value → Heap → Prop) : Prop :=
  eop P (Instr.alloc 32 true (.tuple #[])) h fun t4_1 h_1 =>
  callM P 117 #[n0_1, (Value.int IntKind.i64 1), (Value.int IntKind.i64 8)] h_1 fun t7_1 h_2 =>
  pop P (Op.unary .not t7_1) fun t8_1 =>
  condM t8_1
  (pop P (Instr.build 32 #[]) fun t9_1 =>
  uop P (Instr.storeAt 32 t4_1 t9_1) h_2 fun u_1 h_3 =>
  rop P (Instr.loadAt 32 t4_1) h_3 fun r_1 =>
  K (.tuple #[r_1, (Value.bool false)]) h_3)
  (callM P 124 #[n0_1, both1_1] h_2 fun t12_1 h_4 =>
  uop P (Instr.storeAt 32 t4_1 t12_1) h_4 fun u_2 h_5 =>
  rop P (Instr.loadAt 32 t4_1) h_5 fun r_2 =>
  K (.tuple #[r_2, (Value.bool true)]) h_5)
theorem e66 (n0_1 : Value) (both1_1 : Value) (h : Heap) (K : Value → Heap → Prop) : wpA Try.prog 13 (anOf []) (bodyOf Try.f66) 1 (fun A h => resA Try.prog A h K [.cell 4 32, .tmp 5]) (fun _ _ _ => False) (fun A h => resA Try.prog A h K [.cell 4 32, .tmp 5]) (aargs [n0_1, both1_1] 0) h = t66 Try.prog n0_1 both1_1 h K := by kernel_rfl
theorem c66 (n0_1 : Value) (both1_1 : Value) (h : Heap) (K : Value → Heap → Prop) (H : t66 Try.prog n0_1 both1_1 h K) : callM Try.prog 66 #[n0_1, both1_1] h K :=
  callM_of_wpA mixed (fn := Try.f66) Try.func66 (c := bodyOf Try.f66) rfl (of_decide_eq_true (by kernel_rfl)) (anOf []) 11 13 (by kernel_rfl) rfl [.cell 4 32, .tmp 5] (by kernel_rfl) (args := [n0_1, both1_1]) (by rw [e66]; exact H)

/-! impl.IsStrong -/
def t67 (P : Program) (g0_1 : Value) (h : Heap) (K : Value → Heap → Prop) : Prop :=
  eop P (Instr.box 32 g0_1) h fun g1_1 h_1 =>
  rop P (Instr.loadAt 32 g1_1) h_1 fun t4_1 =>
  callM P 88 #[t4_1] h_1 fun t5_1 h_2 =>
  pop P (Op.unary .not t5_1) fun t6_1 =>
  condM t6_1
  (K (.tuple #[(Value.bool false), (Value.bool false)]) h_2)
  (rop P (Instr.loadAt 32 g1_1) h_2 fun t7_1 =>
  callM P 125 #[t7_1] h_2 fun t8_1 h_3 =>
  K (.tuple #[t8_1, (Value.bool true)]) h_3)
theorem e67 (g0_1 : Value) (h : Heap) (K : Value → Heap → Prop) : wpA Try.prog 9 (anOf []) (bodyOf Try.f67) 1 (fun A h => resA Try.prog A h K [.tmp 2, .tmp 3]) (fun _ _ _ => False) (fun A h => resA Try.prog A h K [.tmp 2, .tmp 3]) (aargs [g0_1] 0) h = t67 Try.prog g0_1 h K := by kernel_rfl
theorem c67 (g0_1 : Value) (h : Heap) (K : Value → Heap → Prop) (H : t67 Try.prog g0_1 h K) : callM Try.prog 67 #[g0_1] h K :=
  callM_of_wpA mixed (fn := Try.f67) Try.func67 (c := bodyOf Try.f67) rfl (of_decide_eq_true (by kernel_rfl)) (anOf []) 8 9 (by kernel_rfl) rfl [.tmp 2, .tmp 3] (by kernel_rfl) (args := [g0_1]) (by rw [e67]; exact H)

/-! impl.IsBalanced -/
def t68 (P : Program) (g0_1 : Value) (h : Heap) (K : Value → Heap → Prop) : Prop :=
  eop P (Instr.box 32 g0_1) h fun g1_1 h_1 =>
  rop P (Instr.loadAt 32 g1_1) h_1 fun t4_1 =>
  callM P 88 #[t4_1] h_1 fun t5_1 h_2 =>
  pop P (Op.unary .not t5_1) fun t6_1 =>
  condM t6_1
  (K (.tuple #[(Value.bool false), (Value.bool false)]) h_2)
  (rop P (Instr.loadAt 32 g1_1) h_2 fun t7_1 =>
  callM P 126 #[t7_1] h_2 fun t8_1 h_3 =>
  K (.tuple #[t8_1, (Value.bool true)]) h_3)
theorem e68 (g0_1 : Value) (h : Heap) (K : Value → Heap → Prop) : wpA Try.prog 9 (anOf []) (bodyOf Try.f68) 1 (fun A h => resA Try.prog A h K [.tmp 2, .tmp 3]) (fun _ _ _ => False) (fun A h => resA Try.prog A h K [.tmp 2, .tmp 3]) (aargs [g0_1] 0) h = t68 Try.prog g0_1 h K := by kernel_rfl
theorem c68 (g0_1 : Value) (h : Heap) (K : Value → Heap → Prop) (H : t68 Try.prog g0_1 h K) : callM Try.prog 68 #[g0_1] h K :=
  callM_of_wpA mixed (fn := Try.f68) Try.func68 (c := bodyOf Try.f68) rfl (of_decide_eq_true (by kernel_rfl)) (anOf []) 8 9 (by kernel_rfl) rfl [.tmp 2, .tmp 3] (by kernel_rfl) (args := [g0_1]) (by rw [e68]; exact H)

/-! impl.isGraph -/
def t88 (P : Program) (g0_1 : Value) (h : Heap) (K : Value → Heap → Prop) : Prop :=
  eop P (Instr.box 32 g0_1) h fun g1_1 h_1 =>
  pop P (Instr.fieldAt 32 g1_1 0) fun t6_1 =>
  rop P (Instr.loadAt 22 t6_1) h_1 fun t7_1 =>
  pop P (lenS 22 3 t7_1) fun t8_1 =>
  eop P (Instr.alloc 3 true (.tuple #[])) h_1 fun n3_1 h_2 =>
  uop P (Instr.storeAt 3 n3_1 t8_1) h_2 fun u_1 h_3 =>
  rop P (Instr.loadAt 3 n3_1) h_3 fun t9_1 =>
  callM P 113 #[t9_1, (Value.int IntKind.i64 1), (Value.int IntKind.i64 8)] h_3 fun t10_1 h_4 =>
  pop P (Op.unary .not t10_1) fun t11_1 =>
  condM t11_1
  (K (Value.bool false) h_4)
  (pop P (Instr.fieldAt 32 g1_1 0) fun t12_1 =>
  rop P (Instr.loadAt 22 t12_1) h_4 fun t13_1 =>
  pop P (lenS 22 3 t13_1) fun t14_1 =>
  ∃ (I_1 : List Value → Heap → Prop) (μ_1 : List Value → Heap → Nat), I_1 [(Value.int IntKind.i64 0)] h_4 ∧
  ∀ (junk_1 : Nat → Value) (t15_1 : Value) (h_5 : Heap), I_1 [t15_1] h_5 →
  pop P (binA .lss 3 t15_1 t14_1) fun t16_1 =>
  condM t16_1
  (pop P (Instr.indexAt 22 t13_1 t15_1) fun t17_1 =>
  rop P (Instr.loadAt 25 t17_1) h_5 fun t18_1 =>
  pop P (lenS 25 3 t18_1) fun t20_1 =>
  pop P (binA .gtr 3 t20_1 (Value.int IntKind.i64 5)) fun t21_1 =>
  guardM t21_1 false (fun k_1 => k_1 t18_1 h_5) h_5 fun t23_1 h_6 =>
  guardM t21_1 false (fun k_2 => pop P (Instr.makeFunc (Fn.func 150) #[] #[n3_1]) fun t24_1 =>
  k_2 t24_1 h_6) h_6 fun t24_2 h_7 =>
  guardM t21_1 false (fun k_3 => callM P 102 #[t23_1, t24_2] h_7 fun t25_1 h_8 =>
  k_3 t25_1 h_8) h_7 fun t25_2 h_9 =>
  pop P (pickS t21_1 (Value.bool true) t25_2) fun t26_1 =>
  condM t26_1
  (K (Value.bool false) h_9)
  (pop P (binA .add 3 t15_1 (Value.int IntKind.i64 1)) fun t27_1 =>
  I_1 [t27_1] h_9 ∧ μ_1 [t27_1] h_9 < μ_1 [t15_1] h_5))
  (K (Value.bool true) h_5))
theorem e88 (g0_1 : Value) (h : Heap) (K : Value → Heap → Prop) : wpA Try.prog 28 (anOf [(122, [15])]) (bodyOf Try.f88) 1 (fun A h => resA Try.prog A h K [.tmp 2]) (fun _ _ _ => False) (fun A h => resA Try.prog A h K [.tmp 2]) (aargs [g0_1] 0) h = t88 Try.prog g0_1 h K := by kernel_rfl
theorem c88 (g0_1 : Value) (h : Heap) (K : Value → Heap → Prop) (H : t88 Try.prog g0_1 h K) : callM Try.prog 88 #[g0_1] h K :=
  callM_of_wpA mixed (fn := Try.f88) Try.func88 (c := bodyOf Try.f88) rfl (of_decide_eq_true (by kernel_rfl)) (anOf [(122, [15])]) 27 28 (by kernel_rfl) rfl [.tmp 2] (by kernel_rfl) (args := [g0_1]) (by rw [e88]; exact H)

/-! (*spec.l1Cur).one -/
def t99 (P : Program) (c0_1 : Value) (n1_1 : Value) (h : Heap) (K : Value → Heap → Prop) : Prop :=
  callM P 100 #[c0_1, n1_1] h fun t7_1 h_1 =>
  pop P (binE .eql 3 (.tmp 7) (.const (Value.int IntKind.i64 0)) t7_1 (Value.int IntKind.i64 0)) fun t8_1 =>
  K t8_1 h_1
theorem e99 (c0_1 : Value) (n1_1 : Value) (h : Heap) (K : Value → Heap → Prop) : wpA Try.prog 9 (anOf []) (bodyOf Try.f99) 1 (fun A h => resA Try.prog A h K [.tmp 4]) (fun _ _ _ => False) (fun A h => resA Try.prog A h K [.tmp 4]) (aargs [c0_1, n1_1] 0) h = t99 Try.prog c0_1 n1_1 h K := by kernel_rfl
theorem c99 (c0_1 : Value) (n1_1 : Value) (h : Heap) (K : Value → Heap → Prop) (H : t99 Try.prog c0_1 n1_1 h K) : callM Try.prog 99 #[c0_1, n1_1] h K :=
  callM_of_wpA mixed (fn := Try.f99) Try.func99 (c := bodyOf Try.f99) rfl (of_decide_eq_true (by kernel_rfl)) (anOf []) 7 9 (by kernel_rfl) rfl [.tmp 4] (by kernel_rfl) (args := [c0_1, n1_1]) (by rw [e99]; exact H)

/-! (*spec.l1Cur).pick -/
def t100 (P : Program) (c0_1 : Value) (n1_1 : Value) (h : Heap) (K : Value → Heap → Prop) : Prop :=
  pop P (binA .leq 3 n1_1 (Value.int IntKind.i64 1)) fun t7_1 =>
  condM t7_1
  (K (Value.int IntKind.i64 0) h)
  (callM P 158 #[c0_1] h fun t9_1 h_1 =>
  ∃ J_1 : List Value → Heap → Prop, (pop P (binA .gtr 3 n1_1 (Value.int IntKind.i64 200)) fun t11_1 =>
  condM t11_1
  (pop P (binA .mul 3 t9_1 (Value.int IntKind.i64 256)) fun t13_1 =>
  callM P 158 #[c0_1] h_1 fun t15_1 h_2 =>
  pop P (binA .add 3 t13_1 t15_1) fun t16_1 =>
  J_1 [t16_1] h_2)
  (J_1 [t9_1] h_1)) ∧
  ∀ (junk_1 : Nat → Value) (x5_1 : Value) (h_3 : Heap), J_1 [x5_1] h_3 →
  pop P (binA .rem 3 x5_1 n1_1) fun t19_1 =>
  K t19_1 h_3)
theorem e100 (c0_1 : Value) (n1_1 : Value) (h : Heap) (K : Value → Heap → Prop) : wpA Try.prog 20 (anOf [(15, [5])]) (bodyOf Try.f100) 1 (fun A h => resA Try.prog A h K [.tmp 4]) (fun _ _ _ => False) (fun A h => resA Try.prog A h K [.tmp 4]) (aargs [c0_1, n1_1] 0) h = t100 Try.prog c0_1 n1_1 h K := by kernel_rfl
theorem c100 (c0_1 : Value) (n1_1 : Value) (h : Heap) (K : Value → Heap → Prop) (H : t100 Try.prog c0_1 n1_1 h K) : callM Try.prog 100 #[c0_1, n1_1] h K :=
  callM_of_wpA mixed (fn := Try.f100) Try.func100 (c := bodyOf Try.f100) rfl (of_decide_eq_true (by kernel_rfl)) (anOf [(15, [5])]) 18 20 (by kernel_rfl) rfl [.tmp 4] (by kernel_rfl) (args := [c0_1, n1_1]) (by rw [e100]; exact H)

/-! (*spec.l1Cur).among -/
def t101 (P : Program) (c0_1 : Value) (list1_1 : Value) (h : Heap) (K : Value → Heap → Prop) : Prop :=
  pop P (lenS 25 3 list1_1) fun t8_1 =>
  callM P 100 #[c0_1, t8_1] h fun t9_1 h_1 =>
  pop P (Instr.indexAt 25 list1_1 t9_1) fun t10_1 =>
  rop P (Instr.loadAt 3 t10_1) h_1 fun t11_1 =>
  K t11_1 h_1
theorem e101 (c0_1 : Value) (list1_1 : Value) (h : Heap) (K : Value → Heap → Prop) : wpA Try.prog 12 (anOf []) (bodyOf Try.f101) 1 (fun A h => resA Try.prog A h K [.tmp 4]) (fun _ _ _ => False) (fun A h => resA Try.prog A h K [.tmp 4]) (aargs [c0_1, list1_1] 0) h = t101 Try.prog c0_1 list1_1 h K := by kernel_rfl
theorem c101 (c0_1 : Value) (list1_1 : Value) (h : Heap) (K : Value → Heap → Prop) (H : t101 Try.prog c0_1 list1_1 h K) : callM Try.prog 101 #[c0_1, list1_1] h K :=
  callM_of_wpA mixed (fn := Try.f101) Try.func101 (c := bodyOf Try.f101) rfl (of_decide_eq_true (by kernel_rfl)) (anOf []) 10 12 (by kernel_rfl) rfl [.tmp 4] (by kernel_rfl) (args := [c0_1, list1_1]) (by rw [e101]; exact H)

/-! slices.ContainsFunc[[]int,int] -/
def t102 (P : Program) (s0_1 : Value) (f1_1 : Value) (h : Heap) (K : Value → Heap → Prop) : Prop :=
  callM P 159 #[s0_1, f1_1] h fun t7_1 h_1 =>
  pop P (binA .geq 3 t7_1 (Value.int IntKind.i64 0)) fun t8_1 =>
  K t8_1 h_1
theorem e102 (s0_1 : Value) (f1_1 : Value) (h : Heap) (K : Value → Heap → Prop) : wpA Try.prog 9 (anOf []) (bodyOf Try.f102) 1 (fun A h => resA Try.prog A h K [.tmp 4]) (fun _ _ _ => False) (fun A h => resA Try.prog A h K [.tmp 4]) (aargs [s0_1, f1_1] 0) h = t102 Try.prog s0_1 f1_1 h K := by kernel_rfl
theorem c102 (s0_1 : Value) (f1_1 : Value) (h : Heap) (K : Value → Heap → Prop) (H : t102 Try.prog s0_1 f1_1 h K) : callM Try.prog 102 #[s0_1, f1_1] h K :=
  callM_of_wpA mixed (fn := Try.f102) Try.func102 (c := bodyOf Try.f102) rfl (of_decide_eq_true (by kernel_rfl)) (anOf []) 7 9 (by kernel_rfl) rfl [.tmp 4] (by kernel_rfl) (args := [s0_1, f1_1]) (by rw [e102]; exact H)

/-! spec.l1All -/
def t104 (P : Program) (l0_1 : Value) (lo1_1 : Value) (hi2_1 : Value) (h : Heap) (K : Value → Heap → Prop) : Prop :=
  pop P (lenS 25 3 l0_1) fun t10_1 =>
  ∃ (I_1 : List Value → Heap → Prop) (μ_1 : List Value → Heap → Nat), I_1 [(Value.int IntKind.i64 0)] h ∧
  ∀ (junk_1 : Nat → Value) (t11_1 : Value) (h_1 : Heap), I_1 [t11_1] h_1 →
  pop P (binA .lss 3 t11_1 t10_1) fun t12_1 =>
  condM t12_1
  (pop P (Instr.indexAt 25 l0_1 t11_1) fun t13_1 =>
  rop P (Instr.loadAt 3 t13_1) h_1 fun t14_1 =>
  callM P 117 #[t14_1, lo1_1, hi2_1] h_1 fun t18_1 h_2 =>
  pop P (Op.unary .not t18_1) fun t19_1 =>
  condM t19_1
  (K (Value.bool false) h_2)
  (pop P (binA .add 3 t11_1 (Value.int IntKind.i64 1)) fun t20_1 =>
  I_1 [t20_1] h_2 ∧ μ_1 [t20_1] h_2 < μ_1 [t11_1] h_1))
  (K (Value.bool true) h_1)
theorem e104 (l0_1 : Value) (lo1_1 : Value) (hi2_1 : Value) (h : Heap) (K : Value → Heap → Prop) : wpA Try.prog 21 (anOf [(26, [11])]) (bodyOf Try.f104) 1 (fun A h => resA Try.prog A h K [.tmp 6]) (fun _ _ _ => False) (fun A h => resA Try.prog A h K [.tmp 6]) (aargs [l0_1, lo1_1, hi2_1] 0) h = t104 Try.prog l0_1 lo1_1 hi2_1 h K := by kernel_rfl
theorem c104 (l0_1 : Value) (lo1_1 : Value) (hi2_1 : Value) (h : Heap) (K : Value → Heap → Prop) (H : t104 Try.prog l0_1 lo1_1 hi2_1 h K) : callM Try.prog 104 #[l0_1, lo1_1, hi2_1] h K :=
  callM_of_wpA mixed (fn := Try.f104) Try.func104 (c := bodyOf Try.f104) rfl (of_decide_eq_true (by kernel_rfl)) (anOf [(26, [11])]) 18 21 (by kernel_rfl) rfl [.tmp 6] (by kernel_rfl) (args := [l0_1, lo1_1, hi2_1]) (by rw [e104]; exact H)

/-! (*spec.l1Cur).place -/
def t106 (P : Program) (c0_1 : Value) (g1_1 : Value) (h : Heap) (K : Value → Heap → Prop) : Prop :=
  eop P (Instr.box 32 g1_1) h fun g3_1 h_1 =>
  pop P (Instr.fieldAt 32 g3_1 0) fun t5_1 =>
  rop P (Instr.loadAt 22 t5_1) h_1 fun t6_1 =>
  pop P (lenS 22 3 t6_1) fun t7_1 =>
  pop P (binE .eql 3 (.tmp 7) (.const (Value.int IntKind.i64 0)) t7_1 (Value.int IntKind.i64 0)) fun t8_1 =>
  guardM t8_1 false (fun k_1 => k_1 c0_1 h_1) h_1 fun t10_1 h_2 =>
  guardM t8_1 false (fun k_2 => callM P 99 #[t10_1, (Value.int IntKind.i64 14)] h_2 fun t11_1 h_3 =>
  k_2 t11_1 h_3) h_2 fun t11_2 h_4 =>
  pop P (pickS t8_1 (Value.bool true) t11_2) fun t12_1 =>
  condM t12_1
  (pop P (Instr.fieldAt 32 g3_1 0) fun t14_1 =>
  rop P (Instr.loadAt 22 t14_1) h_4 fun t15_1 =>
  pop P (lenS 22 3 t15_1) fun t16_1 =>
  eop P (Instr.buildSlice 25 4 #[(0, (Value.int IntKind.i64 (-1))), (1, (Value.int IntKind.i64 0)), (2, t16_1), (3, (Value.int IntKind.i64 4611686018427387904))]) h_4 fun t17_1 h_5 =>
  callM P 101 #[c0_1, t17_1] h_5 fun t18_1 h_6 =>
  K t18_1 h_6)
  (pop P (Instr.fieldAt 32 g3_1 0) fun t20_1 =>
  rop P (Instr.loadAt 22 t20_1) h_4 fun t21_1 =>
  pop P (lenS 22 3 t21_1) fun t22_1 =>
  callM P 100 #[c0_1, t22_1] h_4 fun t23_1 h_7 =>
  K t23_1 h_7)
theorem e106 (c0_1 : Value) (g1_1 : Value) (h : Heap) (K : Value → Heap → Prop) : wpA Try.prog 24 (anOf []) (bodyOf Try.f106) 1 (fun A h => resA Try.prog A h K [.tmp 4]) (fun _ _ _ => False) (fun A h => resA Try.prog A h K [.tmp 4]) (aargs [c0_1, g1_1] 0) h = t106 Try.prog c0_1 g1_1 h K := by kernel_rfl
theorem c106 (c0_1 : Value) (g1_1 : Value) (h : Heap) (K : Value → Heap → Prop) (H : t106 Try.prog c0_1 g1_1 h K) : callM Try.prog 106 #[c0_1, g1_1] h K :=
  callM_of_wpA mixed (fn := Try.f106) Try.func106 (c := bodyOf Try.f106) rfl (of_decide_eq_true (by kernel_rfl)) (anOf []) 22 24 (by kernel_rfl) rfl [.tmp 4] (by kernel_rfl) (args := [c0_1, g1_1]) (by rw [e106]; exact H)

/-! impl.has -/
def t107 (P : Program) (g0_1 : Value) (places1_1 : Value) (h : Heap) (K : Value → Heap → Prop) : Prop :=
  eop P (Instr.box 32 g0_1) h fun g2_1 h_1 =>
  rop P (Instr.loadAt 32 g2_1) h_1 fun t5_1 =>
  callM P 88 #[t5_1] h_1 fun t6_1 h_2 =>
  guardM t6_1 true (fun k_1 => k_1 places1_1 h_2) h_2 fun t8_1 h_3 =>
  guardM t6_1 true (fun k_2 => pop P (Instr.makeFunc (Fn.func 161) #[] #[g2_1]) fun t9_1 =>
  k_2 t9_1 h_3) h_3 fun t9_2 h_4 =>
  guardM t6_1 true (fun k_3 => callM P 102 #[t8_1, t9_2] h_4 fun t10_1 h_5 =>
  k_3 t10_1 h_5) h_4 fun t10_2 h_6 =>
  guardM t6_1 true (fun k_4 => pop P (Op.unary .not t10_2) fun t11_1 =>
  k_4 t11_1 h_6) h_6 fun t11_2 h_7 =>
  pop P (pickS t6_1 t11_2 (Value.bool false)) fun t12_1 =>
  K t12_1 h_7
theorem e107 (g0_1 : Value) (places1_1 : Value) (h : Heap) (K : Value → Heap → Prop) : wpA Try.prog 13 (anOf []) (bodyOf Try.f107) 1 (fun A h => resA Try.prog A h K [.tmp 4]) (fun _ _ _ => False) (fun A h => resA Try.prog A h K [.tmp 4]) (aargs [g0_1, places1_1] 0) h = t107 Try.prog g0_1 places1_1 h K := by kernel_rfl
theorem c107 (g0_1 : Value) (places1_1 : Value) (h : Heap) (K : Value → Heap → Prop) (H : t107 Try.prog g0_1 places1_1 h K) : callM Try.prog 107 #[g0_1, places1_1] h K :=
  callM_of_wpA mixed (fn := Try.f107) Try.func107 (c := bodyOf Try.f107) rfl (of_decide_eq_true (by kernel_rfl)) (anOf []) 11 13 (by kernel_rfl) rfl [.tmp 4] (by kernel_rfl) (args := [g0_1, places1_1]) (by rw [e107]; exact H)

/-! (*spec.l1Cur).graph -/
def t112 (P : Program) (c0_1 : Value) (h : Heap) (K : Value → Heap → Prop) : Prop :=
  eop P (Instr.alloc 32 true (.tuple #[])) h fun t2_1 h_1 =>
  callM P 163 #[c0_1, (Value.int IntKind.i64 6)] h_1 fun t5_1 h_2 =>
  eop P (Instr.alloc 32 true (.tuple #[])) h_2 fun g3_1 h_3 =>
  uop P (Instr.storeAt 32 g3_1 t5_1) h_3 fun u_1 h_4 =>
  callM P 100 #[c0_1, (Value.int IntKind.i64 16)] h_4 fun t7_1 h_5 =>
  pop P (binE .eql 3 (.tmp 7) (.const (Value.int IntKind.i64 0)) t7_1 (Value.int IntKind.i64 0)) fun t9_1 =>
  condM t9_1
  (pop P (Instr.fieldAt 32 g3_1 0) fun t10_1 =>
  rop P (Instr.loadAt 22 t10_1) h_5 fun t11_1 =>
  pop P (Instr.fieldAt 32 g3_1 0) fun t12_1 =>
  rop P (Instr.loadAt 22 t12_1) h_5 fun t13_1 =>
  pop P (Instr.indexAt 22 t13_1 (Value.int IntKind.i64 0)) fun t14_1 =>
  rop P (Instr.loadAt 25 t14_1) h_5 fun t15_1 =>
  pop P (Instr.fieldAt 32 g3_1 0) fun t17_1 =>
  rop P (Instr.loadAt 22 t17_1) h_5 fun t18_1 =>
  pop P (lenS 22 3 t18_1) fun t19_1 =>
  eop P (Instr.buildSlice 25 3 #[(0, (Value.int IntKind.i64 (-1))), (1, t19_1), (2, (Value.int IntKind.i64 4611686018427387904))]) h_5 fun t20_1 h_6 =>
  (∀ w : World, w.heap = h_6 → (Instr.loadAt 22 t17_1).run P w = .ok t18_1 w) ∧
  (∀ w : World, w.heap = h_6 → (Instr.loadAt 25 t14_1).run P w = .ok t15_1 w) ∧
  (∀ w : World, w.heap = h_6 → (Instr.loadAt 22 t12_1).run P w = .ok t13_1 w) ∧
  (∀ w : World, w.heap = h_6 → (Instr.loadAt 22 t10_1).run P w = .ok t11_1 w) ∧
  callM P 101 #[c0_1, t20_1] h_6 fun t21_1 h_7 =>
  (∀ w : World, w.heap = h_7 → (Instr.loadAt 22 t17_1).run P w = .ok t18_1 w) ∧
  (∀ w : World, w.heap = h_7 → (Instr.loadAt 25 t14_1).run P w = .ok t15_1 w) ∧
  (∀ w : World, w.heap = h_7 → (Instr.loadAt 22 t12_1).run P w = .ok t13_1 w) ∧
  (∀ w : World, w.heap = h_7 → (Instr.loadAt 22 t10_1).run P w = .ok t11_1 w) ∧
  eop P (Instr.buildSlice 25 1 #[(0, t21_1)]) h_7 fun t22_1 h_8 =>
  (∀ w : World, w.heap = h_8 → (Instr.loadAt 22 t17_1).run P w = .ok t18_1 w) ∧
  (∀ w : World, w.heap = h_8 → (Instr.loadAt 25 t14_1).run P w = .ok t15_1 w) ∧
  (∀ w : World, w.heap = h_8 → (Instr.loadAt 22 t12_1).run P w = .ok t13_1 w) ∧
  (∀ w : World, w.heap = h_8 → (Instr.loadAt 22 t10_1).run P w = .ok t11_1 w) ∧
  eop P (appS 25 25 25 t15_1 t22_1) h_8 fun t23_1 h_9 =>
  (∀ w : World, w.heap = h_9 → (Instr.loadAt 22 t17_1).run P w = .ok t18_1 w) ∧
  (∀ w : World, w.heap = h_9 → (Instr.loadAt 22 t12_1).run P w = .ok t13_1 w) ∧
  (∀ w : World, w.heap = h_9 → (Instr.loadAt 22 t10_1).run P w = .ok t11_1 w) ∧
  pop P (Instr.indexAt 22 t11_1 (Value.int IntKind.i64 0)) fun t24_1 =>
  uop P (Instr.storeAt 25 t24_1 t23_1) h_9 fun u_2 h_10 =>
  rop P (Instr.loadAt 32 g3_1) h_10 fun t52_1 =>
  uop P (Instr.storeAt 32 t2_1 t52_1) h_10 fun u_3 h_11 =>
  rop P (Instr.loadAt 32 t2_1) h_11 fun r_1 =>
  K r_1 h_11)
  (pop P (binE .eql 3 (.tmp 7) (.const (Value.int IntKind.i64 1)) t7_1 (Value.int IntKind.i64 1)) fun t26_1 =>
  condM t26_1
  (pop P (Instr.fieldAt 32 g3_1 0) fun t27_1 =>
  rop P (Instr.loadAt 22 t27_1) h_5 fun t28_1 =>
  callM P 100 #[c0_1, (Value.int IntKind.i64 2)] h_5 fun t30_1 h_12 =>
  (∀ w : World, w.heap = h_12 → (Instr.loadAt 22 t27_1).run P w = .ok t28_1 w) ∧
  pop P (binA .add 3 (Value.int IntKind.i64 5) t30_1) fun t31_1 =>
  eop P (Instr.makeSlice 25 t31_1 t31_1) h_12 fun t32_1 h_13 =>
  (∀ w : World, w.heap = h_13 → (Instr.loadAt 22 t27_1).run P w = .ok t28_1 w) ∧
  pop P (Instr.indexAt 22 t28_1 (Value.int IntKind.i64 0)) fun t33_1 =>
  uop P (Instr.storeAt 25 t33_1 t32_1) h_13 fun u_4 h_14 =>
  rop P (Instr.loadAt 32 g3_1) h_14 fun t52_2 =>
  uop P (Instr.storeAt 32 t2_1 t52_2) h_14 fun u_5 h_15 =>
  rop P (Instr.loadAt 32 t2_1) h_15 fun r_2 =>
  K r_2 h_15)
  (pop P (binE .eql 3 (.tmp 7) (.const (Value.int IntKind.i64 2)) t7_1 (Value.int IntKind.i64 2)) fun t35_1 =>
  condM t35_1
  (∃ (I_1 : List Value → Heap → Prop) (μ_1 : List Value → Heap → Nat), I_1 [] h_5 ∧
  ∀ (junk_1 : Nat → Value) (h_16 : Heap), I_1 [] h_16 →
  pop P (Instr.fieldAt 32 g3_1 0) fun t36_1 =>
  rop P (Instr.loadAt 22 t36_1) h_16 fun t37_1 =>
  pop P (lenS 22 3 t37_1) fun t38_1 =>
  callM P 100 #[c0_1, (Value.int IntKind.i64 2)] h_16 fun t40_1 h_17 =>
  (∀ w : World, w.heap = h_17 → (Instr.loadAt 22 t36_1).run P w = .ok t37_1 w) ∧
  pop P (binA .add 3 (Value.int IntKind.i64 8) t40_1) fun t41_1 =>
  pop P (binA .lss 3 t38_1 t41_1) fun t42_1 =>
  condM t42_1
  (pop P (Instr.fieldAt 32 g3_1 0) fun t43_1 =>
  rop P (Instr.loadAt 22 t43_1) h_17 fun t44_1 =>
  eop P (Instr.buildSlice 25 1 #[(0, (Value.int IntKind.i64 0))]) h_17 fun t45_1 h_18 =>
  eop P (Instr.buildSlice 22 1 #[(0, t45_1)]) h_18 fun t46_1 h_19 =>
  eop P (appS 22 22 22 t44_1 t46_1) h_19 fun t47_1 h_20 =>
  pop P (Instr.fieldAt 32 g3_1 0) fun t48_1 =>
  uop P (Instr.storeAt 22 t48_1 t47_1) h_20 fun u_6 h_21 =>
  I_1 [] h_21 ∧ μ_1 [] h_21 < μ_1 [] h_16)
  (rop P (Instr.loadAt 32 g3_1) h_17 fun t52_3 =>
  uop P (Instr.storeAt 32 t2_1 t52_3) h_17 fun u_7 h_22 =>
  rop P (Instr.loadAt 32 t2_1) h_22 fun r_3 =>
  K r_3 h_22))
  (pop P (binE .eql 3 (.tmp 7) (.const (Value.int IntKind.i64 3)) t7_1 (Value.int IntKind.i64 3)) fun t50_1 =>
  condM t50_1
  (pop P (Instr.build 32 #[]) fun t51_1 =>
  uop P (Instr.storeAt 32 g3_1 t51_1) h_5 fun u_8 h_23 =>
  rop P (Instr.loadAt 32 g3_1) h_23 fun t52_4 =>
  uop P (Instr.storeAt 32 t2_1 t52_4) h_23 fun u_9 h_24 =>
  rop P (Instr.loadAt 32 t2_1) h_24 fun r_4 =>
  K r_4 h_24)
  (rop P (Instr.loadAt 32 g3_1) h_5 fun t52_5 =>
  uop P (Instr.storeAt 32 t2_1 t52_5) h_5 fun u_10 h_25 =>
  rop P (Instr.loadAt 32 t2_1) h_25 fun r_5 =>
  K r_5 h_25))))
theorem e112 (c0_1 : Value) (h : Heap) (K : Value → Heap → Prop) : wpA Try.prog 53 (anOf [(7548, [])]) (bodyOf Try.f112) 1 (fun A h => resA Try.prog A h K [.cell 2 32]) (fun _ _ _ => False) (fun A h => resA Try.prog A h K [.cell 2 32]) (aargs [c0_1] 0) h = t112 Try.prog c0_1 h K := by kernel_rfl
theorem c112 (c0_1 : Value) (h : Heap) (K : Value → Heap → Prop) (H : t112 Try.prog c0_1 h K) : callM Try.prog 112 #[c0_1] h K :=
  callM_of_wpA mixed (fn := Try.f112) Try.func112 (c := bodyOf Try.f112) rfl (of_decide_eq_true (by kernel_rfl)) (anOf [(7548, [])]) 52 53 (by kernel_rfl) rfl [.cell 2 32] (by kernel_rfl) (args := [c0_1]) (by rw [e112]; exact H)

/-! impl.in -/
def t113 (P : Program) (n0_1 : Value) (low1_1 : Value) (high2_1 : Value) (h : Heap) (K : Value → Heap → Prop) : Prop :=
  pop P (binA .leq 3 low1_1 n0_1) fun t9_1 =>
  guardM t9_1 true (fun k_1 => k_1 n0_1 h) h fun t11_1 h_1 =>
  guardM t9_1 true (fun k_2 => k_2 high2_1 h_1) h_1 fun t12_1 h_2 =>
  guardM t9_1 true (fun k_3 => pop P (binA .leq 3 t11_1 t12_1) fun t13_1 =>
  k_3 t13_1 h_2) h_2 fun t13_2 h_3 =>
  pop P (pickS t9_1 t13_2 (Value.bool false)) fun t14_1 =>
  K t14_1 h_3
theorem e113 (n0_1 : Value) (low1_1 : Value) (high2_1 : Value) (h : Heap) (K : Value → Heap → Prop) : wpA Try.prog 15 (anOf []) (bodyOf Try.f113) 1 (fun A h => resA Try.prog A h K [.tmp 6]) (fun _ _ _ => False) (fun A h => resA Try.prog A h K [.tmp 6]) (aargs [n0_1, low1_1, high2_1] 0) h = t113 Try.prog n0_1 low1_1 high2_1 h K := by kernel_rfl
theorem c113 (n0_1 : Value) (low1_1 : Value) (high2_1 : Value) (h : Heap) (K : Value → Heap → Prop) (H : t113 Try.prog n0_1 low1_1 high2_1 h K) : callM Try.prog 113 #[n0_1, low1_1, high2_1] h K :=
  callM_of_wpA mixed (fn := Try.f113) Try.func113 (c := bodyOf Try.f113) rfl (of_decide_eq_true (by kernel_rfl)) (anOf []) 12 15 (by kernel_rfl) rfl [.tmp 6] (by kernel_rfl) (args := [n0_1, low1_1, high2_1]) (by rw [e113]; exact H)

/-! (impl.Graph).copied -/
def t114 (P : Program) (g0_1 : Value) (h : Heap) (K : Value → Heap → Prop) : Prop :=
  eop P (Instr.box 32 g0_1) h fun g1_1 h_1 =>
  eop P (Instr.alloc 32 true (.tuple #[])) h_1 fun t2_1 h_2 =>
  pop P (Instr.build 32 #[]) fun t6_1 =>
  eop P (Instr.alloc 32 true (.tuple #[])) h_2 fun out3_1 h_3 =>
  uop P (Instr.storeAt 32 out3_1 t6_1) h_3 fun u_1 h_4 =>
  pop P (Instr.fieldAt 32 g1_1 0) fun t7_1 =>
  rop P (Instr.loadAt 22 t7_1) h_4 fun t8_1 =>
  pop P (lenS 22 3 t8_1) fun t9_1 =>
  ∃ (I_1 : List Value → Heap → Prop) (μ_1 : List Value → Heap → Nat), I_1 [(Value.int IntKind.i64 0)] h_4 ∧
  ∀ (junk_1 : Nat → Value) (t10_1 : Value) (h_5 : Heap), I_1 [t10_1] h_5 →
  pop P (binA .lss 3 t10_1 t9_1) fun t11_1 =>
  condM t11_1
  (pop P (Instr.indexAt 22 t8_1 t10_1) fun t12_1 =>
  rop P (Instr.loadAt 25 t12_1) h_5 fun t13_1 =>
  pop P (Instr.fieldAt 32 out3_1 0) fun t14_1 =>
  rop P (Instr.loadAt 22 t14_1) h_5 fun t15_1 =>
  callM P 142 #[t13_1] h_5 fun t17_1 h_6 =>
  (∀ w : World, w.heap = h_6 → (Instr.loadAt 22 t14_1).run P w = .ok t15_1 w) ∧
  eop P (Instr.buildSlice 22 1 #[(0, t17_1)]) h_6 fun t18_1 h_7 =>
  (∀ w : World, w.heap = h_7 → (Instr.loadAt 22 t14_1).run P w = .ok t15_1 w) ∧
  eop P (appS 22 22 22 t15_1 t18_1) h_7 fun t19_1 h_8 =>
  pop P (Instr.fieldAt 32 out3_1 0) fun t20_1 =>
  uop P (Instr.storeAt 22 t20_1 t19_1) h_8 fun u_2 h_9 =>
  pop P (binA .add 3 t10_1 (Value.int IntKind.i64 1)) fun t21_1 =>
  I_1 [t21_1] h_9 ∧ μ_1 [t21_1] h_9 < μ_1 [t10_1] h_5)
  (rop P (Instr.loadAt 32 out3_1) h_5 fun t22_1 =>
  uop P (Instr.storeAt 32 t2_1 t22_1) h_5 fun u_3 h_10 =>
  rop P (Instr.loadAt 32 t2_1) h_10 fun r_1 =>
  K r_1 h_10)
theorem e114 (g0_1 : Value) (h : Heap) (K : Value → Heap → Prop) : wpA Try.prog 23 (anOf [(58, [10])]) (bodyOf Try.f114) 1 (fun A h => resA Try.prog A h K [.cell 2 32]) (fun _ _ _ => False) (fun A h => resA Try.prog A h K [.cell 2 32]) (aargs [g0_1] 0) h = t114 Try.prog g0_1 h K := by kernel_rfl
theorem c114 (g0_1 : Value) (h : Heap) (K : Value → Heap → Prop) (H : t114 Try.prog g0_1 h K) : callM Try.prog 114 #[g0_1] h K :=
  callM_of_wpA mixed (fn := Try.f114) Try.func114 (c := bodyOf Try.f114) rfl (of_decide_eq_true (by kernel_rfl)) (anOf [(58, [10])]) 22 23 (by kernel_rfl) rfl [.cell 2 32] (by kernel_rfl) (args := [g0_1]) (by rw [e114]; exact H)

/-! slices.Concat[[]int,int] -/
def t115 (P : Program) (slices0_1 : Value) (h : Heap) (K : Value → Heap → Prop) : Prop :=
  pop P (lenS 22 3 slices0_1) fun t10_1 =>
  ∃ (I_1 : List Value → Heap → Prop) (μ_1 : List Value → Heap → Nat), I_1 [(Value.int IntKind.i64 0), (Value.int IntKind.i64 0)] h ∧
  ∀ (junk_1 : Nat → Value) (size3_1 : Value) (t11_1 : Value) (h_1 : Heap), I_1 [size3_1, t11_1] h_1 →
  pop P (binA .lss 3 t11_1 t10_1) fun t12_1 =>
  condM t12_1
  (pop P (Instr.indexAt 22 slices0_1 t11_1) fun t13_1 =>
  rop P (Instr.loadAt 25 t13_1) h_1 fun t14_1 =>
  pop P (lenS 25 3 t14_1) fun t17_1 =>
  pop P (binA .add 3 size3_1 t17_1) fun t18_1 =>
  pop P (binA .lss 3 t18_1 (Value.int IntKind.i64 0)) fun t20_1 =>
  condM t20_1
  (pop P (Instr.makeInterface 9 (Value.string { data := #[108, 101, 110, 32, 111, 117, 116, 32, 111, 102, 32, 114, 97, 110, 103, 101] })) fun t21_1 =>
  False)
  (pop P (binA .add 3 t11_1 (Value.int IntKind.i64 1)) fun t22_1 =>
  I_1 [t18_1, t22_1] h_1 ∧ μ_1 [t18_1, t22_1] h_1 < μ_1 [size3_1, t11_1] h_1))
  (callM P 164 #[(Value.slice none 0 0), size3_1] h_1 fun t24_1 h_2 =>
  pop P (lenS 22 3 slices0_1) fun t26_1 =>
  ∃ (I_2 : List Value → Heap → Prop) (μ_2 : List Value → Heap → Nat), I_2 [t24_1, (Value.int IntKind.i64 0)] h_2 ∧
  ∀ (junk_2 : Nat → Value) (newslice6_1 : Value) (t27_1 : Value) (h_3 : Heap), I_2 [newslice6_1, t27_1] h_3 →
  pop P (binA .lss 3 t27_1 t26_1) fun t28_1 =>
  condM t28_1
  (pop P (Instr.indexAt 22 slices0_1 t27_1) fun t29_1 =>
  rop P (Instr.loadAt 25 t29_1) h_3 fun t30_1 =>
  eop P (appS 25 25 25 newslice6_1 t30_1) h_3 fun t33_1 h_4 =>
  pop P (binA .add 3 t27_1 (Value.int IntKind.i64 1)) fun t34_1 =>
  I_2 [t33_1, t34_1] h_4 ∧ μ_2 [t33_1, t34_1] h_4 < μ_2 [newslice6_1, t27_1] h_3)
  (K newslice6_1 h_3))
theorem e115 (slices0_1 : Value) (h : Heap) (K : Value → Heap → Prop) : wpA Try.prog 36 (anOf [(58, [3, 11]), (250, [6, 27])]) (bodyOf Try.f115) 1 (fun A h => resA Try.prog A h K [.tmp 2]) (fun _ _ _ => False) (fun A h => resA Try.prog A h K [.tmp 2]) (aargs [slices0_1] 0) h = t115 Try.prog slices0_1 h K := by kernel_rfl
theorem c115 (slices0_1 : Value) (h : Heap) (K : Value → Heap → Prop) (H : t115 Try.prog slices0_1 h K) : callM Try.prog 115 #[slices0_1] h K :=
  callM_of_wpA mixed (fn := Try.f115) Try.func115 (c := bodyOf Try.f115) rfl (of_decide_eq_true (by kernel_rfl)) (anOf [(58, [3, 11]), (250, [6, 27])]) 35 36 (by kernel_rfl) rfl [.tmp 2] (by kernel_rfl) (args := [slices0_1]) (by rw [e115]; exact H)

/-! spec.grPlace -/
def t116 (P : Program) (g0_1 : Value) (p1_1 : Value) (h : Heap) (K : Value → Heap → Prop) : Prop :=
  eop P (Instr.box 32 g0_1) h fun g2_1 h_1 =>
  rop P (Instr.loadAt 32 g2_1) h_1 fun t5_1 =>
  callM P 165 #[t5_1] h_1 fun t6_1 h_2 =>
  guardM t6_1 true (fun k_1 => k_1 p1_1 h_2) h_2 fun t8_1 h_3 =>
  guardM t6_1 true (fun k_2 => pop P (Instr.fieldAt 32 g2_1 0) fun t9_1 =>
  k_2 t9_1 h_3) h_3 fun t9_2 h_4 =>
  guardM t6_1 true (fun k_3 => rop P (Instr.loadAt 22 t9_2) h_4 fun t10_1 =>
  k_3 t10_1 h_4) h_4 fun t10_2 h_5 =>
  guardM t6_1 true (fun k_4 => pop P (lenS 22 3 t10_2) fun t11_1 =>
  k_4 t11_1 h_5) h_5 fun t11_2 h_6 =>
  guardM t6_1 true (fun k_5 => pop P (binA .sub 3 t11_2 (Value.int IntKind.i64 1)) fun t12_1 =>
  k_5 t12_1 h_6) h_6 fun t12_2 h_7 =>
  guardM t6_1 true (fun k_6 => callM P 117 #[t8_1, (Value.int IntKind.i64 0), t12_2] h_7 fun t13_1 h_8 =>
  k_6 t13_1 h_8) h_7 fun t13_2 h_9 =>
  pop P (pickS t6_1 t13_2 (Value.bool false)) fun t14_1 =>
  K t14_1 h_9
theorem e116 (g0_1 : Value) (p1_1 : Value) (h : Heap) (K : Value → Heap → Prop) : wpA Try.prog 15 (anOf []) (bodyOf Try.f116) 1 (fun A h => resA Try.prog A h K [.tmp 4]) (fun _ _ _ => False) (fun A h => resA Try.prog A h K [.tmp 4]) (aargs [g0_1, p1_1] 0) h = t116 Try.prog g0_1 p1_1 h K := by kernel_rfl
theorem c116 (g0_1 : Value) (p1_1 : Value) (h : Heap) (K : Value → Heap → Prop) (H : t116 Try.prog g0_1 p1_1 h K) : callM Try.prog 116 #[g0_1, p1_1] h K :=
  callM_of_wpA mixed (fn := Try.f116) Try.func116 (c := bodyOf Try.f116) rfl (of_decide_eq_true (by kernel_rfl)) (anOf []) 13 15 (by kernel_rfl) rfl [.tmp 4] (by kernel_rfl) (args := [g0_1, p1_1]) (by rw [e116]; exact H)

/-! spec.l1In -/
def t117 (P : Program) (n0_1 : Value) (lo1_1 : Value) (hi2_1 : Value) (h : Heap) (K : Value → Heap → Prop) : Prop :=
  pop P (binA .geq 3 n0_1 lo1_1) fun t9_1 =>
  guardM t9_1 true (fun k_1 => k_1 n0_1 h) h fun t11_1 h_1 =>
  guardM t9_1 true (fun k_2 => k_2 hi2_1 h_1) h_1 fun t12_1 h_2 =>
  guardM t9_1 true (fun k_3 => pop P (binA .leq 3 t11_1 t12_1) fun t13_1 =>
  k_3 t13_1 h_2) h_2 fun t13_2 h_3 =>
  pop P (pickS t9_1 t13_2 (Value.bool false)) fun t14_1 =>
  K t14_1 h_3
theorem e117 (n0_1 : Value) (lo1_1 : Value) (hi2_1 : Value) (h : Heap) (K : Value → Heap → Prop) : wpA Try.prog 15 (anOf []) (bodyOf Try.f117) 1 (fun A h => resA Try.prog A h K [.tmp 6]) (fun _ _ _ => False) (fun A h => resA Try.prog A h K [.tmp 6]) (aargs [n0_1, lo1_1, hi2_1] 0) h = t117 Try.prog n0_1 lo1_1 hi2_1 h K := by kernel_rfl
theorem c117 (n0_1 : Value) (lo1_1 : Value) (hi2_1 : Value) (h : Heap) (K : Value → Heap → Prop) (H : t117 Try.prog n0_1 lo1_1 hi2_1 h K) : callM Try.prog 117 #[n0_1, lo1_1, hi2_1] h K :=
  callM_of_wpA mixed (fn := Try.f117) Try.func117 (c := bodyOf Try.f117) rfl (of_decide_eq_true (by kernel_rfl)) (anOf []) 12 15 (by kernel_rfl) rfl [.tmp 6] (by kernel_rfl) (args := [n0_1, lo1_1, hi2_1]) (by rw [e117]; exact H)

/-! spec.grCopy -/
def t118 (P : Program) (g0_1 : Value) (h : Heap) (K : Value → Heap → Prop) : Prop :=
  eop P (Instr.box 32 g0_1) h fun g1_1 h_1 =>
  eop P (Instr.alloc 32 true (.tuple #[])) h_1 fun t2_1 h_2 =>
  pop P (Instr.build 32 #[]) fun t6_1 =>
  eop P (Instr.alloc 32 true (.tuple #[])) h_2 fun out3_1 h_3 =>
  uop P (Instr.storeAt 32 out3_1 t6_1) h_3 fun u_1 h_4 =>
  pop P (Instr.fieldAt 32 g1_1 0) fun t7_1 =>
  rop P (Instr.loadAt 22 t7_1) h_4 fun t8_1 =>
  pop P (lenS 22 3 t8_1) fun t9_1 =>
  ∃ (I_1 : List Value → Heap → Prop) (μ_1 : List Value → Heap → Nat), I_1 [(Value.int IntKind.i64 0)] h_4 ∧
  ∀ (junk_1 : Nat → Value) (t10_1 : Value) (h_5 : Heap), I_1 [t10_1] h_5 →
  pop P (binA .lss 3 t10_1 t9_1) fun t11_1 =>
  condM t11_1
  (pop P (Instr.indexAt 22 t8_1 t10_1) fun t12_1 =>
  rop P (Instr.loadAt 25 t12_1) h_5 fun t13_1 =>
  pop P (Instr.fieldAt 32 out3_1 0) fun t14_1 =>
  rop P (Instr.loadAt 22 t14_1) h_5 fun t15_1 =>
  callM P 130 #[t13_1] h_5 fun t17_1 h_6 =>
  (∀ w : World, w.heap = h_6 → (Instr.loadAt 22 t14_1).run P w = .ok t15_1 w) ∧
  eop P (Instr.buildSlice 22 1 #[(0, t17_1)]) h_6 fun t18_1 h_7 =>
  (∀ w : World, w.heap = h_7 → (Instr.loadAt 22 t14_1).run P w = .ok t15_1 w) ∧
  eop P (appS 22 22 22 t15_1 t18_1) h_7 fun t19_1 h_8 =>
  pop P (Instr.fieldAt 32 out3_1 0) fun t20_1 =>
  uop P (Instr.storeAt 22 t20_1 t19_1) h_8 fun u_2 h_9 =>
  pop P (binA .add 3 t10_1 (Value.int IntKind.i64 1)) fun t21_1 =>
  I_1 [t21_1] h_9 ∧ μ_1 [t21_1] h_9 < μ_1 [t10_1] h_5)
  (rop P (Instr.loadAt 32 out3_1) h_5 fun t22_1 =>
  uop P (Instr.storeAt 32 t2_1 t22_1) h_5 fun u_3 h_10 =>
  rop P (Instr.loadAt 32 t2_1) h_10 fun r_1 =>
  K r_1 h_10)
theorem e118 (g0_1 : Value) (h : Heap) (K : Value → Heap → Prop) : wpA Try.prog 23 (anOf [(58, [10])]) (bodyOf Try.f118) 1 (fun A h => resA Try.prog A h K [.cell 2 32]) (fun _ _ _ => False) (fun A h => resA Try.prog A h K [.cell 2 32]) (aargs [g0_1] 0) h = t118 Try.prog g0_1 h K := by kernel_rfl
theorem c118 (g0_1 : Value) (h : Heap) (K : Value → Heap → Prop) (H : t118 Try.prog g0_1 h K) : callM Try.prog 118 #[g0_1] h K :=
  callM_of_wpA mixed (fn := Try.f118) Try.func118 (c := bodyOf Try.f118) rfl (of_decide_eq_true (by kernel_rfl)) (anOf [(58, [10])]) 22 23 (by kernel_rfl) rfl [.cell 2 32] (by kernel_rfl) (args := [g0_1]) (by rw [e118]; exact H)

/-! laws.wRows -/
def t119 (P : Program) (a0_1 : Value) (b1_1 : Value) (h : Heap) (K : Value → Heap → Prop) : Prop :=
  pop P (lenS 22 3 a0_1) fun t7_1 =>
  pop P (lenS 22 3 b1_1) fun t9_1 =>
  pop P (binE .neq 3 (.tmp 7) (.tmp 9) t7_1 t9_1) fun t10_1 =>
  condM t10_1
  (K (Value.bool false) h)
  (pop P (lenS 22 3 a0_1) fun t12_1 =>
  ∃ (I_1 : List Value → Heap → Prop) (μ_1 : List Value → Heap → Nat), I_1 [(Value.int IntKind.i64 0)] h ∧
  ∀ (junk_1 : Nat → Value) (t13_1 : Value) (h_1 : Heap), I_1 [t13_1] h_1 →
  pop P (binA .lss 3 t13_1 t12_1) fun t14_1 =>
  condM t14_1
  (pop P (Instr.indexAt 22 a0_1 t13_1) fun t18_1 =>
  rop P (Instr.loadAt 25 t18_1) h_1 fun t19_1 =>
  pop P (Instr.indexAt 22 b1_1 t13_1) fun t22_1 =>
  rop P (Instr.loadAt 25 t22_1) h_1 fun t23_1 =>
  callM P 166 #[t19_1, t23_1] h_1 fun t24_1 h_2 =>
  pop P (Op.unary .not t24_1) fun t25_1 =>
  condM t25_1
  (K (Value.bool false) h_2)
  (pop P (binA .add 3 t13_1 (Value.int IntKind.i64 1)) fun t26_1 =>
  I_1 [t26_1] h_2 ∧ μ_1 [t26_1] h_2 < μ_1 [t13_1] h_1))
  (K (Value.bool true) h_1))
theorem e119 (a0_1 : Value) (b1_1 : Value) (h : Heap) (K : Value → Heap → Prop) : wpA Try.prog 27 (anOf [(58, [13])]) (bodyOf Try.f119) 1 (fun A h => resA Try.prog A h K [.tmp 4]) (fun _ _ _ => False) (fun A h => resA Try.prog A h K [.tmp 4]) (aargs [a0_1, b1_1] 0) h = t119 Try.prog a0_1 b1_1 h K := by kernel_rfl
theorem c119 (a0_1 : Value) (b1_1 : Value) (h : Heap) (K : Value → Heap → Prop) (H : t119 Try.prog a0_1 b1_1 h K) : callM Try.prog 119 #[a0_1, b1_1] h K :=
  callM_of_wpA mixed (fn := Try.f119) Try.func119 (c := bodyOf Try.f119) rfl (of_decide_eq_true (by kernel_rfl)) (anOf [(58, [13])]) 25 27 (by kernel_rfl) rfl [.tmp 4] (by kernel_rfl) (args := [a0_1, b1_1]) (by rw [e119]; exact H)

/-! spec.DrawWayLength -/
def t120 (P : Program) (code0_1 : Value) (h : Heap) (K : Value → Heap → Prop) : Prop :=
  eop P (Instr.alloc 32 true (.tuple #[])) h fun t2_1 h_1 =>
  pop P (Instr.build 109 #[(0, code0_1)]) fun t8_1 =>
  eop P (Instr.box 109 t8_1) h_1 fun t9_1 h_2 =>
  callM P 112 #[t9_1] h_2 fun t11_1 h_3 =>
  eop P (Instr.alloc 32 true (.tuple #[])) h_3 fun g6_1 h_4 =>
  uop P (Instr.storeAt 32 g6_1 t11_1) h_4 fun u_1 h_5 =>
  rop P (Instr.loadAt 32 g6_1) h_5 fun t12_1 =>
  rop P (Instr.loadAt 32 g6_1) h_5 fun t14_1 =>
  rop P (Instr.loadAt 32 g6_1) h_5 fun t17_1 =>
  callM P 106 #[t9_1, t14_1] h_5 fun t15_1 h_6 =>
  (∀ w : World, w.heap = h_6 → (Instr.loadAt 32 g6_1).run P w = .ok t17_1 w) ∧
  (∀ w : World, w.heap = h_6 → (Instr.loadAt 32 g6_1).run P w = .ok t12_1 w) ∧
  callM P 106 #[t9_1, t17_1] h_6 fun t18_1 h_7 =>
  (∀ w : World, w.heap = h_7 → (Instr.loadAt 32 g6_1).run P w = .ok t12_1 w) ∧
  uop P (Instr.storeAt 32 t2_1 t12_1) h_7 fun u_2 h_8 =>
  rop P (Instr.loadAt 32 t2_1) h_8 fun r_1 =>
  K (.tuple #[r_1, t15_1, t18_1]) h_8
theorem e120 (code0_1 : Value) (h : Heap) (K : Value → Heap → Prop) : wpA Try.prog 19 (anOf []) (bodyOf Try.f120) 1 (fun A h => resA Try.prog A h K [.cell 2 32, .tmp 3, .tmp 4]) (fun _ _ _ => False) (fun A h => resA Try.prog A h K [.cell 2 32, .tmp 3, .tmp 4]) (aargs [code0_1] 0) h = t120 Try.prog code0_1 h K := by kernel_rfl
theorem c120 (code0_1 : Value) (h : Heap) (K : Value → Heap → Prop) (H : t120 Try.prog code0_1 h K) : callM Try.prog 120 #[code0_1] h K :=
  callM_of_wpA mixed (fn := Try.f120) Try.func120 (c := bodyOf Try.f120) rfl (of_decide_eq_true (by kernel_rfl)) (anOf []) 18 19 (by kernel_rfl) rfl [.cell 2 32, .tmp 3, .tmp 4] (by kernel_rfl) (args := [code0_1]) (by rw [e120]; exact H)

/-! impl.told -/
def t121 (P : Program) (g0_1 : Value) (h : Heap) (K : Value → Heap → Prop) : Prop :=
  eop P (Instr.box 32 g0_1) h fun g1_1 h_1 =>
  eop P (Instr.alloc 32 true (.tuple #[])) h_1 fun t2_1 h_2 =>
  rop P (Instr.loadAt 32 g1_1) h_2 fun t4_1 =>
  callM P 88 #[t4_1] h_2 fun t5_1 h_3 =>
  pop P (Op.unary .not t5_1) fun t6_1 =>
  condM t6_1
  (pop P (Instr.build 32 #[]) fun t7_1 =>
  uop P (Instr.storeAt 32 t2_1 t7_1) h_3 fun u_1 h_4 =>
  rop P (Instr.loadAt 32 t2_1) h_4 fun r_1 =>
  K (.tuple #[r_1, (Value.bool false)]) h_4)
  (rop P (Instr.loadAt 32 g1_1) h_3 fun t8_1 =>
  uop P (Instr.storeAt 32 t2_1 t8_1) h_3 fun u_2 h_5 =>
  rop P (Instr.loadAt 32 t2_1) h_5 fun r_2 =>
  K (.tuple #[r_2, (Value.bool true)]) h_5)
theorem e121 (g0_1 : Value) (h : Heap) (K : Value → Heap → Prop) : wpA Try.prog 9 (anOf []) (bodyOf Try.f121) 1 (fun A h => resA Try.prog A h K [.cell 2 32, .tmp 3]) (fun _ _ _ => False) (fun A h => resA Try.prog A h K [.cell 2 32, .tmp 3]) (aargs [g0_1] 0) h = t121 Try.prog g0_1 h K := by kernel_rfl
theorem c121 (g0_1 : Value) (h : Heap) (K : Value → Heap → Prop) (H : t121 Try.prog g0_1 h K) : callM Try.prog 121 #[g0_1] h K :=
  callM_of_wpA mixed (fn := Try.f121) Try.func121 (c := bodyOf Try.f121) rfl (of_decide_eq_true (by kernel_rfl)) (anOf []) 8 9 (by kernel_rfl) rfl [.cell 2 32, .tmp 3] (by kernel_rfl) (args := [g0_1]) (by rw [e121]; exact H)

/-! spec.grIf -/
def t122 (P : Program) (g0_1 : Value) (h : Heap) (K : Value → Heap → Prop) : Prop :=
  eop P (Instr.box 32 g0_1) h fun g1_1 h_1 =>
  eop P (Instr.alloc 32 true (.tuple #[])) h_1 fun t2_1 h_2 =>
  rop P (Instr.loadAt 32 g1_1) h_2 fun t4_1 =>
  callM P 165 #[t4_1] h_2 fun t5_1 h_3 =>
  pop P (Op.unary .not t5_1) fun t6_1 =>
  condM t6_1
  (pop P (Instr.build 32 #[]) fun t7_1 =>
  uop P (Instr.storeAt 32 t2_1 t7_1) h_3 fun u_1 h_4 =>
  rop P (Instr.loadAt 32 t2_1) h_4 fun r_1 =>
  K (.tuple #[r_1, (Value.bool false)]) h_4)
  (rop P (Instr.loadAt 32 g1_1) h_3 fun t8_1 =>
  uop P (Instr.storeAt 32 t2_1 t8_1) h_3 fun u_2 h_5 =>
  rop P (Instr.loadAt 32 t2_1) h_5 fun r_2 =>
  K (.tuple #[r_2, (Value.bool true)]) h_5)
theorem e122 (g0_1 : Value) (h : Heap) (K : Value → Heap → Prop) : wpA Try.prog 9 (anOf []) (bodyOf Try.f122) 1 (fun A h => resA Try.prog A h K [.cell 2 32, .tmp 3]) (fun _ _ _ => False) (fun A h => resA Try.prog A h K [.cell 2 32, .tmp 3]) (aargs [g0_1] 0) h = t122 Try.prog g0_1 h K := by kernel_rfl
theorem c122 (g0_1 : Value) (h : Heap) (K : Value → Heap → Prop) (H : t122 Try.prog g0_1 h K) : callM Try.prog 122 #[g0_1] h K :=
  callM_of_wpA mixed (fn := Try.f122) Try.func122 (c := bodyOf Try.f122) rfl (of_decide_eq_true (by kernel_rfl)) (anOf []) 8 9 (by kernel_rfl) rfl [.cell 2 32, .tmp 3] (by kernel_rfl) (args := [g0_1]) (by rw [e122]; exact H)

/-! (impl.Graph).entries -/
def t123 (P : Program) (g0_1 : Value) (p1_1 : Value) (h : Heap) (K : Value → Heap → Prop) : Prop :=
  eop P (Instr.box 32 g0_1) h fun g2_1 h_1 =>
  pop P (Instr.fieldAt 32 g2_1 0) fun t8_1 =>
  rop P (Instr.loadAt 22 t8_1) h_1 fun t9_1 =>
  callM P 115 #[t9_1] h_1 fun t10_1 h_2 =>
  pop P (lenS 25 3 t10_1) fun t11_1 =>
  ∃ (I_1 : List Value → Heap → Prop) (μ_1 : List Value → Heap → Nat), I_1 [(Value.int IntKind.i64 0), (Value.int IntKind.i64 0)] h_2 ∧
  ∀ (junk_1 : Nat → Value) (many5_1 : Value) (t12_1 : Value) (h_3 : Heap), I_1 [many5_1, t12_1] h_3 →
  pop P (binA .lss 3 t12_1 t11_1) fun t13_1 =>
  condM t13_1
  (pop P (Instr.indexAt 25 t10_1 t12_1) fun t14_1 =>
  rop P (Instr.loadAt 3 t14_1) h_3 fun t15_1 =>
  pop P (binE .eql 3 (.tmp 16) (.tmp 17) t15_1 p1_1) fun t18_1 =>
  condM t18_1
  (pop P (binA .add 3 many5_1 (Value.int IntKind.i64 1)) fun t20_1 =>
  pop P (binA .add 3 t12_1 (Value.int IntKind.i64 1)) fun t21_1 =>
  I_1 [t20_1, t21_1] h_3 ∧ μ_1 [t20_1, t21_1] h_3 < μ_1 [many5_1, t12_1] h_3)
  (pop P (binA .add 3 t12_1 (Value.int IntKind.i64 1)) fun t21_2 =>
  I_1 [many5_1, t21_2] h_3 ∧ μ_1 [many5_1, t21_2] h_3 < μ_1 [many5_1, t12_1] h_3))
  (K many5_1 h_3)
theorem e123 (g0_1 : Value) (p1_1 : Value) (h : Heap) (K : Value → Heap → Prop) : wpA Try.prog 23 (anOf [(58, [5, 12])]) (bodyOf Try.f123) 1 (fun A h => resA Try.prog A h K [.tmp 4]) (fun _ _ _ => False) (fun A h => resA Try.prog A h K [.tmp 4]) (aargs [g0_1, p1_1] 0) h = t123 Try.prog g0_1 p1_1 h K := by kernel_rfl
theorem c123 (g0_1 : Value) (p1_1 : Value) (h : Heap) (K : Value → Heap → Prop) (H : t123 Try.prog g0_1 p1_1 h K) : callM Try.prog 123 #[g0_1, p1_1] h K :=
  callM_of_wpA mixed (fn := Try.f123) Try.func123 (c := bodyOf Try.f123) rfl (of_decide_eq_true (by kernel_rfl)) (anOf [(58, [5, 12])]) 21 23 (by kernel_rfl) rfl [.tmp 4] (by kernel_rfl) (args := [g0_1, p1_1]) (by rw [e123]; exact H)

/-! spec.grCycle -/
def t124 (P : Program) (n0_1 : Value) (both1_1 : Value) (h : Heap) (K : Value → Heap → Prop) : Prop :=
  eop P (Instr.alloc 32 true (.tuple #[])) h fun t4_1 h_1 =>
  pop P (Instr.build 32 #[]) fun t8_1 =>
  eop P (Instr.alloc 32 true (.tuple #[])) h_1 fun g5_1 h_2 =>
  uop P (Instr.storeAt 32 g5_1 t8_1) h_2 fun u_1 h_3 =>
  ∃ (I_1 : List Value → Heap → Prop) (μ_1 : List Value → Heap → Nat), I_1 [(Value.int IntKind.i64 0)] h_3 ∧
  ∀ (junk_1 : Nat → Value) (p6_1 : Value) (h_4 : Heap), I_1 [p6_1] h_4 →
  pop P (binA .lss 3 p6_1 n0_1) fun t11_1 =>
  condM t11_1
  (pop P (binA .add 3 p6_1 (Value.int IntKind.i64 1)) fun t15_1 =>
  pop P (binA .rem 3 t15_1 n0_1) fun t17_1 =>
  eop P (Instr.buildSlice 25 1 #[(0, t17_1)]) h_4 fun t18_1 h_5 =>
  ∃ J_1 : List Value → Heap → Prop, (condM both1_1
  (pop P (binA .add 3 p6_1 n0_1) fun t23_1 =>
  pop P (binA .sub 3 t23_1 (Value.int IntKind.i64 1)) fun t24_1 =>
  pop P (binA .rem 3 t24_1 n0_1) fun t26_1 =>
  eop P (Instr.buildSlice 25 1 #[(0, t26_1)]) h_5 fun t27_1 h_6 =>
  eop P (appS 25 25 25 t18_1 t27_1) h_6 fun t28_1 h_7 =>
  J_1 [t28_1] h_7)
  (J_1 [t18_1] h_5)) ∧
  ∀ (junk_2 : Nat → Value) (list7_1 : Value) (h_8 : Heap), J_1 [list7_1] h_8 →
  pop P (Instr.fieldAt 32 g5_1 0) fun t29_1 =>
  rop P (Instr.loadAt 22 t29_1) h_8 fun t30_1 =>
  eop P (Instr.buildSlice 22 1 #[(0, list7_1)]) h_8 fun t32_1 h_9 =>
  eop P (appS 22 22 22 t30_1 t32_1) h_9 fun t33_1 h_10 =>
  pop P (Instr.fieldAt 32 g5_1 0) fun t34_1 =>
  uop P (Instr.storeAt 22 t34_1 t33_1) h_10 fun u_2 h_11 =>
  pop P (binA .add 3 p6_1 (Value.int IntKind.i64 1)) fun t13_1 =>
  I_1 [t13_1] h_11 ∧ μ_1 [t13_1] h_11 < μ_1 [p6_1] h_4)
  (rop P (Instr.loadAt 32 g5_1) h_4 fun t35_1 =>
  uop P (Instr.storeAt 32 t4_1 t35_1) h_4 fun u_3 h_12 =>
  rop P (Instr.loadAt 32 t4_1) h_12 fun r_1 =>
  K r_1 h_12)
theorem e124 (n0_1 : Value) (both1_1 : Value) (h : Heap) (K : Value → Heap → Prop) : wpA Try.prog 36 (anOf [(58, [6]), (1865, [7])]) (bodyOf Try.f124) 1 (fun A h => resA Try.prog A h K [.cell 4 32]) (fun _ _ _ => False) (fun A h => resA Try.prog A h K [.cell 4 32]) (aargs [n0_1, both1_1] 0) h = t124 Try.prog n0_1 both1_1 h K := by kernel_rfl
theorem c124 (n0_1 : Value) (both1_1 : Value) (h : Heap) (K : Value → Heap → Prop) (H : t124 Try.prog n0_1 both1_1 h K) : callM Try.prog 124 #[n0_1, both1_1] h K :=
  callM_of_wpA mixed (fn := Try.f124) Try.func124 (c := bodyOf Try.f124) rfl (of_decide_eq_true (by kernel_rfl)) (anOf [(58, [6]), (1865, [7])]) 34 36 (by kernel_rfl) rfl [.cell 4 32] (by kernel_rfl) (args := [n0_1, both1_1]) (by rw [e124]; exact H)

/-! (impl.Graph).isStrong -/
def t125 (P : Program) (g0_1 : Value) (h : Heap) (K : Value → Heap → Prop) : Prop :=
  eop P (Instr.box 32 g0_1) h fun g1_1 h_1 =>
  pop P (Instr.fieldAt 32 g1_1 0) fun t4_1 =>
  rop P (Instr.loadAt 22 t4_1) h_1 fun t5_1 =>
  pop P (lenS 22 3 t5_1) fun t6_1 =>
  ∃ (I_1 : List Value → Heap → Prop) (μ_1 : List Value → Heap → Nat), I_1 [(Value.int IntKind.i64 0)] h_1 ∧
  ∀ (junk_1 : Nat → Value) (t7_1 : Value) (h_2 : Heap), I_1 [t7_1] h_2 →
  pop P (binA .lss 3 t7_1 t6_1) fun t8_1 =>
  condM t8_1
  (rop P (Instr.loadAt 32 g1_1) h_2 fun t10_1 =>
  pop P (Instr.fieldAt 32 g1_1 0) fun t14_1 =>
  rop P (Instr.loadAt 22 t14_1) h_2 fun t15_1 =>
  pop P (lenS 22 3 t15_1) fun t16_1 =>
  callM P 167 #[t10_1, t7_1] h_2 fun t12_1 h_3 =>
  (∀ w : World, w.heap = h_3 → (Instr.loadAt 22 t14_1).run P w = .ok t15_1 w) ∧
  pop P (lenS 25 3 t12_1) fun t13_1 =>
  pop P (binE .neq 3 (.tmp 13) (.tmp 16) t13_1 t16_1) fun t17_1 =>
  condM t17_1
  (K (Value.bool false) h_3)
  (pop P (binA .add 3 t7_1 (Value.int IntKind.i64 1)) fun t18_1 =>
  I_1 [t18_1] h_3 ∧ μ_1 [t18_1] h_3 < μ_1 [t7_1] h_2))
  (K (Value.bool true) h_2)
theorem e125 (g0_1 : Value) (h : Heap) (K : Value → Heap → Prop) : wpA Try.prog 19 (anOf [(26, [7])]) (bodyOf Try.f125) 1 (fun A h => resA Try.prog A h K [.tmp 2]) (fun _ _ _ => False) (fun A h => resA Try.prog A h K [.tmp 2]) (aargs [g0_1] 0) h = t125 Try.prog g0_1 h K := by kernel_rfl
theorem c125 (g0_1 : Value) (h : Heap) (K : Value → Heap → Prop) (H : t125 Try.prog g0_1 h K) : callM Try.prog 125 #[g0_1] h K :=
  callM_of_wpA mixed (fn := Try.f125) Try.func125 (c := bodyOf Try.f125) rfl (of_decide_eq_true (by kernel_rfl)) (anOf [(26, [7])]) 18 19 (by kernel_rfl) rfl [.tmp 2] (by kernel_rfl) (args := [g0_1]) (by rw [e125]; exact H)

/-! (impl.Graph).isBalanced -/
def t126 (P : Program) (g0_1 : Value) (h : Heap) (K : Value → Heap → Prop) : Prop :=
  eop P (Instr.box 32 g0_1) h fun g1_1 h_1 =>
  pop P (Instr.fieldAt 32 g1_1 0) fun t5_1 =>
  rop P (Instr.loadAt 22 t5_1) h_1 fun t6_1 =>
  pop P (lenS 22 3 t6_1) fun t7_1 =>
  ∃ (I_1 : List Value → Heap → Prop) (μ_1 : List Value → Heap → Nat), I_1 [(Value.int IntKind.i64 0)] h_1 ∧
  ∀ (junk_1 : Nat → Value) (t8_1 : Value) (h_2 : Heap), I_1 [t8_1] h_2 →
  pop P (binA .lss 3 t8_1 t7_1) fun t9_1 =>
  condM t9_1
  (pop P (Instr.indexAt 22 t6_1 t8_1) fun t11_1 =>
  rop P (Instr.loadAt 25 t11_1) h_2 fun t12_1 =>
  pop P (lenS 25 3 t12_1) fun t14_1 =>
  rop P (Instr.loadAt 32 g1_1) h_2 fun t15_1 =>
  callM P 123 #[t15_1, t8_1] h_2 fun t17_1 h_3 =>
  pop P (binE .neq 3 (.tmp 14) (.tmp 17) t14_1 t17_1) fun t18_1 =>
  condM t18_1
  (K (Value.bool false) h_3)
  (pop P (binA .add 3 t8_1 (Value.int IntKind.i64 1)) fun t19_1 =>
  I_1 [t19_1] h_3 ∧ μ_1 [t19_1] h_3 < μ_1 [t8_1] h_2))
  (K (Value.bool true) h_2)
theorem e126 (g0_1 : Value) (h : Heap) (K : Value → Heap → Prop) : wpA Try.prog 20 (anOf [(26, [8])]) (bodyOf Try.f126) 1 (fun A h => resA Try.prog A h K [.tmp 2]) (fun _ _ _ => False) (fun A h => resA Try.prog A h K [.tmp 2]) (aargs [g0_1] 0) h = t126 Try.prog g0_1 h K := by kernel_rfl
theorem c126 (g0_1 : Value) (h : Heap) (K : Value → Heap → Prop) (H : t126 Try.prog g0_1 h K) : callM Try.prog 126 #[g0_1] h K :=
  callM_of_wpA mixed (fn := Try.f126) Try.func126 (c := bodyOf Try.f126) rfl (of_decide_eq_true (by kernel_rfl)) (anOf [(26, [8])]) 19 20 (by kernel_rfl) rfl [.tmp 2] (by kernel_rfl) (args := [g0_1]) (by rw [e126]; exact H)

/-! spec.l1Own -/
def t130 (P : Program) (l0_1 : Value) (h : Heap) (K : Value → Heap → Prop) : Prop :=
  eop P (Instr.buildSlice 25 0 #[]) h fun t3_1 h_1 =>
  eop P (appS 25 25 25 t3_1 l0_1) h_1 fun t5_1 h_2 =>
  K t5_1 h_2
theorem e130 (l0_1 : Value) (h : Heap) (K : Value → Heap → Prop) : wpA Try.prog 6 (anOf []) (bodyOf Try.f130) 1 (fun A h => resA Try.prog A h K [.tmp 2]) (fun _ _ _ => False) (fun A h => resA Try.prog A h K [.tmp 2]) (aargs [l0_1] 0) h = t130 Try.prog l0_1 h K := by kernel_rfl
theorem c130 (l0_1 : Value) (h : Heap) (K : Value → Heap → Prop) (H : t130 Try.prog l0_1 h K) : callM Try.prog 130 #[l0_1] h K :=
  callM_of_wpA mixed (fn := Try.f130) Try.func130 (c := bodyOf Try.f130) rfl (of_decide_eq_true (by kernel_rfl)) (anOf []) 5 6 (by kernel_rfl) rfl [.tmp 2] (by kernel_rfl) (args := [l0_1]) (by rw [e130]; exact H)

/-! slices.Clone[[]int,int] -/
def t142 (P : Program) (s0_1 : Value) (h : Heap) (K : Value → Heap → Prop) : Prop :=
  pop P (binE .eql 25 (.tmp 3) (.const (Value.slice none 0 0)) s0_1 (Value.slice none 0 0)) fun t4_1 =>
  condM t4_1
  (K (Value.slice none 0 0) h)
  (eop P (Instr.buildSlice 25 0 #[]) h fun t5_1 h_1 =>
  eop P (appS 25 25 25 t5_1 s0_1) h_1 fun t7_1 h_2 =>
  K t7_1 h_2)
theorem e142 (s0_1 : Value) (h : Heap) (K : Value → Heap → Prop) : wpA Try.prog 8 (anOf []) (bodyOf Try.f142) 1 (fun A h => resA Try.prog A h K [.tmp 2]) (fun _ _ _ => False) (fun A h => resA Try.prog A h K [.tmp 2]) (aargs [s0_1] 0) h = t142 Try.prog s0_1 h K := by kernel_rfl
theorem c142 (s0_1 : Value) (h : Heap) (K : Value → Heap → Prop) (H : t142 Try.prog s0_1 h K) : callM Try.prog 142 #[s0_1] h K :=
  callM_of_wpA mixed (fn := Try.f142) Try.func142 (c := bodyOf Try.f142) rfl (of_decide_eq_true (by kernel_rfl)) (anOf []) 7 8 (by kernel_rfl) rfl [.tmp 2] (by kernel_rfl) (args := [s0_1]) (by rw [e142]; exact H)

/-! impl.isGraph$1 -/
def t150 (P : Program) (q0_1 : Value) (t1_1 : Value) (h : Heap) (K : Value → Heap → Prop) : Prop :=
  rop P (Instr.loadAt 3 t1_1) h fun t5_1 =>
  pop P (binA .sub 3 t5_1 (Value.int IntKind.i64 1)) fun t6_1 =>
  callM P 113 #[q0_1, (Value.int IntKind.i64 0), t6_1] h fun t7_1 h_1 =>
  pop P (Op.unary .not t7_1) fun t8_1 =>
  K t8_1 h_1
theorem e150 (q0_1 : Value) (t1_1 : Value) (h : Heap) (K : Value → Heap → Prop) : wpA Try.prog 9 (anOf []) (bodyOf Try.f150) 1 (fun A h => resA Try.prog A h K [.tmp 3]) (fun _ _ _ => False) (fun A h => resA Try.prog A h K [.tmp 3]) (aargs [q0_1, t1_1] 0) h = t150 Try.prog q0_1 t1_1 h K := by kernel_rfl
theorem c150 (q0_1 : Value) (t1_1 : Value) (h : Heap) (K : Value → Heap → Prop) (H : t150 Try.prog q0_1 t1_1 h K) : callM Try.prog 150 #[q0_1, t1_1] h K :=
  callM_of_wpA mixed (fn := Try.f150) Try.func150 (c := bodyOf Try.f150) rfl (of_decide_eq_true (by kernel_rfl)) (anOf []) 7 9 (by kernel_rfl) rfl [.tmp 3] (by kernel_rfl) (args := [q0_1, t1_1]) (by rw [e150]; exact H)

/-! (*spec.l1Cur).next -/
def t158 (P : Program) (c0_1 : Value) (h : Heap) (K : Value → Heap → Prop) : Prop :=
  ∃ J_1 : List Value → Heap → Prop, (pop P (nilS c0_1) fun t5_1 =>
  pop P (Instr.fieldAt 109 t5_1 1) fun t6_1 =>
  rop P (Instr.loadAt 3 t6_1) h fun t7_1 =>
  pop P (nilS c0_1) fun t9_1 =>
  pop P (Instr.fieldAt 109 t9_1 0) fun t10_1 =>
  rop P (Instr.loadAt 55 t10_1) h fun t11_1 =>
  pop P (lenS 55 3 t11_1) fun t12_1 =>
  pop P (binA .lss 3 t7_1 t12_1) fun t13_1 =>
  condM t13_1
  (pop P (nilS c0_1) fun t15_1 =>
  pop P (Instr.fieldAt 109 t15_1 0) fun t16_1 =>
  rop P (Instr.loadAt 55 t16_1) h fun t17_1 =>
  pop P (nilS c0_1) fun t19_1 =>
  pop P (Instr.fieldAt 109 t19_1 1) fun t20_1 =>
  rop P (Instr.loadAt 3 t20_1) h fun t21_1 =>
  pop P (Instr.indexAt 55 t17_1 t21_1) fun t22_1 =>
  rop P (Instr.loadAt 5 t22_1) h fun t23_1 =>
  rop P (convert 5 3 t23_1) h fun t24_1 =>
  J_1 [t24_1] h)
  (J_1 [(Value.int IntKind.i64 0)] h)) ∧
  ∀ (junk_1 : Nat → Value) (b3_1 : Value) (h_1 : Heap), J_1 [b3_1] h_1 →
  pop P (nilS c0_1) fun t26_1 =>
  pop P (Instr.fieldAt 109 t26_1 1) fun t27_1 =>
  rop P (Instr.loadAt 3 t27_1) h_1 fun t28_1 =>
  pop P (binA .add 3 t28_1 (Value.int IntKind.i64 1)) fun t29_1 =>
  pop P (nilS c0_1) fun t30_1 =>
  pop P (Instr.fieldAt 109 t30_1 1) fun t31_1 =>
  uop P (Instr.storeAt 3 t31_1 t29_1) h_1 fun u_1 h_2 =>
  pop P (nilS c0_1) fun t34_1 =>
  pop P (Instr.fieldAt 109 t34_1 2) fun t35_1 =>
  rop P (Instr.loadAt 107 t35_1) h_2 fun t36_1 =>
  pop P (binA .mul 107 t36_1 (Value.int IntKind.u64 6364136223846793005)) fun t37_1 =>
  rop P (convert 3 107 b3_1) h_2 fun t39_1 =>
  pop P (binA .add 107 t37_1 t39_1) fun t40_1 =>
  pop P (binA .add 107 t40_1 (Value.int IntKind.u64 1442695040888963407)) fun t41_1 =>
  pop P (nilS c0_1) fun t42_1 =>
  pop P (Instr.fieldAt 109 t42_1 2) fun t43_1 =>
  uop P (Instr.storeAt 107 t43_1 t41_1) h_2 fun u_2 h_3 =>
  pop P (nilS c0_1) fun t45_1 =>
  pop P (Instr.fieldAt 109 t45_1 1) fun t46_1 =>
  rop P (Instr.loadAt 3 t46_1) h_3 fun t47_1 =>
  pop P (nilS c0_1) fun t49_1 =>
  pop P (Instr.fieldAt 109 t49_1 0) fun t50_1 =>
  rop P (Instr.loadAt 55 t50_1) h_3 fun t51_1 =>
  pop P (lenS 55 3 t51_1) fun t52_1 =>
  pop P (binA .leq 3 t47_1 t52_1) fun t53_1 =>
  condM t53_1
  (K b3_1 h_3)
  (pop P (nilS c0_1) fun t56_1 =>
  pop P (Instr.fieldAt 109 t56_1 2) fun t57_1 =>
  rop P (Instr.loadAt 107 t57_1) h_3 fun t58_1 =>
  pop P (binA .shr 107 t58_1 (Value.int IntKind.u64 40)) fun t59_1 =>
  pop P (binA .and 107 t59_1 (Value.int IntKind.u64 255)) fun t60_1 =>
  rop P (convert 107 3 t60_1) h_3 fun t61_1 =>
  K t61_1 h_3)
theorem e158 (c0_1 : Value) (h : Heap) (K : Value → Heap → Prop) : wpA Try.prog 62 (anOf [(7, [3])]) (bodyOf Try.f158) 1 (fun A h => resA Try.prog A h K [.tmp 2]) (fun _ _ _ => False) (fun A h => resA Try.prog A h K [.tmp 2]) (aargs [c0_1] 0) h = t158 Try.prog c0_1 h K := by kernel_rfl
theorem c158 (c0_1 : Value) (h : Heap) (K : Value → Heap → Prop) (H : t158 Try.prog c0_1 h K) : callM Try.prog 158 #[c0_1] h K :=
  callM_of_wpA mixed (fn := Try.f158) Try.func158 (c := bodyOf Try.f158) rfl (of_decide_eq_true (by kernel_rfl)) (anOf [(7, [3])]) 61 62 (by kernel_rfl) rfl [.tmp 2] (by kernel_rfl) (args := [c0_1]) (by rw [e158]; exact H)

/-! slices.IndexFunc[[]int,int] -/
def t159 (P : Program) (s0_1 : Value) (f1_1 : Value) (h : Heap) (K : Value → Heap → Prop) : Prop :=
  pop P (lenS 25 3 s0_1) fun t7_1 =>
  ∃ (I_1 : List Value → Heap → Prop) (μ_1 : List Value → Heap → Nat), I_1 [(Value.int IntKind.i64 0)] h ∧
  ∀ (junk_1 : Nat → Value) (t8_1 : Value) (h_1 : Heap), I_1 [t8_1] h_1 →
  pop P (binA .lss 3 t8_1 t7_1) fun t9_1 =>
  condM t9_1
  (pop P (Instr.indexAt 25 s0_1 t8_1) fun t14_1 =>
  rop P (Instr.loadAt 3 t14_1) h_1 fun t15_1 =>
  callV P f1_1 [t15_1] h_1 fun t16_1 h_2 =>
  condM t16_1
  (K t8_1 h_2)
  (pop P (binA .add 3 t8_1 (Value.int IntKind.i64 1)) fun t18_1 =>
  I_1 [t18_1] h_2 ∧ μ_1 [t18_1] h_2 < μ_1 [t8_1] h_1))
  (K (Value.int IntKind.i64 (-1)) h_1)
theorem e159 (s0_1 : Value) (f1_1 : Value) (h : Heap) (K : Value → Heap → Prop) : wpA Try.prog 19 (anOf [(26, [8])]) (bodyOf Try.f159) 1 (fun A h => resA Try.prog A h K [.tmp 4]) (fun _ _ _ => False) (fun A h => resA Try.prog A h K [.tmp 4]) (aargs [s0_1, f1_1] 0) h = t159 Try.prog s0_1 f1_1 h K := by kernel_rfl
theorem c159 (s0_1 : Value) (f1_1 : Value) (h : Heap) (K : Value → Heap → Prop) (H : t159 Try.prog s0_1 f1_1 h K) : callM Try.prog 159 #[s0_1, f1_1] h K :=
  callM_of_wpA mixed (fn := Try.f159) Try.func159 (c := bodyOf Try.f159) rfl (of_decide_eq_true (by kernel_rfl)) (anOf [(26, [8])]) 17 19 (by kernel_rfl) rfl [.tmp 4] (by kernel_rfl) (args := [s0_1, f1_1]) (by rw [e159]; exact H)

/-! impl.has$1 -/
def t161 (P : Program) (p0_1 : Value) (t1_1 : Value) (h : Heap) (K : Value → Heap → Prop) : Prop :=
  pop P (Instr.fieldAt 32 t1_1 0) fun t5_1 =>
  rop P (Instr.loadAt 22 t5_1) h fun t6_1 =>
  pop P (lenS 22 3 t6_1) fun t7_1 =>
  pop P (binA .sub 3 t7_1 (Value.int IntKind.i64 1)) fun t8_1 =>
  callM P 113 #[p0_1, (Value.int IntKind.i64 0), t8_1] h fun t9_1 h_1 =>
  pop P (Op.unary .not t9_1) fun t10_1 =>
  K t10_1 h_1
theorem e161 (p0_1 : Value) (t1_1 : Value) (h : Heap) (K : Value → Heap → Prop) : wpA Try.prog 11 (anOf []) (bodyOf Try.f161) 1 (fun A h => resA Try.prog A h K [.tmp 3]) (fun _ _ _ => False) (fun A h => resA Try.prog A h K [.tmp 3]) (aargs [p0_1, t1_1] 0) h = t161 Try.prog p0_1 t1_1 h K := by kernel_rfl
theorem c161 (p0_1 : Value) (t1_1 : Value) (h : Heap) (K : Value → Heap → Prop) (H : t161 Try.prog p0_1 t1_1 h K) : callM Try.prog 161 #[p0_1, t1_1] h K :=
  callM_of_wpA mixed (fn := Try.f161) Try.func161 (c := bodyOf Try.f161) rfl (of_decide_eq_true (by kernel_rfl)) (anOf []) 9 11 (by kernel_rfl) rfl [.tmp 3] (by kernel_rfl) (args := [p0_1, t1_1]) (by rw [e161]; exact H)

/-! (*spec.l1Cur).sureGraph -/
def t163 (P : Program) (c0_1 : Value) (most1_1 : Value) (h : Heap) (K : Value → Heap → Prop) : Prop :=
  eop P (Instr.alloc 32 true (.tuple #[])) h fun t4_1 h_1 =>
  callM P 100 #[c0_1, most1_1] h_1 fun t13_1 h_2 =>
  pop P (binA .add 3 (Value.int IntKind.i64 1) t13_1) fun t14_1 =>
  callM P 99 #[c0_1, (Value.int IntKind.i64 4)] h_2 fun t16_1 h_3 =>
  condM t16_1
  (callM P 99 #[c0_1, (Value.int IntKind.i64 2)] h_3 fun t19_1 h_4 =>
  callM P 124 #[t14_1, t19_1] h_4 fun t20_1 h_5 =>
  uop P (Instr.storeAt 32 t4_1 t20_1) h_5 fun u_1 h_6 =>
  rop P (Instr.loadAt 32 t4_1) h_6 fun r_1 =>
  K r_1 h_6)
  (pop P (Instr.build 32 #[]) fun t21_1 =>
  eop P (Instr.alloc 32 true (.tuple #[])) h_3 fun g6_1 h_7 =>
  uop P (Instr.storeAt 32 g6_1 t21_1) h_7 fun u_2 h_8 =>
  ∃ (I_1 : List Value → Heap → Prop) (μ_1 : List Value → Heap → Nat), I_1 [(Value.int IntKind.i64 0)] h_8 ∧
  ∀ (junk_1 : Nat → Value) (p7_1 : Value) (h_9 : Heap), I_1 [p7_1] h_9 →
  pop P (binA .lss 3 p7_1 t14_1) fun t24_1 =>
  condM t24_1
  (callM P 100 #[c0_1, (Value.int IntKind.i64 3)] h_9 fun t28_1 h_10 =>
  pop P (binA .add 3 (Value.int IntKind.i64 1) t28_1) fun t29_1 =>
  ∃ (I_2 : List Value → Heap → Prop) (μ_2 : List Value → Heap → Nat), I_2 [(Value.slice none 0 0), t29_1] h_10 ∧
  ∀ (junk_2 : Nat → Value) (list8_1 : Value) (k9_1 : Value) (h_11 : Heap), I_2 [list8_1, k9_1] h_11 →
  pop P (binA .gtr 3 k9_1 (Value.int IntKind.i64 0)) fun t31_1 =>
  condM t31_1
  (callM P 100 #[c0_1, t14_1] h_11 fun t37_1 h_12 =>
  eop P (Instr.buildSlice 25 1 #[(0, t37_1)]) h_12 fun t38_1 h_13 =>
  eop P (appS 25 25 25 list8_1 t38_1) h_13 fun t39_1 h_14 =>
  pop P (binA .sub 3 k9_1 (Value.int IntKind.i64 1)) fun t33_1 =>
  I_2 [t39_1, t33_1] h_14 ∧ μ_2 [t39_1, t33_1] h_14 < μ_2 [list8_1, k9_1] h_11)
  (∃ J_1 : List Value → Heap → Prop, (callM P 99 #[c0_1, (Value.int IntKind.i64 8)] h_11 fun t41_1 h_15 =>
  condM t41_1
  (J_1 [(Value.slice none 0 0)] h_15)
  (J_1 [list8_1] h_15)) ∧
  ∀ (junk_3 : Nat → Value) (list8_2 : Value) (h_16 : Heap), J_1 [list8_2] h_16 →
  pop P (Instr.fieldAt 32 g6_1 0) fun t42_1 =>
  rop P (Instr.loadAt 22 t42_1) h_16 fun t43_1 =>
  eop P (Instr.buildSlice 22 1 #[(0, list8_2)]) h_16 fun t45_1 h_17 =>
  eop P (appS 22 22 22 t43_1 t45_1) h_17 fun t46_1 h_18 =>
  pop P (Instr.fieldAt 32 g6_1 0) fun t47_1 =>
  uop P (Instr.storeAt 22 t47_1 t46_1) h_18 fun u_3 h_19 =>
  pop P (binA .add 3 p7_1 (Value.int IntKind.i64 1)) fun t26_1 =>
  I_1 [t26_1] h_19 ∧ μ_1 [t26_1] h_19 < μ_1 [p7_1] h_9))
  (callM P 99 #[c0_1, (Value.int IntKind.i64 2)] h_9 fun t49_1 h_20 =>
  condM t49_1
  (pop P (Instr.fieldAt 32 g6_1 0) fun t50_1 =>
  rop P (Instr.loadAt 22 t50_1) h_20 fun t51_1 =>
  pop P (lenS 22 3 t51_1) fun t52_1 =>
  ∃ (I_3 : List Value → Heap → Prop) (μ_3 : List Value → Heap → Nat), I_3 [(Value.int IntKind.i64 0)] h_20 ∧
  ∀ (junk_4 : Nat → Value) (t53_1 : Value) (h_21 : Heap), I_3 [t53_1] h_21 →
  pop P (binA .lss 3 t53_1 t52_1) fun t54_1 =>
  condM t54_1
  (pop P (Instr.fieldAt 32 g6_1 0) fun t56_1 =>
  rop P (Instr.loadAt 22 t56_1) h_21 fun t57_1 =>
  pop P (Instr.fieldAt 32 g6_1 0) fun t59_1 =>
  rop P (Instr.loadAt 22 t59_1) h_21 fun t60_1 =>
  pop P (Instr.indexAt 22 t60_1 t53_1) fun t62_1 =>
  rop P (Instr.loadAt 25 t62_1) h_21 fun t63_1 =>
  pop P (binA .add 3 t53_1 (Value.int IntKind.i64 1)) fun t65_1 =>
  pop P (binA .rem 3 t65_1 t14_1) fun t67_1 =>
  eop P (Instr.buildSlice 25 1 #[(0, t67_1)]) h_21 fun t68_1 h_22 =>
  (∀ w : World, w.heap = h_22 → (Instr.loadAt 25 t62_1).run P w = .ok t63_1 w) ∧
  (∀ w : World, w.heap = h_22 → (Instr.loadAt 22 t59_1).run P w = .ok t60_1 w) ∧
  (∀ w : World, w.heap = h_22 → (Instr.loadAt 22 t56_1).run P w = .ok t57_1 w) ∧
  eop P (appS 25 25 25 t63_1 t68_1) h_22 fun t69_1 h_23 =>
  (∀ w : World, w.heap = h_23 → (Instr.loadAt 22 t59_1).run P w = .ok t60_1 w) ∧
  (∀ w : World, w.heap = h_23 → (Instr.loadAt 22 t56_1).run P w = .ok t57_1 w) ∧
  pop P (Instr.indexAt 22 t57_1 t53_1) fun t70_1 =>
  uop P (Instr.storeAt 25 t70_1 t69_1) h_23 fun u_4 h_24 =>
  pop P (binA .add 3 t53_1 (Value.int IntKind.i64 1)) fun t71_1 =>
  I_3 [t71_1] h_24 ∧ μ_3 [t71_1] h_24 < μ_3 [t53_1] h_21)
  (rop P (Instr.loadAt 32 g6_1) h_21 fun t72_1 =>
  uop P (Instr.storeAt 32 t4_1 t72_1) h_21 fun u_5 h_25 =>
  rop P (Instr.loadAt 32 t4_1) h_25 fun r_2 =>
  K r_2 h_25))
  (rop P (Instr.loadAt 32 g6_1) h_20 fun t72_2 =>
  uop P (Instr.storeAt 32 t4_1 t72_2) h_20 fun u_6 h_26 =>
  rop P (Instr.loadAt 32 t4_1) h_26 fun r_3 =>
  K r_3 h_26)))
theorem e163 (c0_1 : Value) (most1_1 : Value) (h : Heap) (K : Value → Heap → Prop) : wpA Try.prog 73 (anOf [(250, [7]), (2026, [53]), (16019, [8]), (64074, [8, 9])]) (bodyOf Try.f163) 1 (fun A h => resA Try.prog A h K [.cell 4 32]) (fun _ _ _ => False) (fun A h => resA Try.prog A h K [.cell 4 32]) (aargs [c0_1, most1_1] 0) h = t163 Try.prog c0_1 most1_1 h K := by kernel_rfl
theorem c163 (c0_1 : Value) (most1_1 : Value) (h : Heap) (K : Value → Heap → Prop) (H : t163 Try.prog c0_1 most1_1 h K) : callM Try.prog 163 #[c0_1, most1_1] h K :=
  callM_of_wpA mixed (fn := Try.f163) Try.func163 (c := bodyOf Try.f163) rfl (of_decide_eq_true (by kernel_rfl)) (anOf [(250, [7]), (2026, [53]), (16019, [8]), (64074, [8, 9])]) 71 73 (by kernel_rfl) rfl [.cell 4 32] (by kernel_rfl) (args := [c0_1, most1_1]) (by rw [e163]; exact H)

/-! slices.Grow[[]int,int] -/
def t164 (P : Program) (s0_1 : Value) (n1_1 : Value) (h : Heap) (K : Value → Heap → Prop) : Prop :=
  ∃ J_1 : List Value → Heap → Prop, (pop P (binA .lss 3 n1_1 (Value.int IntKind.i64 0)) fun t6_1 =>
  condM t6_1
  (pop P (Instr.makeInterface 9 (Value.string { data := #[99, 97, 110, 110, 111, 116, 32, 98, 101, 32, 110, 101, 103, 97, 116, 105, 118, 101] })) fun t7_1 =>
  False)
  (J_1 [] h)) ∧
  ∀ (junk_1 : Nat → Value) (h_1 : Heap), J_1 [] h_1 →
  pop P (Builtin.cap_ #[25] 3 #[s0_1]) fun t10_1 =>
  pop P (lenS 25 3 s0_1) fun t12_1 =>
  pop P (binA .sub 3 t10_1 t12_1) fun t13_1 =>
  pop P (binA .sub 3 n1_1 t13_1) fun t14_1 =>
  pop P (binA .gtr 3 t14_1 (Value.int IntKind.i64 0)) fun t16_1 =>
  condM t16_1
  (pop P (Builtin.cap_ #[25] 3 #[s0_1]) fun t19_1 =>
  pop P (Instr.sliceAt 25 s0_1 none (some t19_1) none) fun t20_1 =>
  eop P (appS 25 3 25 t20_1 t14_1) h_1 fun t22_1 h_2 =>
  pop P (lenS 25 3 s0_1) fun t24_1 =>
  pop P (Instr.sliceAt 25 t22_1 none (some t24_1) none) fun t25_1 =>
  K t25_1 h_2)
  (K s0_1 h_1)
theorem e164 (s0_1 : Value) (n1_1 : Value) (h : Heap) (K : Value → Heap → Prop) : wpA Try.prog 27 (anOf [(3, [])]) (bodyOf Try.f164) 1 (fun A h => resA Try.prog A h K [.tmp 4]) (fun _ _ _ => False) (fun A h => resA Try.prog A h K [.tmp 4]) (aargs [s0_1, n1_1] 0) h = t164 Try.prog s0_1 n1_1 h K := by kernel_rfl
theorem c164 (s0_1 : Value) (n1_1 : Value) (h : Heap) (K : Value → Heap → Prop) (H : t164 Try.prog s0_1 n1_1 h K) : callM Try.prog 164 #[s0_1, n1_1] h K :=
  callM_of_wpA mixed (fn := Try.f164) Try.func164 (c := bodyOf Try.f164) rfl (of_decide_eq_true (by kernel_rfl)) (anOf [(3, [])]) 25 27 (by kernel_rfl) rfl [.tmp 4] (by kernel_rfl) (args := [s0_1, n1_1]) (by rw [e164]; exact H)

/-! spec.grGood -/
def t165 (P : Program) (g0_1 : Value) (h : Heap) (K : Value → Heap → Prop) : Prop :=
  eop P (Instr.box 32 g0_1) h fun g1_1 h_1 =>
  pop P (Instr.fieldAt 32 g1_1 0) fun t6_1 =>
  rop P (Instr.loadAt 22 t6_1) h_1 fun t7_1 =>
  pop P (lenS 22 3 t7_1) fun t8_1 =>
  callM P 117 #[t8_1, (Value.int IntKind.i64 1), (Value.int IntKind.i64 8)] h_1 fun t10_1 h_2 =>
  pop P (Op.unary .not t10_1) fun t11_1 =>
  condM t11_1
  (K (Value.bool false) h_2)
  (pop P (Instr.fieldAt 32 g1_1 0) fun t12_1 =>
  rop P (Instr.loadAt 22 t12_1) h_2 fun t13_1 =>
  pop P (lenS 22 3 t13_1) fun t14_1 =>
  ∃ (I_1 : List Value → Heap → Prop) (μ_1 : List Value → Heap → Nat), I_1 [(Value.int IntKind.i64 0)] h_2 ∧
  ∀ (junk_1 : Nat → Value) (t15_1 : Value) (h_3 : Heap), I_1 [t15_1] h_3 →
  pop P (binA .lss 3 t15_1 t14_1) fun t16_1 =>
  condM t16_1
  (pop P (Instr.indexAt 22 t13_1 t15_1) fun t17_1 =>
  rop P (Instr.loadAt 25 t17_1) h_3 fun t18_1 =>
  pop P (lenS 25 3 t18_1) fun t20_1 =>
  pop P (binA .gtr 3 t20_1 (Value.int IntKind.i64 5)) fun t21_1 =>
  guardM t21_1 false (fun k_1 => k_1 t18_1 h_3) h_3 fun t23_1 h_4 =>
  guardM t21_1 false (fun k_2 => k_2 t8_1 h_4) h_4 fun t24_1 h_5 =>
  guardM t21_1 false (fun k_3 => pop P (binA .sub 3 t24_1 (Value.int IntKind.i64 1)) fun t25_1 =>
  k_3 t25_1 h_5) h_5 fun t25_2 h_6 =>
  guardM t21_1 false (fun k_4 => callM P 104 #[t23_1, (Value.int IntKind.i64 0), t25_2] h_6 fun t26_1 h_7 =>
  k_4 t26_1 h_7) h_6 fun t26_2 h_8 =>
  guardM t21_1 false (fun k_5 => pop P (Op.unary .not t26_2) fun t27_1 =>
  k_5 t27_1 h_8) h_8 fun t27_2 h_9 =>
  pop P (pickS t21_1 (Value.bool true) t27_2) fun t28_1 =>
  condM t28_1
  (K (Value.bool false) h_9)
  (pop P (binA .add 3 t15_1 (Value.int IntKind.i64 1)) fun t29_1 =>
  I_1 [t29_1] h_9 ∧ μ_1 [t29_1] h_9 < μ_1 [t15_1] h_3))
  (K (Value.bool true) h_3))
theorem e165 (g0_1 : Value) (h : Heap) (K : Value → Heap → Prop) : wpA Try.prog 30 (anOf [(122, [15])]) (bodyOf Try.f165) 1 (fun A h => resA Try.prog A h K [.tmp 2]) (fun _ _ _ => False) (fun A h => resA Try.prog A h K [.tmp 2]) (aargs [g0_1] 0) h = t165 Try.prog g0_1 h K := by kernel_rfl
theorem c165 (g0_1 : Value) (h : Heap) (K : Value → Heap → Prop) (H : t165 Try.prog g0_1 h K) : callM Try.prog 165 #[g0_1] h K :=
  callM_of_wpA mixed (fn := Try.f165) Try.func165 (c := bodyOf Try.f165) rfl (of_decide_eq_true (by kernel_rfl)) (anOf [(122, [15])]) 29 30 (by kernel_rfl) rfl [.tmp 2] (by kernel_rfl) (args := [g0_1]) (by rw [e165]; exact H)

/-! laws.wSame -/
def t166 (P : Program) (a0_1 : Value) (b1_1 : Value) (h : Heap) (K : Value → Heap → Prop) : Prop :=
  pop P (lenS 25 3 a0_1) fun t7_1 =>
  pop P (lenS 25 3 b1_1) fun t9_1 =>
  pop P (binE .neq 3 (.tmp 7) (.tmp 9) t7_1 t9_1) fun t10_1 =>
  condM t10_1
  (K (Value.bool false) h)
  (pop P (lenS 25 3 a0_1) fun t12_1 =>
  ∃ (I_1 : List Value → Heap → Prop) (μ_1 : List Value → Heap → Nat), I_1 [(Value.int IntKind.i64 0)] h ∧
  ∀ (junk_1 : Nat → Value) (t13_1 : Value) (h_1 : Heap), I_1 [t13_1] h_1 →
  pop P (binA .lss 3 t13_1 t12_1) fun t14_1 =>
  condM t14_1
  (pop P (Instr.indexAt 25 a0_1 t13_1) fun t18_1 =>
  rop P (Instr.loadAt 3 t18_1) h_1 fun t19_1 =>
  pop P (Instr.indexAt 25 b1_1 t13_1) fun t22_1 =>
  rop P (Instr.loadAt 3 t22_1) h_1 fun t23_1 =>
  pop P (binE .neq 3 (.tmp 19) (.tmp 23) t19_1 t23_1) fun t24_1 =>
  condM t24_1
  (K (Value.bool false) h_1)
  (pop P (binA .add 3 t13_1 (Value.int IntKind.i64 1)) fun t25_1 =>
  I_1 [t25_1] h_1 ∧ μ_1 [t25_1] h_1 < μ_1 [t13_1] h_1))
  (K (Value.bool true) h_1))
theorem e166 (a0_1 : Value) (b1_1 : Value) (h : Heap) (K : Value → Heap → Prop) : wpA Try.prog 26 (anOf [(58, [13])]) (bodyOf Try.f166) 1 (fun A h => resA Try.prog A h K [.tmp 4]) (fun _ _ _ => False) (fun A h => resA Try.prog A h K [.tmp 4]) (aargs [a0_1, b1_1] 0) h = t166 Try.prog a0_1 b1_1 h K := by kernel_rfl
theorem c166 (a0_1 : Value) (b1_1 : Value) (h : Heap) (K : Value → Heap → Prop) (H : t166 Try.prog a0_1 b1_1 h K) : callM Try.prog 166 #[a0_1, b1_1] h K :=
  callM_of_wpA mixed (fn := Try.f166) Try.func166 (c := bodyOf Try.f166) rfl (of_decide_eq_true (by kernel_rfl)) (anOf [(58, [13])]) 24 26 (by kernel_rfl) rfl [.tmp 4] (by kernel_rfl) (args := [a0_1, b1_1]) (by rw [e166]; exact H)

/-! (impl.Graph).reach -/
def t167 (P : Program) (g0_1 : Value) (p1_1 : Value) (h : Heap) (K : Value → Heap → Prop) : Prop :=
  eop P (Instr.box 32 g0_1) h fun g2_1 h_1 =>
  eop P (Instr.buildSlice 25 0 #[]) h_1 fun t8_1 h_2 =>
  rop P (Instr.loadAt 32 g2_1) h_2 fun t9_1 =>
  callM P 187 #[t9_1, p1_1] h_2 fun t11_1 h_3 =>
  pop P (lenS 25 3 t11_1) fun t12_1 =>
  ∃ (I_1 : List Value → Heap → Prop) (μ_1 : List Value → Heap → Nat), I_1 [t8_1, (Value.int IntKind.i64 0)] h_3 ∧
  ∀ (junk_1 : Nat → Value) (out5_1 : Value) (t13_1 : Value) (h_4 : Heap), I_1 [out5_1, t13_1] h_4 →
  pop P (binA .lss 3 t13_1 t12_1) fun t14_1 =>
  condM t14_1
  (pop P (Instr.indexAt 25 t11_1 t13_1) fun t16_1 =>
  rop P (Instr.loadAt 3 t16_1) h_4 fun t17_1 =>
  pop P (binA .geq 3 t17_1 (Value.int IntKind.i64 0)) fun t19_1 =>
  condM t19_1
  (eop P (Instr.buildSlice 25 1 #[(0, t13_1)]) h_4 fun t22_1 h_5 =>
  eop P (appS 25 25 25 out5_1 t22_1) h_5 fun t23_1 h_6 =>
  pop P (binA .add 3 t13_1 (Value.int IntKind.i64 1)) fun t24_1 =>
  I_1 [t23_1, t24_1] h_6 ∧ μ_1 [t23_1, t24_1] h_6 < μ_1 [out5_1, t13_1] h_4)
  (pop P (binA .add 3 t13_1 (Value.int IntKind.i64 1)) fun t24_2 =>
  I_1 [out5_1, t24_2] h_4 ∧ μ_1 [out5_1, t24_2] h_4 < μ_1 [out5_1, t13_1] h_4))
  (K out5_1 h_4)
theorem e167 (g0_1 : Value) (p1_1 : Value) (h : Heap) (K : Value → Heap → Prop) : wpA Try.prog 26 (anOf [(58, [5, 13])]) (bodyOf Try.f167) 1 (fun A h => resA Try.prog A h K [.tmp 4]) (fun _ _ _ => False) (fun A h => resA Try.prog A h K [.tmp 4]) (aargs [g0_1, p1_1] 0) h = t167 Try.prog g0_1 p1_1 h K := by kernel_rfl
theorem c167 (g0_1 : Value) (p1_1 : Value) (h : Heap) (K : Value → Heap → Prop) (H : t167 Try.prog g0_1 p1_1 h K) : callM Try.prog 167 #[g0_1, p1_1] h K :=
  callM_of_wpA mixed (fn := Try.f167) Try.func167 (c := bodyOf Try.f167) rfl (of_decide_eq_true (by kernel_rfl)) (anOf [(58, [5, 13])]) 24 26 (by kernel_rfl) rfl [.tmp 4] (by kernel_rfl) (args := [g0_1, p1_1]) (by rw [e167]; exact H)

/-! (impl.Graph).lengths -/
def t187 (P : Program) (g0_1 : Value) (p1_1 : Value) (h : Heap) (K : Value → Heap → Prop) : Prop :=
  eop P (Instr.box 32 g0_1) h fun g2_1 h_1 =>
  eop P (Instr.buildSlice 25 1 #[(0, (Value.int IntKind.i64 (-1)))]) h_1 fun t9_1 h_2 =>
  pop P (Instr.fieldAt 32 g2_1 0) fun t10_1 =>
  rop P (Instr.loadAt 22 t10_1) h_2 fun t11_1 =>
  pop P (lenS 22 3 t11_1) fun t12_1 =>
  callM P 197 #[t9_1, t12_1] h_2 fun t13_1 h_3 =>
  pop P (Instr.indexAt 25 t13_1 p1_1) fun t16_1 =>
  uop P (Instr.storeAt 3 t16_1 (Value.int IntKind.i64 0)) h_3 fun u_1 h_4 =>
  eop P (Instr.buildSlice 25 1 #[(0, p1_1)]) h_4 fun t18_1 h_5 =>
  ∃ (I_1 : List Value → Heap → Prop) (μ_1 : List Value → Heap → Nat), I_1 [t18_1] h_5 ∧
  ∀ (junk_1 : Nat → Value) (list6_1 : Value) (h_6 : Heap), I_1 [list6_1] h_6 →
  pop P (lenS 25 3 list6_1) fun t20_1 =>
  pop P (binA .gtr 3 t20_1 (Value.int IntKind.i64 0)) fun t21_1 =>
  condM t21_1
  (pop P (Instr.fieldAt 32 g2_1 0) fun t24_1 =>
  rop P (Instr.loadAt 22 t24_1) h_6 fun t25_1 =>
  pop P (Instr.indexAt 25 list6_1 (Value.int IntKind.i64 0)) fun t27_1 =>
  rop P (Instr.loadAt 3 t27_1) h_6 fun t28_1 =>
  pop P (Instr.indexAt 22 t25_1 t28_1) fun t29_1 =>
  rop P (Instr.loadAt 25 t29_1) h_6 fun t30_1 =>
  pop P (lenS 25 3 t30_1) fun t31_1 =>
  ∃ (I_2 : List Value → Heap → Prop) (μ_2 : List Value → Heap → Nat), I_2 [list6_1, (Value.int IntKind.i64 0)] h_6 ∧
  ∀ (junk_2 : Nat → Value) (list6_2 : Value) (t32_1 : Value) (h_7 : Heap), I_2 [list6_2, t32_1] h_7 →
  pop P (binA .lss 3 t32_1 t31_1) fun t33_1 =>
  condM t33_1
  (pop P (Instr.indexAt 25 t30_1 t32_1) fun t34_1 =>
  rop P (Instr.loadAt 3 t34_1) h_7 fun t35_1 =>
  pop P (Instr.indexAt 25 t13_1 t35_1) fun t38_1 =>
  rop P (Instr.loadAt 3 t38_1) h_7 fun t39_1 =>
  pop P (binA .lss 3 t39_1 (Value.int IntKind.i64 0)) fun t40_1 =>
  condM t40_1
  (pop P (Instr.indexAt 25 list6_2 (Value.int IntKind.i64 0)) fun t45_1 =>
  rop P (Instr.loadAt 3 t45_1) h_7 fun t46_1 =>
  pop P (Instr.indexAt 25 t13_1 t46_1) fun t47_1 =>
  rop P (Instr.loadAt 3 t47_1) h_7 fun t48_1 =>
  pop P (binA .add 3 t48_1 (Value.int IntKind.i64 1)) fun t49_1 =>
  pop P (Instr.indexAt 25 t13_1 t35_1) fun t50_1 =>
  uop P (Instr.storeAt 3 t50_1 t49_1) h_7 fun u_2 h_8 =>
  eop P (Instr.buildSlice 25 1 #[(0, t35_1)]) h_8 fun t53_1 h_9 =>
  eop P (appS 25 25 25 list6_2 t53_1) h_9 fun t54_1 h_10 =>
  pop P (binA .add 3 t32_1 (Value.int IntKind.i64 1)) fun t55_1 =>
  I_2 [t54_1, t55_1] h_10 ∧ μ_2 [t54_1, t55_1] h_10 < μ_2 [list6_2, t32_1] h_7)
  (pop P (binA .add 3 t32_1 (Value.int IntKind.i64 1)) fun t55_2 =>
  I_2 [list6_2, t55_2] h_7 ∧ μ_2 [list6_2, t55_2] h_7 < μ_2 [list6_2, t32_1] h_7))
  (pop P (Instr.sliceAt 25 list6_2 (some (Value.int IntKind.i64 1)) none none) fun t23_1 =>
  I_1 [t23_1] h_7 ∧ μ_1 [t23_1] h_7 < μ_1 [list6_1] h_6))
  (K t13_1 h_6)
theorem e187 (g0_1 : Value) (p1_1 : Value) (h : Heap) (K : Value → Heap → Prop) : wpA Try.prog 57 (anOf [(122, [6]), (7826, [6, 32])]) (bodyOf Try.f187) 1 (fun A h => resA Try.prog A h K [.tmp 4]) (fun _ _ _ => False) (fun A h => resA Try.prog A h K [.tmp 4]) (aargs [g0_1, p1_1] 0) h = t187 Try.prog g0_1 p1_1 h K := by kernel_rfl
theorem c187 (g0_1 : Value) (p1_1 : Value) (h : Heap) (K : Value → Heap → Prop) (H : t187 Try.prog g0_1 p1_1 h K) : callM Try.prog 187 #[g0_1, p1_1] h K :=
  callM_of_wpA mixed (fn := Try.f187) Try.func187 (c := bodyOf Try.f187) rfl (of_decide_eq_true (by kernel_rfl)) (anOf [(122, [6]), (7826, [6, 32])]) 55 57 (by kernel_rfl) rfl [.tmp 4] (by kernel_rfl) (args := [g0_1, p1_1]) (by rw [e187]; exact H)

/-! slices.Repeat[[]int,int] -/
def t197 (P : Program) (x0_1 : Value) (count1_1 : Value) (h : Heap) (K : Value → Heap → Prop) : Prop :=
  ∃ J_1 : List Value → Heap → Prop, (pop P (binA .lss 3 count1_1 (Value.int IntKind.i64 0)) fun t10_1 =>
  condM t10_1
  (pop P (Instr.makeInterface 9 (Value.string { data := #[99, 97, 110, 110, 111, 116, 32, 98, 101, 32, 110, 101, 103, 97, 116, 105, 118, 101] })) fun t11_1 =>
  False)
  (J_1 [] h)) ∧
  ∀ (junk_1 : Nat → Value) (h_1 : Heap), J_1 [] h_1 →
  pop P (lenS 25 3 x0_1) fun t14_1 =>
  rop P (convert 3 170 t14_1) h_1 fun t15_1 =>
  rop P (convert 3 170 count1_1) h_1 fun t17_1 =>
  callM P 211 #[t15_1, t17_1] h_1 fun t18_1 h_2 =>
  pop P (Instr.extract t18_1 0) fun t19_1 =>
  pop P (Instr.extract t18_1 1) fun t20_1 =>
  ∃ J_2 : List Value → Heap → Prop, (pop P (binA .gtr 170 t19_1 (Value.int IntKind.u64 0)) fun t22_1 =>
  guardM t22_1 false (fun k_1 => k_1 t20_1 h_2) h_2 fun t24_1 h_3 =>
  guardM t22_1 false (fun k_2 => pop P (binA .gtr 170 t24_1 (Value.int IntKind.u64 9223372036854775807)) fun t25_1 =>
  k_2 t25_1 h_3) h_3 fun t25_2 h_4 =>
  pop P (pickS t22_1 (Value.bool true) t25_2) fun t26_1 =>
  condM t26_1
  (pop P (Instr.makeInterface 9 (Value.string { data := #[116, 104, 101, 32, 114, 101, 115, 117, 108, 116, 32, 111, 102, 32, 40, 108, 101, 110, 40, 120, 41, 32, 42, 32, 99, 111, 117, 110, 116, 41, 32, 111, 118, 101, 114, 102, 108, 111, 119, 115] })) fun t27_1 =>
  False)
  (J_2 [] h_4)) ∧
  ∀ (junk_2 : Nat → Value) (h_5 : Heap), J_2 [] h_5 →
  rop P (convert 170 3 t20_1) h_5 fun t29_1 =>
  eop P (Instr.makeSlice 25 t29_1 t29_1) h_5 fun t30_1 h_6 =>
  eop P (Builtin.copy_ #[25, 25] 3 #[t30_1, x0_1]) h_6 fun t33_1 h_7 =>
  ∃ (I_1 : List Value → Heap → Prop) (μ_1 : List Value → Heap → Nat), I_1 [t33_1] h_7 ∧
  ∀ (junk_3 : Nat → Value) (n8_1 : Value) (h_8 : Heap), I_1 [n8_1] h_8 →
  pop P (lenS 25 3 t30_1) fun t36_1 =>
  pop P (binA .lss 3 n8_1 t36_1) fun t37_1 =>
  condM t37_1
  (pop P (Instr.sliceAt 25 t30_1 (some n8_1) none none) fun t41_1 =>
  pop P (Instr.sliceAt 25 t30_1 none (some n8_1) none) fun t44_1 =>
  eop P (Builtin.copy_ #[25, 25] 3 #[t41_1, t44_1]) h_8 fun t45_1 h_9 =>
  pop P (binA .add 3 n8_1 t45_1) fun t46_1 =>
  I_1 [t46_1] h_9 ∧ μ_1 [t46_1] h_9 < μ_1 [n8_1] h_8)
  (K t30_1 h_8)
theorem e197 (x0_1 : Value) (count1_1 : Value) (h : Heap) (K : Value → Heap → Prop) : wpA Try.prog 48 (anOf [(3, []), (15, []), (508, [8])]) (bodyOf Try.f197) 1 (fun A h => resA Try.prog A h K [.tmp 4]) (fun _ _ _ => False) (fun A h => resA Try.prog A h K [.tmp 4]) (aargs [x0_1, count1_1] 0) h = t197 Try.prog x0_1 count1_1 h K := by kernel_rfl
theorem c197 (x0_1 : Value) (count1_1 : Value) (h : Heap) (K : Value → Heap → Prop) (H : t197 Try.prog x0_1 count1_1 h K) : callM Try.prog 197 #[x0_1, count1_1] h K :=
  callM_of_wpA mixed (fn := Try.f197) Try.func197 (c := bodyOf Try.f197) rfl (of_decide_eq_true (by kernel_rfl)) (anOf [(3, []), (15, []), (508, [8])]) 46 48 (by kernel_rfl) rfl [.tmp 4] (by kernel_rfl) (args := [x0_1, count1_1]) (by rw [e197]; exact H)

/-! math/bits.Mul -/
def t211 (P : Program) (x0_1 : Value) (y1_1 : Value) (h : Heap) (K : Value → Heap → Prop) : Prop :=
  condM (Value.bool false)
  (rop P (convert 170 184 x0_1) h fun t12_1 =>
  rop P (convert 170 184 y1_1) h fun t14_1 =>
  callM P 218 #[t12_1, t14_1] h fun t15_1 h_1 =>
  pop P (Instr.extract t15_1 0) fun t16_1 =>
  pop P (Instr.extract t15_1 1) fun t17_1 =>
  rop P (convert 184 170 t16_1) h_1 fun t19_1 =>
  rop P (convert 184 170 t17_1) h_1 fun t21_1 =>
  K (.tuple #[t19_1, t21_1]) h_1)
  (callM P 219 #[x0_1, y1_1] h fun t25_1 h_2 =>
  pop P (Instr.extract t25_1 0) fun t26_1 =>
  pop P (Instr.extract t25_1 1) fun t27_1 =>
  K (.tuple #[t26_1, t27_1]) h_2)
theorem e211 (x0_1 : Value) (y1_1 : Value) (h : Heap) (K : Value → Heap → Prop) : wpA Try.prog 30 (anOf []) (bodyOf Try.f211) 1 (fun A h => resA Try.prog A h K [.tmp 4, .tmp 5]) (fun _ _ _ => False) (fun A h => resA Try.prog A h K [.tmp 4, .tmp 5]) (aargs [x0_1, y1_1] 0) h = t211 Try.prog x0_1 y1_1 h K := by kernel_rfl
theorem c211 (x0_1 : Value) (y1_1 : Value) (h : Heap) (K : Value → Heap → Prop) (H : t211 Try.prog x0_1 y1_1 h K) : callM Try.prog 211 #[x0_1, y1_1] h K :=
  callM_of_wpA mixed (fn := Try.f211) Try.func211 (c := bodyOf Try.f211) rfl (of_decide_eq_true (by kernel_rfl)) (anOf []) 28 30 (by kernel_rfl) rfl [.tmp 4, .tmp 5] (by kernel_rfl) (args := [x0_1, y1_1]) (by rw [e211]; exact H)

/-! math/bits.Mul32 -/
def t218 (P : Program) (x0_1 : Value) (y1_1 : Value) (h : Heap) (K : Value → Heap → Prop) : Prop :=
  rop P (convert 184 107 x0_1) h fun t8_1 =>
  rop P (convert 184 107 y1_1) h fun t10_1 =>
  pop P (binA .mul 107 t8_1 t10_1) fun t11_1 =>
  pop P (binA .shr 107 t11_1 (Value.int IntKind.u64 32)) fun t13_1 =>
  rop P (convert 107 184 t13_1) h fun t14_1 =>
  rop P (convert 107 184 t11_1) h fun t16_1 =>
  K (.tuple #[t14_1, t16_1]) h
theorem e218 (x0_1 : Value) (y1_1 : Value) (h : Heap) (K : Value → Heap → Prop) : wpA Try.prog 17 (anOf []) (bodyOf Try.f218) 1 (fun A h => resA Try.prog A h K [.tmp 4, .tmp 5]) (fun _ _ _ => False) (fun A h => resA Try.prog A h K [.tmp 4, .tmp 5]) (aargs [x0_1, y1_1] 0) h = t218 Try.prog x0_1 y1_1 h K := by kernel_rfl
theorem c218 (x0_1 : Value) (y1_1 : Value) (h : Heap) (K : Value → Heap → Prop) (H : t218 Try.prog x0_1 y1_1 h K) : callM Try.prog 218 #[x0_1, y1_1] h K :=
  callM_of_wpA mixed (fn := Try.f218) Try.func218 (c := bodyOf Try.f218) rfl (of_decide_eq_true (by kernel_rfl)) (anOf []) 15 17 (by kernel_rfl) rfl [.tmp 4, .tmp 5] (by kernel_rfl) (args := [x0_1, y1_1]) (by rw [e218]; exact H)

/-! math/bits.Mul64 -/
def t219 (P : Program) (x0_1 : Value) (y1_1 : Value) (h : Heap) (K : Value → Heap → Prop) : Prop :=
  pop P (binA .and 107 x0_1 (Value.int IntKind.u64 4294967295)) fun t15_1 =>
  pop P (binA .shr 107 x0_1 (Value.int IntKind.u64 32)) fun t17_1 =>
  pop P (binA .and 107 y1_1 (Value.int IntKind.u64 4294967295)) fun t19_1 =>
  pop P (binA .shr 107 y1_1 (Value.int IntKind.u64 32)) fun t21_1 =>
  pop P (binA .mul 107 t15_1 t19_1) fun t24_1 =>
  pop P (binA .mul 107 t17_1 t19_1) fun t27_1 =>
  pop P (binA .shr 107 t24_1 (Value.int IntKind.u64 32)) fun t29_1 =>
  pop P (binA .add 107 t27_1 t29_1) fun t30_1 =>
  pop P (binA .and 107 t30_1 (Value.int IntKind.u64 4294967295)) fun t32_1 =>
  pop P (binA .shr 107 t30_1 (Value.int IntKind.u64 32)) fun t34_1 =>
  pop P (binA .mul 107 t15_1 t21_1) fun t38_1 =>
  pop P (binA .add 107 t32_1 t38_1) fun t39_1 =>
  pop P (binA .mul 107 t17_1 t21_1) fun t42_1 =>
  pop P (binA .add 107 t42_1 t34_1) fun t44_1 =>
  pop P (binA .shr 107 t39_1 (Value.int IntKind.u64 32)) fun t46_1 =>
  pop P (binA .add 107 t44_1 t46_1) fun t47_1 =>
  pop P (binA .mul 107 x0_1 y1_1) fun t50_1 =>
  K (.tuple #[t47_1, t50_1]) h
theorem e219 (x0_1 : Value) (y1_1 : Value) (h : Heap) (K : Value → Heap → Prop) : wpA Try.prog 51 (anOf []) (bodyOf Try.f219) 1 (fun A h => resA Try.prog A h K [.tmp 4, .tmp 5]) (fun _ _ _ => False) (fun A h => resA Try.prog A h K [.tmp 4, .tmp 5]) (aargs [x0_1, y1_1] 0) h = t219 Try.prog x0_1 y1_1 h K := by kernel_rfl
theorem c219 (x0_1 : Value) (y1_1 : Value) (h : Heap) (K : Value → Heap → Prop) (H : t219 Try.prog x0_1 y1_1 h K) : callM Try.prog 219 #[x0_1, y1_1] h K :=
  callM_of_wpA mixed (fn := Try.f219) Try.func219 (c := bodyOf Try.f219) rfl (of_decide_eq_true (by kernel_rfl)) (anOf []) 49 51 (by kernel_rfl) rfl [.tmp 4, .tmp 5] (by kernel_rfl) (args := [x0_1, y1_1]) (by rw [e219]; exact H)

end Go.Proofs.Ytbhnecochpehdaa
