/-
  What each function that the law 'FnChipsInAnyOrder' comes to asks of the heap, named; tied to the loaded program by the kernel. Written by a program.
-/
import Derived.Test.YtbhnecochpehdaaProg
import Derived.Test.YtbhnecochpehdaaM1
set_option linter.unusedVariables false
namespace Go.Proofs.Ytbhnecochpehdaa
open Go Go.Mx
theorem mixed : Try.prog.follows .mixedOrders = true := by kernel_rfl
/-! laws.FnChipsInAnyOrder -/
def t7 (P : Program) (code0_1 : Value) (more1_1 : Value) (h : Heap) (K : Value → Heap → Prop) : Prop :=
  callM P 32 #[code0_1, more1_1] h fun t58_1 h_1 =>
  condM t58_1
  (K (Value.bool true) h_1)
  (callM P 42 #[code0_1] h_1 fun t61_1 h_2 =>
  pop P (Instr.extract t61_1 0) fun t62_1 =>
  pop P (Instr.extract t61_1 1) fun t63_1 =>
  pop P (Instr.extract t61_1 2) fun t64_1 =>
  pop P (Instr.extract t61_1 3) fun t65_1 =>
  eop P (Instr.alloc 32 true (.tuple #[])) h_2 fun g5_1 h_3 =>
  eop P (Instr.alloc 34 true (.tuple #[])) h_3 fun l7_1 h_4 =>
  uop P (Instr.storeAt 32 g5_1 t62_1) h_4 fun u_1 h_5 =>
  uop P (Instr.storeAt 34 l7_1 t64_1) h_5 fun u_2 h_6 =>
  rop P (Instr.loadAt 32 g5_1) h_6 fun t67_1 =>
  rop P (Instr.loadAt 34 l7_1) h_6 fun t69_1 =>
  callM P 43 #[t67_1, t63_1, t69_1, t65_1] h_6 fun t71_1 h_7 =>
  pop P (Instr.extract t71_1 0) fun t72_1 =>
  pop P (Instr.extract t71_1 1) fun t73_1 =>
  eop P (Instr.alloc 34 true (.tuple #[])) h_7 fun end9_1 h_8 =>
  uop P (Instr.storeAt 34 end9_1 t72_1) h_8 fun u_3 h_9 =>
  rop P (Instr.loadAt 32 g5_1) h_9 fun t75_1 =>
  rop P (Instr.loadAt 34 l7_1) h_9 fun t77_1 =>
  callM P 44 #[t75_1, t63_1, t77_1, t65_1] h_9 fun t79_1 h_10 =>
  pop P (Instr.extract t79_1 0) fun t80_1 =>
  pop P (Instr.extract t79_1 1) fun t81_1 =>
  eop P (Instr.alloc 34 true (.tuple #[])) h_10 fun right11_1 h_11 =>
  uop P (Instr.storeAt 34 right11_1 t80_1) h_11 fun u_4 h_12 =>
  rop P (Instr.loadAt 32 g5_1) h_12 fun t83_1 =>
  rop P (Instr.loadAt 34 l7_1) h_12 fun t85_1 =>
  callM P 15 #[t83_1, t63_1, t85_1] h_12 fun t86_1 h_13 =>
  pop P (Instr.extract t86_1 0) fun t87_1 =>
  pop P (Instr.extract t86_1 1) fun t88_1 =>
  rop P (Instr.loadAt 32 g5_1) h_13 fun t90_1 =>
  rop P (Instr.loadAt 34 l7_1) h_13 fun t92_1 =>
  callM P 12 #[t90_1, t63_1, t92_1] h_13 fun t93_1 h_14 =>
  pop P (Instr.extract t93_1 0) fun t94_1 =>
  pop P (Instr.extract t93_1 1) fun t95_1 =>
  pop P (binE .neq 4 (.tmp 96) (.tmp 97) t73_1 t81_1) fun t98_1 =>
  guardM (asG t98_1 false) false (fun k_1 => rop P (Instr.loadAt 34 end9_1) h_14 fun t100_1 =>
  k_1 t100_1 h_14) h_14 fun t100_2 h_15 =>
  guardM (asG t98_1 false) false (fun k_2 => rop P (Instr.loadAt 34 right11_1) h_15 fun t101_1 =>
  k_2 t101_1 h_15) h_15 fun t101_2 h_16 =>
  guardM (asG t98_1 false) false (fun k_3 => callM P 40 #[t100_2, t101_2] h_16 fun t102_1 h_17 =>
  k_3 t102_1 h_17) h_16 fun t102_2 h_18 =>
  guardM (asG t98_1 false) false (fun k_4 => pop P (Op.unary .not t102_2) fun t103_1 =>
  k_4 t103_1 h_18) h_18 fun t103_2 h_19 =>
  pop P (pickS t98_1 (Value.bool true) t103_2) fun t104_1 =>
  guardM (asG t104_1 false) false (fun k_5 => k_5 t88_1 h_19) h_19 fun t106_1 h_20 =>
  guardM (asG t104_1 false) false (fun k_6 => k_6 t95_1 h_20) h_20 fun t107_1 h_21 =>
  guardM (asG t104_1 false) false (fun k_7 => pop P (binE .neq 4 (.tmp 106) (.tmp 107) t106_1 t107_1) fun t108_1 =>
  k_7 t108_1 h_21) h_21 fun t108_2 h_22 =>
  pop P (pickS t104_1 (Value.bool true) t108_2) fun t109_1 =>
  guardM (asG t109_1 false) false (fun k_8 => k_8 t87_1 h_22) h_22 fun t111_1 h_23 =>
  guardM (asG t109_1 false) false (fun k_9 => k_9 t94_1 h_23) h_23 fun t112_1 h_24 =>
  guardM (asG t109_1 false) false (fun k_10 => callM P 45 #[t111_1, t112_1] h_24 fun t113_1 h_25 =>
  k_10 t113_1 h_25) h_24 fun t113_2 h_26 =>
  guardM (asG t109_1 false) false (fun k_11 => pop P (Op.unary .not t113_2) fun t114_1 =>
  k_11 t114_1 h_26) h_26 fun t114_2 h_27 =>
  pop P (pickS t109_1 (Value.bool true) t114_2) fun t115_1 =>
  guardM (asG t115_1 false) false (fun k_12 => k_12 t73_1 h_27) h_27 fun t117_1 h_28 =>
  guardM (asG t115_1 false) false (fun k_13 => k_13 t117_1 h_28) h_28 fun t118_1 h_29 =>
  guardM (asG t118_1 true) true (fun k_14 => k_14 t88_1 h_29) h_29 fun t119_1 h_30 =>
  guardM (asG t118_1 true) true (fun k_15 => pop P (Op.unary .not t119_1) fun t120_1 =>
  k_15 t120_1 h_30) h_30 fun t120_2 h_31 =>
  guardM (asG t115_1 false) false (fun k_16 => pop P (pickS t118_1 t120_2 (Value.bool false)) fun t121_1 =>
  k_16 t121_1 h_31) h_31 fun t121_2 h_32 =>
  pop P (pickS t115_1 (Value.bool true) t121_2) fun t122_1 =>
  condM t122_1
  (K (Value.bool false) h_32)
  (∃ J_1 : List Value → Heap → Prop, (condM t73_1
  (rop P (Instr.loadAt 32 g5_1) h_32 fun t125_1 =>
  rop P (Instr.loadAt 34 l7_1) h_32 fun t127_1 =>
  callM P 43 #[t125_1, t63_1, t127_1, (Value.slice none 0 0)] h_32 fun t128_1 h_33 =>
  pop P (Instr.extract t128_1 0) fun t129_1 =>
  pop P (Instr.extract t128_1 1) fun t130_1 =>
  eop P (Instr.alloc 34 true (.tuple #[])) h_33 fun plain17_1 h_34 =>
  uop P (Instr.storeAt 34 plain17_1 t129_1) h_34 fun u_5 h_35 =>
  rop P (Instr.loadAt 32 g5_1) h_35 fun t132_1 =>
  rop P (Instr.loadAt 34 end9_1) h_35 fun t134_1 =>
  callM P 46 #[t132_1, t63_1, t134_1] h_35 fun t135_1 h_36 =>
  pop P (Instr.extract t135_1 0) fun t136_1 =>
  pop P (Instr.extract t135_1 1) fun t137_1 =>
  pop P (Op.unary .not t130_1) fun t139_1 =>
  guardM (asG t139_1 false) false (fun k_17 => rop P (Instr.loadAt 34 plain17_1) h_36 fun t141_1 =>
  k_17 t141_1 h_36) h_36 fun t141_2 h_37 =>
  guardM (asG t139_1 false) false (fun k_18 => rop P (Instr.loadAt 34 end9_1) h_37 fun t142_1 =>
  k_18 t142_1 h_37) h_37 fun t142_2 h_38 =>
  guardM (asG t139_1 false) false (fun k_19 => callM P 40 #[t141_2, t142_2] h_38 fun t143_1 h_39 =>
  k_19 t143_1 h_39) h_38 fun t143_2 h_40 =>
  guardM (asG t139_1 false) false (fun k_20 => pop P (Op.unary .not t143_2) fun t144_1 =>
  k_20 t144_1 h_40) h_40 fun t144_2 h_41 =>
  pop P (pickS t139_1 (Value.bool true) t144_2) fun t145_1 =>
  guardM (asG t145_1 false) false (fun k_21 => k_21 t137_1 h_41) h_41 fun t147_1 h_42 =>
  guardM (asG t145_1 false) false (fun k_22 => pop P (Op.unary .not t147_1) fun t148_1 =>
  k_22 t148_1 h_42) h_42 fun t148_2 h_43 =>
  pop P (pickS t145_1 (Value.bool true) t148_2) fun t149_1 =>
  guardM (asG t149_1 false) false (fun k_23 => k_23 t136_1 h_43) h_43 fun t151_1 h_44 =>
  guardM (asG t149_1 false) false (fun k_24 => pop P (Op.unary .not t151_1) fun t152_1 =>
  k_24 t152_1 h_44) h_44 fun t152_2 h_45 =>
  pop P (pickS t149_1 (Value.bool true) t152_2) fun t153_1 =>
  guardM (asG t153_1 false) false (fun k_25 => pop P (Instr.fieldAt 34 end9_1 1) fun t155_1 =>
  k_25 t155_1 h_45) h_45 fun t155_2 h_46 =>
  guardM (asG t153_1 false) false (fun k_26 => rop P (Instr.loadAt 25 t155_2) h_46 fun t156_1 =>
  k_26 t156_1 h_46) h_46 fun t156_2 h_47 =>
  guardM (asG t153_1 false) false (fun k_27 => k_27 t63_1 h_47) h_47 fun t157_1 h_48 =>
  guardM (asG t153_1 false) false (fun k_28 => pop P (Instr.indexAt 25 t156_2 t157_1) fun t158_1 =>
  k_28 t158_1 h_48) h_48 fun t158_2 h_49 =>
  guardM (asG t153_1 false) false (fun k_29 => rop P (Instr.loadAt 3 t158_2) h_49 fun t159_1 =>
  k_29 t159_1 h_49) h_49 fun t159_2 h_50 =>
  guardM (asG t153_1 false) false (fun k_30 => pop P (Instr.fieldAt 34 l7_1 1) fun t160_1 =>
  k_30 t160_1 h_50) h_50 fun t160_2 h_51 =>
  guardM (asG t153_1 false) false (fun k_31 => rop P (Instr.loadAt 25 t160_2) h_51 fun t161_1 =>
  k_31 t161_1 h_51) h_51 fun t161_2 h_52 =>
  guardM (asG t153_1 false) false (fun k_32 => callM P 41 #[t161_2] h_52 fun t162_1 h_53 =>
  k_32 t162_1 h_53) h_52 fun t162_2 h_54 =>
  (∃ b_2 : Bool, asG t153_1 false = .bool b_2 ∧ (b_2 = false → ∀ w : World, w.heap = h_54 → (Instr.loadAt 3 t158_2).run P w = .ok t159_2 w) ∧ (b_2 ≠ false → t159_2 = undef)) ∧
  (∃ b_1 : Bool, asG t153_1 false = .bool b_1 ∧ (b_1 = false → ∀ w : World, w.heap = h_54 → (Instr.loadAt 25 t155_2).run P w = .ok t156_2 w) ∧ (b_1 ≠ false → t156_2 = undef)) ∧
  guardM (asG t153_1 false) false (fun k_33 => pop P (binE .neq 3 (.tmp 159) (.tmp 162) t159_2 t162_2) fun t163_1 =>
  k_33 t163_1 h_54) h_54 fun t163_2 h_55 =>
  pop P (pickS t153_1 (Value.bool true) t163_2) fun t164_1 =>
  guardM (asG t164_1 false) false (fun k_34 => k_34 t87_1 h_55) h_55 fun t166_1 h_56 =>
  guardM (asG t164_1 false) false (fun k_35 => k_35 t63_1 h_56) h_56 fun t167_1 h_57 =>
  guardM (asG t164_1 false) false (fun k_36 => pop P (Instr.indexAt 25 t166_1 t167_1) fun t168_1 =>
  k_36 t168_1 h_57) h_57 fun t168_2 h_58 =>
  guardM (asG t164_1 false) false (fun k_37 => rop P (Instr.loadAt 3 t168_2) h_58 fun t169_1 =>
  k_37 t169_1 h_58) h_58 fun t169_2 h_59 =>
  guardM (asG t164_1 false) false (fun k_38 => pop P (binE .neq 3 (.tmp 169) (.const (Value.int IntKind.i64 0)) t169_2 (Value.int IntKind.i64 0)) fun t170_1 =>
  k_38 t170_1 h_59) h_59 fun t170_2 h_60 =>
  pop P (pickS t164_1 (Value.bool true) t170_2) fun t171_1 =>
  condM t171_1
  (K (Value.bool false) h_60)
  (pop P (Instr.fieldAt 32 g5_1 0) fun t172_1 =>
  rop P (Instr.loadAt 22 t172_1) h_60 fun t173_1 =>
  pop P (lenS 22 3 t173_1) fun t174_1 =>
  ∃ (I_1 : List Value → Heap → Prop) (μ_1 : List Value → Heap → Nat), I_1 [(Value.int IntKind.i64 0)] h_60 ∧
  ∀ (junk_1 : Nat → Value) (t175_1 : Value) (h_61 : Heap), I_1 [t175_1] h_61 →
  pop P (binA .lss 3 t175_1 t174_1) fun t176_1 =>
  condM t176_1
  (pop P (Instr.indexAt 22 t173_1 t175_1) fun t178_1 =>
  rop P (Instr.loadAt 25 t178_1) h_61 fun t179_1 =>
  pop P (binE .neq 3 (.tmp 180) (.tmp 181) t175_1 t63_1) fun t182_1 =>
  guardM (asG t182_1 true) true (fun k_39 => k_39 t179_1 h_61) h_61 fun t184_1 h_62 =>
  guardM (asG t182_1 true) true (fun k_40 => pop P (lenS 25 3 t184_1) fun t185_1 =>
  k_40 t185_1 h_62) h_62 fun t185_2 h_63 =>
  guardM (asG t182_1 true) true (fun k_41 => pop P (binE .eql 3 (.tmp 185) (.const (Value.int IntKind.i64 0)) t185_2 (Value.int IntKind.i64 0)) fun t186_1 =>
  k_41 t186_1 h_63) h_63 fun t186_2 h_64 =>
  guardM (asG t182_1 true) true (fun k_42 => k_42 t186_2 h_64) h_64 fun t187_1 h_65 =>
  guardM (asG t187_1 false) false (fun k_43 => pop P (Instr.fieldAt 34 end9_1 0) fun t188_1 =>
  k_43 t188_1 h_65) h_65 fun t188_2 h_66 =>
  guardM (asG t187_1 false) false (fun k_44 => rop P (Instr.loadAt 25 t188_2) h_66 fun t189_1 =>
  k_44 t189_1 h_66) h_66 fun t189_2 h_67 =>
  guardM (asG t187_1 false) false (fun k_45 => k_45 t175_1 h_67) h_67 fun t190_1 h_68 =>
  guardM (asG t187_1 false) false (fun k_46 => pop P (Instr.indexAt 25 t189_2 t190_1) fun t191_1 =>
  k_46 t191_1 h_68) h_68 fun t191_2 h_69 =>
  guardM (asG t187_1 false) false (fun k_47 => rop P (Instr.loadAt 3 t191_2) h_69 fun t192_1 =>
  k_47 t192_1 h_69) h_69 fun t192_2 h_70 =>
  guardM (asG t187_1 false) false (fun k_48 => pop P (Instr.fieldAt 34 l7_1 0) fun t193_1 =>
  k_48 t193_1 h_70) h_70 fun t193_2 h_71 =>
  guardM (asG t187_1 false) false (fun k_49 => rop P (Instr.loadAt 25 t193_2) h_71 fun t194_1 =>
  k_49 t194_1 h_71) h_71 fun t194_2 h_72 =>
  guardM (asG t187_1 false) false (fun k_50 => k_50 t175_1 h_72) h_72 fun t195_1 h_73 =>
  guardM (asG t187_1 false) false (fun k_51 => pop P (Instr.indexAt 25 t194_2 t195_1) fun t196_1 =>
  k_51 t196_1 h_73) h_73 fun t196_2 h_74 =>
  guardM (asG t187_1 false) false (fun k_52 => rop P (Instr.loadAt 3 t196_2) h_74 fun t197_1 =>
  k_52 t197_1 h_74) h_74 fun t197_2 h_75 =>
  guardM (asG t187_1 false) false (fun k_53 => k_53 t87_1 h_75) h_75 fun t198_1 h_76 =>
  guardM (asG t187_1 false) false (fun k_54 => k_54 t175_1 h_76) h_76 fun t199_1 h_77 =>
  guardM (asG t187_1 false) false (fun k_55 => pop P (Instr.indexAt 25 t198_1 t199_1) fun t200_1 =>
  k_55 t200_1 h_77) h_77 fun t200_2 h_78 =>
  guardM (asG t187_1 false) false (fun k_56 => rop P (Instr.loadAt 3 t200_2) h_78 fun t201_1 =>
  k_56 t201_1 h_78) h_78 fun t201_2 h_79 =>
  guardM (asG t187_1 false) false (fun k_57 => pop P (binA .add 3 t197_2 t201_2) fun t202_1 =>
  k_57 t202_1 h_79) h_79 fun t202_2 h_80 =>
  guardM (asG t187_1 false) false (fun k_58 => k_58 t179_1 h_80) h_80 fun t203_1 h_81 =>
  guardM (asG t187_1 false) false (fun k_59 => pop P (lenS 25 3 t203_1) fun t204_1 =>
  k_59 t204_1 h_81) h_81 fun t204_2 h_82 =>
  guardM (asG t187_1 false) false (fun k_60 => pop P (binA .rem 3 t202_2 t204_2) fun t205_1 =>
  k_60 t205_1 h_82) h_82 fun t205_2 h_83 =>
  guardM (asG t187_1 false) false (fun k_61 => pop P (binE .neq 3 (.tmp 192) (.tmp 205) t192_2 t205_2) fun t206_1 =>
  k_61 t206_1 h_83) h_83 fun t206_2 h_84 =>
  guardM (asG t182_1 true) true (fun k_62 => pop P (pickS t187_1 (Value.bool true) t206_2) fun t207_1 =>
  k_62 t207_1 h_84) h_84 fun t207_2 h_85 =>
  pop P (pickS t182_1 t207_2 (Value.bool false)) fun t208_1 =>
  condM t208_1
  (K (Value.bool false) h_85)
  (pop P (binA .add 3 t175_1 (Value.int IntKind.i64 1)) fun t209_1 =>
  I_1 [t209_1] h_85 ∧ μ_1 [t209_1] h_85 < μ_1 [t175_1] h_61))
  (rop P (Instr.loadAt 32 g5_1) h_61 fun t211_1 =>
  rop P (Instr.loadAt 34 l7_1) h_61 fun t213_1 =>
  callM P 38 #[t211_1, t63_1, t213_1, t87_1] h_61 fun t215_1 h_86 =>
  pop P (Instr.extract t215_1 0) fun t216_1 =>
  pop P (Instr.extract t215_1 1) fun t217_1 =>
  eop P (Instr.alloc 34 true (.tuple #[])) h_86 fun forced23_1 h_87 =>
  uop P (Instr.storeAt 34 forced23_1 t216_1) h_87 fun u_6 h_88 =>
  guardM (asG t217_1 true) true (fun k_63 => rop P (Instr.loadAt 34 forced23_1) h_88 fun t220_1 =>
  k_63 t220_1 h_88) h_88 fun t220_2 h_89 =>
  guardM (asG t217_1 true) true (fun k_64 => rop P (Instr.loadAt 34 end9_1) h_89 fun t221_1 =>
  k_64 t221_1 h_89) h_89 fun t221_2 h_90 =>
  guardM (asG t217_1 true) true (fun k_65 => callM P 40 #[t220_2, t221_2] h_90 fun t222_1 h_91 =>
  k_65 t222_1 h_91) h_90 fun t222_2 h_92 =>
  guardM (asG t217_1 true) true (fun k_66 => pop P (Op.unary .not t222_2) fun t223_1 =>
  k_66 t223_1 h_92) h_92 fun t223_2 h_93 =>
  pop P (pickS t217_1 t223_2 (Value.bool false)) fun t224_1 =>
  condM t224_1
  (K (Value.bool false) h_93)
  (J_1 [] h_93))))
  (J_1 [] h_32)) ∧
  ∀ (junk_2 : Nat → Value) (h_94 : Heap), J_1 [] h_94 →
  callM P 47 #[more1_1] h_94 fun t227_1 h_95 =>
  pop P (Instr.extract t227_1 0) fun t228_1 =>
  pop P (Instr.extract t227_1 1) fun t229_1 =>
  pop P (Instr.extract t227_1 2) fun t230_1 =>
  pop P (Instr.extract t227_1 3) fun t231_1 =>
  eop P (Instr.alloc 32 true (.tuple #[])) h_95 fun h25_1 h_96 =>
  eop P (Instr.alloc 34 true (.tuple #[])) h_96 fun m27_1 h_97 =>
  uop P (Instr.storeAt 32 h25_1 t228_1) h_97 fun u_7 h_98 =>
  uop P (Instr.storeAt 34 m27_1 t230_1) h_98 fun u_8 h_99 =>
  rop P (Instr.loadAt 32 h25_1) h_99 fun t233_1 =>
  rop P (Instr.loadAt 34 m27_1) h_99 fun t235_1 =>
  callM P 48 #[t233_1, t229_1, t235_1, t231_1] h_99 fun t237_1 h_100 =>
  pop P (Instr.extract t237_1 0) fun t238_1 =>
  pop P (Instr.extract t237_1 1) fun t239_1 =>
  eop P (Instr.alloc 34 true (.tuple #[])) h_100 fun behind29_1 h_101 =>
  uop P (Instr.storeAt 34 behind29_1 t238_1) h_101 fun u_9 h_102 =>
  rop P (Instr.loadAt 32 h25_1) h_102 fun t241_1 =>
  rop P (Instr.loadAt 34 m27_1) h_102 fun t243_1 =>
  callM P 49 #[t241_1, t229_1, t243_1, t231_1] h_102 fun t245_1 h_103 =>
  pop P (Instr.extract t245_1 0) fun t246_1 =>
  pop P (Instr.extract t245_1 1) fun t247_1 =>
  eop P (Instr.alloc 34 true (.tuple #[])) h_103 fun model31_1 h_104 =>
  uop P (Instr.storeAt 34 model31_1 t246_1) h_104 fun u_10 h_105 =>
  callM P 50 #[more1_1] h_105 fun t250_1 h_106 =>
  pop P (Instr.extract t250_1 0) fun t251_1 =>
  pop P (Instr.extract t250_1 1) fun t252_1 =>
  pop P (Instr.extract t250_1 2) fun t253_1 =>
  pop P (Instr.extract t250_1 3) fun t254_1 =>
  eop P (Instr.alloc 32 true (.tuple #[])) h_106 fun x33_1 h_107 =>
  eop P (Instr.alloc 34 true (.tuple #[])) h_107 fun z35_1 h_108 =>
  uop P (Instr.storeAt 32 x33_1 t251_1) h_108 fun u_11 h_109 =>
  uop P (Instr.storeAt 34 z35_1 t253_1) h_109 fun u_12 h_110 =>
  rop P (Instr.loadAt 32 x33_1) h_110 fun t256_1 =>
  rop P (Instr.loadAt 34 z35_1) h_110 fun t258_1 =>
  callM P 51 #[t256_1, t252_1, t258_1, t254_1] h_110 fun t260_1 h_111 =>
  pop P (Instr.extract t260_1 0) fun t261_1 =>
  pop P (Instr.extract t260_1 1) fun t262_1 =>
  eop P (Instr.alloc 34 true (.tuple #[])) h_111 fun moved37_1 h_112 =>
  uop P (Instr.storeAt 34 moved37_1 t261_1) h_112 fun u_13 h_113 =>
  rop P (Instr.loadAt 32 x33_1) h_113 fun t264_1 =>
  rop P (Instr.loadAt 34 z35_1) h_113 fun t266_1 =>
  callM P 52 #[t264_1, t252_1, t266_1, t254_1] h_113 fun t268_1 h_114 =>
  pop P (Instr.extract t268_1 0) fun t269_1 =>
  pop P (Instr.extract t268_1 1) fun t270_1 =>
  eop P (Instr.alloc 34 true (.tuple #[])) h_114 fun value39_1 h_115 =>
  uop P (Instr.storeAt 34 value39_1 t269_1) h_115 fun u_14 h_116 =>
  callM P 53 #[more1_1] h_116 fun t273_1 h_117 =>
  pop P (Instr.extract t273_1 0) fun t274_1 =>
  pop P (Instr.extract t273_1 1) fun t275_1 =>
  pop P (Instr.extract t273_1 2) fun t276_1 =>
  eop P (Instr.alloc 32 true (.tuple #[])) h_117 fun a41_1 h_118 =>
  eop P (Instr.alloc 34 true (.tuple #[])) h_118 fun c43_1 h_119 =>
  uop P (Instr.storeAt 32 a41_1 t274_1) h_119 fun u_15 h_120 =>
  uop P (Instr.storeAt 34 c43_1 t276_1) h_120 fun u_16 h_121 =>
  rop P (Instr.loadAt 32 a41_1) h_121 fun t278_1 =>
  rop P (Instr.loadAt 34 c43_1) h_121 fun t280_1 =>
  callM P 46 #[t278_1, t275_1, t280_1] h_121 fun t281_1 h_122 =>
  pop P (Instr.extract t281_1 0) fun t282_1 =>
  pop P (Instr.extract t281_1 1) fun t283_1 =>
  rop P (Instr.loadAt 32 a41_1) h_122 fun t285_1 =>
  rop P (Instr.loadAt 34 c43_1) h_122 fun t287_1 =>
  callM P 54 #[t285_1, t275_1, t287_1] h_122 fun t288_1 h_123 =>
  pop P (Instr.extract t288_1 0) fun t289_1 =>
  pop P (Instr.extract t288_1 1) fun t290_1 =>
  pop P (binE .neq 4 (.tmp 291) (.tmp 292) t239_1 t247_1) fun t293_1 =>
  guardM (asG t293_1 false) false (fun k_67 => rop P (Instr.loadAt 34 behind29_1) h_123 fun t295_1 =>
  k_67 t295_1 h_123) h_123 fun t295_2 h_124 =>
  guardM (asG t293_1 false) false (fun k_68 => rop P (Instr.loadAt 34 model31_1) h_124 fun t296_1 =>
  k_68 t296_1 h_124) h_124 fun t296_2 h_125 =>
  guardM (asG t293_1 false) false (fun k_69 => callM P 40 #[t295_2, t296_2] h_125 fun t297_1 h_126 =>
  k_69 t297_1 h_126) h_125 fun t297_2 h_127 =>
  guardM (asG t293_1 false) false (fun k_70 => pop P (Op.unary .not t297_2) fun t298_1 =>
  k_70 t298_1 h_127) h_127 fun t298_2 h_128 =>
  pop P (pickS t293_1 (Value.bool true) t298_2) fun t299_1 =>
  guardM (asG t299_1 false) false (fun k_71 => k_71 t262_1 h_128) h_128 fun t301_1 h_129 =>
  guardM (asG t299_1 false) false (fun k_72 => k_72 t270_1 h_129) h_129 fun t302_1 h_130 =>
  guardM (asG t299_1 false) false (fun k_73 => pop P (binE .neq 4 (.tmp 301) (.tmp 302) t301_1 t302_1) fun t303_1 =>
  k_73 t303_1 h_130) h_130 fun t303_2 h_131 =>
  pop P (pickS t299_1 (Value.bool true) t303_2) fun t304_1 =>
  guardM (asG t304_1 false) false (fun k_74 => rop P (Instr.loadAt 34 moved37_1) h_131 fun t306_1 =>
  k_74 t306_1 h_131) h_131 fun t306_2 h_132 =>
  guardM (asG t304_1 false) false (fun k_75 => rop P (Instr.loadAt 34 value39_1) h_132 fun t307_1 =>
  k_75 t307_1 h_132) h_132 fun t307_2 h_133 =>
  guardM (asG t304_1 false) false (fun k_76 => callM P 40 #[t306_2, t307_2] h_133 fun t308_1 h_134 =>
  k_76 t308_1 h_134) h_133 fun t308_2 h_135 =>
  guardM (asG t304_1 false) false (fun k_77 => pop P (Op.unary .not t308_2) fun t309_1 =>
  k_77 t309_1 h_135) h_135 fun t309_2 h_136 =>
  pop P (pickS t304_1 (Value.bool true) t309_2) fun t310_1 =>
  guardM (asG t310_1 false) false (fun k_78 => k_78 t283_1 h_136) h_136 fun t312_1 h_137 =>
  guardM (asG t310_1 false) false (fun k_79 => k_79 t290_1 h_137) h_137 fun t313_1 h_138 =>
  guardM (asG t310_1 false) false (fun k_80 => pop P (binE .neq 4 (.tmp 312) (.tmp 313) t312_1 t313_1) fun t314_1 =>
  k_80 t314_1 h_138) h_138 fun t314_2 h_139 =>
  pop P (pickS t310_1 (Value.bool true) t314_2) fun t315_1 =>
  guardM (asG t315_1 false) false (fun k_81 => k_81 t282_1 h_139) h_139 fun t317_1 h_140 =>
  guardM (asG t315_1 false) false (fun k_82 => k_82 t289_1 h_140) h_140 fun t318_1 h_141 =>
  guardM (asG t315_1 false) false (fun k_83 => pop P (binE .neq 4 (.tmp 317) (.tmp 318) t317_1 t318_1) fun t319_1 =>
  k_83 t319_1 h_141) h_141 fun t319_2 h_142 =>
  pop P (pickS t315_1 (Value.bool true) t319_2) fun t320_1 =>
  condM t320_1
  (K (Value.bool false) h_142)
  (condM t239_1
  (rop P (Instr.loadAt 32 h25_1) h_142 fun t323_1 =>
  rop P (Instr.loadAt 34 m27_1) h_142 fun t325_1 =>
  callM P 43 #[t323_1, t229_1, t325_1, (Value.slice none 0 0)] h_142 fun t326_1 h_143 =>
  pop P (Instr.extract t326_1 0) fun t327_1 =>
  pop P (Instr.extract t326_1 1) fun t328_1 =>
  eop P (Instr.alloc 34 true (.tuple #[])) h_143 fun first48_1 h_144 =>
  uop P (Instr.storeAt 34 first48_1 t327_1) h_144 fun u_17 h_145 =>
  rop P (Instr.loadAt 32 h25_1) h_145 fun t330_1 =>
  rop P (Instr.loadAt 34 behind29_1) h_145 fun t332_1 =>
  callM P 43 #[t330_1, t229_1, t332_1, (Value.slice none 0 0)] h_145 fun t333_1 h_146 =>
  pop P (Instr.extract t333_1 0) fun t334_1 =>
  pop P (Instr.extract t333_1 1) fun t335_1 =>
  eop P (Instr.alloc 34 true (.tuple #[])) h_146 fun later50_1 h_147 =>
  uop P (Instr.storeAt 34 later50_1 t334_1) h_147 fun u_18 h_148 =>
  rop P (Instr.loadAt 32 h25_1) h_148 fun t337_1 =>
  rop P (Instr.loadAt 34 m27_1) h_148 fun t339_1 =>
  callM P 15 #[t337_1, t229_1, t339_1] h_148 fun t340_1 h_149 =>
  pop P (Instr.extract t340_1 0) fun t341_1 =>
  pop P (Instr.extract t340_1 1) fun t342_1 =>
  rop P (Instr.loadAt 32 h25_1) h_149 fun t344_1 =>
  rop P (Instr.loadAt 34 behind29_1) h_149 fun t346_1 =>
  callM P 15 #[t344_1, t229_1, t346_1] h_149 fun t347_1 h_150 =>
  pop P (Instr.extract t347_1 0) fun t348_1 =>
  pop P (Instr.extract t347_1 1) fun t349_1 =>
  guardM (asG t328_1 true) true (fun k_84 => k_84 t335_1 h_150) h_150 fun t352_1 h_151 =>
  pop P (pickS t328_1 t352_1 (Value.bool false)) fun t353_1 =>
  guardM (asG t353_1 true) true (fun k_85 => rop P (Instr.loadAt 34 first48_1) h_151 fun t355_1 =>
  k_85 t355_1 h_151) h_151 fun t355_2 h_152 =>
  guardM (asG t353_1 true) true (fun k_86 => rop P (Instr.loadAt 34 later50_1) h_152 fun t356_1 =>
  k_86 t356_1 h_152) h_152 fun t356_2 h_153 =>
  guardM (asG t353_1 true) true (fun k_87 => callM P 40 #[t355_2, t356_2] h_153 fun t357_1 h_154 =>
  k_87 t357_1 h_154) h_153 fun t357_2 h_155 =>
  guardM (asG t353_1 true) true (fun k_88 => pop P (Op.unary .not t357_2) fun t358_1 =>
  k_88 t358_1 h_155) h_155 fun t358_2 h_156 =>
  pop P (pickS t353_1 t358_2 (Value.bool false)) fun t359_1 =>
  guardM (asG t359_1 false) false (fun k_89 => k_89 t342_1 h_156) h_156 fun t361_1 h_157 =>
  guardM (asG t359_1 false) false (fun k_90 => k_90 t361_1 h_157) h_157 fun t362_1 h_158 =>
  guardM (asG t362_1 true) true (fun k_91 => k_91 t349_1 h_158) h_158 fun t363_1 h_159 =>
  guardM (asG t359_1 false) false (fun k_92 => pop P (pickS t362_1 t363_1 (Value.bool false)) fun t364_1 =>
  k_92 t364_1 h_159) h_159 fun t364_2 h_160 =>
  guardM (asG t359_1 false) false (fun k_93 => k_93 t364_2 h_160) h_160 fun t365_1 h_161 =>
  guardM (asG t365_1 true) true (fun k_94 => k_94 t341_1 h_161) h_161 fun t366_1 h_162 =>
  guardM (asG t365_1 true) true (fun k_95 => callM P 41 #[t366_1] h_162 fun t367_1 h_163 =>
  k_95 t367_1 h_163) h_162 fun t367_2 h_164 =>
  guardM (asG t365_1 true) true (fun k_96 => k_96 t348_1 h_164) h_164 fun t368_1 h_165 =>
  guardM (asG t365_1 true) true (fun k_97 => callM P 41 #[t368_1] h_165 fun t369_1 h_166 =>
  k_97 t369_1 h_166) h_165 fun t369_2 h_167 =>
  guardM (asG t365_1 true) true (fun k_98 => k_98 t231_1 h_167) h_167 fun t370_1 h_168 =>
  guardM (asG t365_1 true) true (fun k_99 => pop P (lenS 25 3 t370_1) fun t371_1 =>
  k_99 t371_1 h_168) h_168 fun t371_2 h_169 =>
  guardM (asG t365_1 true) true (fun k_100 => pop P (binA .add 3 t369_2 t371_2) fun t372_1 =>
  k_100 t372_1 h_169) h_169 fun t372_2 h_170 =>
  guardM (asG t365_1 true) true (fun k_101 => pop P (binE .neq 3 (.tmp 367) (.tmp 372) t367_2 t372_2) fun t373_1 =>
  k_101 t373_1 h_170) h_170 fun t373_2 h_171 =>
  guardM (asG t359_1 false) false (fun k_102 => pop P (pickS t365_1 t373_2 (Value.bool false)) fun t374_1 =>
  k_102 t374_1 h_171) h_171 fun t374_2 h_172 =>
  pop P (pickS t359_1 (Value.bool true) t374_2) fun t375_1 =>
  condM t375_1
  (K (Value.bool false) h_172)
  (K (Value.bool true) h_172))
  (K (Value.bool true) h_142))))
theorem e7 (code0_1 : Value) (more1_1 : Value) (h : Heap) (K : Value → Heap → Prop) : wpA Try.prog 376 (anOf [(511, []), (261818, [175])]) (bodyOf Try.f7) 1 (fun A h => resA Try.prog A h K [.tmp 4]) (fun _ _ _ => False) (fun A h => resA Try.prog A h K [.tmp 4]) (aargs [code0_1, more1_1] 0) h = t7 Try.prog code0_1 more1_1 h K := by kernel_rfl
theorem c7 (code0_1 : Value) (more1_1 : Value) (h : Heap) (K : Value → Heap → Prop) (H : t7 Try.prog code0_1 more1_1 h K) : callM Try.prog 7 #[code0_1, more1_1] h K :=
  callM_of_wpA mixed (fn := Try.f7) Try.func7 (c := bodyOf Try.f7) rfl (of_decide_eq_true (by kernel_rfl)) (anOf [(511, []), (261818, [175])]) 374 376 (by kernel_rfl) rfl [.tmp 4] (by kernel_rfl) (args := [code0_1, more1_1]) (by rw [e7]; exact H)

/-! spec.MovesOfLoad -/
def t12 (P : Program) (g0_1 : Value) (sink1_1 : Value) (l2_1 : Value) (h : Heap) (K : Value → Heap → Prop) : Prop :=
  eop P (Instr.box 32 g0_1) h fun g3_1 h_1 =>
  eop P (Instr.box 34 l2_1) h_1 fun l5_1 h_2 =>
  rop P (Instr.loadAt 32 g3_1) h_2 fun t11_1 =>
  rop P (Instr.loadAt 34 l5_1) h_2 fun t13_1 =>
  callM P 76 #[t11_1, sink1_1, t13_1] h_2 fun t14_1 h_3 =>
  pop P (Op.unary .not t14_1) fun t15_1 =>
  condM t15_1
  (K (.tuple #[(Value.slice none 0 0), (Value.bool false)]) h_3)
  (rop P (Instr.loadAt 32 g3_1) h_3 fun t17_1 =>
  rop P (Instr.loadAt 34 l5_1) h_3 fun t19_1 =>
  callM P 77 #[t17_1, sink1_1, t19_1, (Value.slice none 0 0)] h_3 fun t20_1 h_4 =>
  pop P (Instr.extract t20_1 0) fun t21_1 =>
  pop P (Instr.extract t20_1 1) fun t22_1 =>
  pop P (Instr.extract t20_1 2) fun t23_1 =>
  eop P (Instr.alloc 34 true (.tuple #[])) h_4 fun _8_1 h_5 =>
  uop P (Instr.storeAt 34 _8_1 t21_1) h_5 fun u_1 h_6 =>
  K (.tuple #[t22_1, t23_1]) h_6)
theorem e12 (g0_1 : Value) (sink1_1 : Value) (l2_1 : Value) (h : Heap) (K : Value → Heap → Prop) : wpA Try.prog 26 (anOf []) (bodyOf Try.f12) 1 (fun A h => resA Try.prog A h K [.tmp 6, .tmp 7]) (fun _ _ _ => False) (fun A h => resA Try.prog A h K [.tmp 6, .tmp 7]) (aargs [g0_1, sink1_1, l2_1] 0) h = t12 Try.prog g0_1 sink1_1 l2_1 h K := by kernel_rfl
theorem c12 (g0_1 : Value) (sink1_1 : Value) (l2_1 : Value) (h : Heap) (K : Value → Heap → Prop) (H : t12 Try.prog g0_1 sink1_1 l2_1 h K) : callM Try.prog 12 #[g0_1, sink1_1, l2_1] h K :=
  callM_of_wpA mixed (fn := Try.f12) Try.func12 (c := bodyOf Try.f12) rfl (of_decide_eq_true (by kernel_rfl)) (anOf []) 23 26 (by kernel_rfl) rfl [.tmp 6, .tmp 7] (by kernel_rfl) (args := [g0_1, sink1_1, l2_1]) (by rw [e12]; exact H)

/-! impl.MovesOfLoad -/
def t15 (P : Program) (g0_1 : Value) (sink1_1 : Value) (l2_1 : Value) (h : Heap) (K : Value → Heap → Prop) : Prop :=
  eop P (Instr.box 32 g0_1) h fun g3_1 h_1 =>
  eop P (Instr.box 34 l2_1) h_1 fun l5_1 h_2 =>
  rop P (Instr.loadAt 32 g3_1) h_2 fun t9_1 =>
  rop P (Instr.loadAt 34 l5_1) h_2 fun t11_1 =>
  callM P 79 #[t9_1, sink1_1, t11_1] h_2 fun t12_1 h_3 =>
  pop P (Op.unary .not t12_1) fun t13_1 =>
  condM t13_1
  (K (.tuple #[(Value.slice none 0 0), (Value.bool false)]) h_3)
  (rop P (Instr.loadAt 34 l5_1) h_3 fun t14_1 =>
  callM P 80 #[t14_1] h_3 fun t15_1 h_4 =>
  eop P (Instr.alloc 34 true (.tuple #[])) h_4 fun out8_1 h_5 =>
  uop P (Instr.storeAt 34 out8_1 t15_1) h_5 fun u_1 h_6 =>
  rop P (Instr.loadAt 32 g3_1) h_6 fun t16_1 =>
  callM P 81 #[out8_1, t16_1, sink1_1, (Value.slice none 0 0)] h_6 fun t18_1 h_7 =>
  pop P (Instr.extract t18_1 0) fun t19_1 =>
  pop P (Instr.extract t18_1 1) fun t20_1 =>
  K (.tuple #[t19_1, t20_1]) h_7)
theorem e15 (g0_1 : Value) (sink1_1 : Value) (l2_1 : Value) (h : Heap) (K : Value → Heap → Prop) : wpA Try.prog 21 (anOf []) (bodyOf Try.f15) 1 (fun A h => resA Try.prog A h K [.tmp 6, .tmp 7]) (fun _ _ _ => False) (fun A h => resA Try.prog A h K [.tmp 6, .tmp 7]) (aargs [g0_1, sink1_1, l2_1] 0) h = t15 Try.prog g0_1 sink1_1 l2_1 h K := by kernel_rfl
theorem c15 (g0_1 : Value) (sink1_1 : Value) (l2_1 : Value) (h : Heap) (K : Value → Heap → Prop) (H : t15 Try.prog g0_1 sink1_1 l2_1 h K) : callM Try.prog 15 #[g0_1, sink1_1, l2_1] h K :=
  callM_of_wpA mixed (fn := Try.f15) Try.func15 (c := bodyOf Try.f15) rfl (of_decide_eq_true (by kernel_rfl)) (anOf []) 18 21 (by kernel_rfl) rfl [.tmp 6, .tmp 7] (by kernel_rfl) (args := [g0_1, sink1_1, l2_1]) (by rw [e15]; exact H)

/-! laws.big -/
def t32 (P : Program) (code0_1 : Value) (more1_1 : Value) (h : Heap) (K : Value → Heap → Prop) : Prop :=
  pop P (lenS 55 3 code0_1) fun t6_1 =>
  pop P (binA .gtr 3 t6_1 (Value.int IntKind.i64 1048576)) fun t7_1 =>
  guardM (asG t7_1 false) false (fun k_1 => k_1 more1_1 h) h fun t9_1 h_1 =>
  guardM (asG t7_1 false) false (fun k_2 => pop P (lenS 55 3 t9_1) fun t10_1 =>
  k_2 t10_1 h_1) h_1 fun t10_2 h_2 =>
  guardM (asG t7_1 false) false (fun k_3 => k_3 code0_1 h_2) h_2 fun t11_1 h_3 =>
  guardM (asG t7_1 false) false (fun k_4 => pop P (lenS 55 3 t11_1) fun t12_1 =>
  k_4 t12_1 h_3) h_3 fun t12_2 h_4 =>
  guardM (asG t7_1 false) false (fun k_5 => pop P (binA .sub 3 (Value.int IntKind.i64 1048576) t12_2) fun t13_1 =>
  k_5 t13_1 h_4) h_4 fun t13_2 h_5 =>
  guardM (asG t7_1 false) false (fun k_6 => pop P (binA .gtr 3 t10_2 t13_2) fun t14_1 =>
  k_6 t14_1 h_5) h_5 fun t14_2 h_6 =>
  pop P (pickS t7_1 (Value.bool true) t14_2) fun t15_1 =>
  K t15_1 h_6
theorem e32 (code0_1 : Value) (more1_1 : Value) (h : Heap) (K : Value → Heap → Prop) : wpA Try.prog 16 (anOf []) (bodyOf Try.f32) 1 (fun A h => resA Try.prog A h K [.tmp 4]) (fun _ _ _ => False) (fun A h => resA Try.prog A h K [.tmp 4]) (aargs [code0_1, more1_1] 0) h = t32 Try.prog code0_1 more1_1 h K := by kernel_rfl
theorem c32 (code0_1 : Value) (more1_1 : Value) (h : Heap) (K : Value → Heap → Prop) (H : t32 Try.prog code0_1 more1_1 h K) : callM Try.prog 32 #[code0_1, more1_1] h K :=
  callM_of_wpA mixed (fn := Try.f32) Try.func32 (c := bodyOf Try.f32) rfl (of_decide_eq_true (by kernel_rfl)) (anOf []) 14 16 (by kernel_rfl) rfl [.tmp 4] (by kernel_rfl) (args := [code0_1, more1_1]) (by rw [e32]; exact H)

/-! impl.ForceMoves -/
def t38 (P : Program) (g0_1 : Value) (sink1_1 : Value) (l2_1 : Value) (counts3_1 : Value) (h : Heap) (K : Value → Heap → Prop) : Prop :=
  eop P (Instr.box 32 g0_1) h fun g4_1 h_1 =>
  eop P (Instr.box 34 l2_1) h_1 fun l6_1 h_2 =>
  eop P (Instr.alloc 34 true (.tuple #[])) h_2 fun t8_1 h_3 =>
  rop P (Instr.loadAt 32 g4_1) h_3 fun t10_1 =>
  rop P (Instr.loadAt 34 l6_1) h_3 fun t12_1 =>
  callM P 93 #[t10_1, sink1_1, t12_1, counts3_1] h_3 fun t14_1 h_4 =>
  pop P (Instr.extract t14_1 0) fun t15_1 =>
  pop P (Instr.extract t14_1 1) fun t16_1 =>
  uop P (Instr.storeAt 34 t8_1 t15_1) h_4 fun u_1 h_5 =>
  rop P (Instr.loadAt 34 t8_1) h_5 fun r_1 =>
  K (.tuple #[r_1, t16_1]) h_5
theorem e38 (g0_1 : Value) (sink1_1 : Value) (l2_1 : Value) (counts3_1 : Value) (h : Heap) (K : Value → Heap → Prop) : wpA Try.prog 17 (anOf []) (bodyOf Try.f38) 1 (fun A h => resA Try.prog A h K [.cell 8 34, .tmp 9]) (fun _ _ _ => False) (fun A h => resA Try.prog A h K [.cell 8 34, .tmp 9]) (aargs [g0_1, sink1_1, l2_1, counts3_1] 0) h = t38 Try.prog g0_1 sink1_1 l2_1 counts3_1 h K := by kernel_rfl
theorem c38 (g0_1 : Value) (sink1_1 : Value) (l2_1 : Value) (counts3_1 : Value) (h : Heap) (K : Value → Heap → Prop) (H : t38 Try.prog g0_1 sink1_1 l2_1 counts3_1 h K) : callM Try.prog 38 #[g0_1, sink1_1, l2_1, counts3_1] h K :=
  callM_of_wpA mixed (fn := Try.f38) Try.func38 (c := bodyOf Try.f38) rfl (of_decide_eq_true (by kernel_rfl)) (anOf []) 13 17 (by kernel_rfl) rfl [.cell 8 34, .tmp 9] (by kernel_rfl) (args := [g0_1, sink1_1, l2_1, counts3_1]) (by rw [e38]; exact H)

/-! laws.xLoad -/
def t40 (P : Program) (a0_1 : Value) (b1_1 : Value) (h : Heap) (K : Value → Heap → Prop) : Prop :=
  eop P (Instr.box 34 a0_1) h fun a2_1 h_1 =>
  eop P (Instr.box 34 b1_1) h_1 fun b3_1 h_2 =>
  pop P (Instr.fieldAt 34 a2_1 0) fun t5_1 =>
  rop P (Instr.loadAt 25 t5_1) h_2 fun t6_1 =>
  pop P (Instr.fieldAt 34 b3_1 0) fun t7_1 =>
  rop P (Instr.loadAt 25 t7_1) h_2 fun t8_1 =>
  callM P 45 #[t6_1, t8_1] h_2 fun t9_1 h_3 =>
  guardM (asG t9_1 true) true (fun k_1 => pop P (Instr.fieldAt 34 a2_1 1) fun t11_1 =>
  k_1 t11_1 h_3) h_3 fun t11_2 h_4 =>
  guardM (asG t9_1 true) true (fun k_2 => rop P (Instr.loadAt 25 t11_2) h_4 fun t12_1 =>
  k_2 t12_1 h_4) h_4 fun t12_2 h_5 =>
  guardM (asG t9_1 true) true (fun k_3 => pop P (Instr.fieldAt 34 b3_1 1) fun t13_1 =>
  k_3 t13_1 h_5) h_5 fun t13_2 h_6 =>
  guardM (asG t9_1 true) true (fun k_4 => rop P (Instr.loadAt 25 t13_2) h_6 fun t14_1 =>
  k_4 t14_1 h_6) h_6 fun t14_2 h_7 =>
  guardM (asG t9_1 true) true (fun k_5 => callM P 45 #[t12_2, t14_2] h_7 fun t15_1 h_8 =>
  k_5 t15_1 h_8) h_7 fun t15_2 h_9 =>
  pop P (pickS t9_1 t15_2 (Value.bool false)) fun t16_1 =>
  K t16_1 h_9
theorem e40 (a0_1 : Value) (b1_1 : Value) (h : Heap) (K : Value → Heap → Prop) : wpA Try.prog 17 (anOf []) (bodyOf Try.f40) 1 (fun A h => resA Try.prog A h K [.tmp 4]) (fun _ _ _ => False) (fun A h => resA Try.prog A h K [.tmp 4]) (aargs [a0_1, b1_1] 0) h = t40 Try.prog a0_1 b1_1 h K := by kernel_rfl
theorem c40 (a0_1 : Value) (b1_1 : Value) (h : Heap) (K : Value → Heap → Prop) (H : t40 Try.prog a0_1 b1_1 h K) : callM Try.prog 40 #[a0_1, b1_1] h K :=
  callM_of_wpA mixed (fn := Try.f40) Try.func40 (c := bodyOf Try.f40) rfl (of_decide_eq_true (by kernel_rfl)) (anOf []) 15 17 (by kernel_rfl) rfl [.tmp 4] (by kernel_rfl) (args := [a0_1, b1_1]) (by rw [e40]; exact H)

/-! laws.xSum -/
def t41 (P : Program) (a0_1 : Value) (h : Heap) (K : Value → Heap → Prop) : Prop :=
  pop P (lenS 25 3 a0_1) fun t7_1 =>
  ∃ (I_1 : List Value → Heap → Prop) (μ_1 : List Value → Heap → Nat), I_1 [(Value.int IntKind.i64 0), (Value.int IntKind.i64 0)] h ∧
  ∀ (junk_1 : Nat → Value) (sum3_1 : Value) (t8_1 : Value) (h_1 : Heap), I_1 [sum3_1, t8_1] h_1 →
  pop P (binA .lss 3 t8_1 t7_1) fun t9_1 =>
  condM t9_1
  (pop P (Instr.indexAt 25 a0_1 t8_1) fun t10_1 =>
  rop P (Instr.loadAt 3 t10_1) h_1 fun t11_1 =>
  pop P (binA .add 3 sum3_1 t11_1) fun t14_1 =>
  pop P (binA .add 3 t8_1 (Value.int IntKind.i64 1)) fun t15_1 =>
  I_1 [t14_1, t15_1] h_1 ∧ μ_1 [t14_1, t15_1] h_1 < μ_1 [sum3_1, t8_1] h_1)
  (K sum3_1 h_1)
theorem e41 (a0_1 : Value) (h : Heap) (K : Value → Heap → Prop) : wpA Try.prog 17 (anOf [(58, [3, 8])]) (bodyOf Try.f41) 1 (fun A h => resA Try.prog A h K [.tmp 2]) (fun _ _ _ => False) (fun A h => resA Try.prog A h K [.tmp 2]) (aargs [a0_1] 0) h = t41 Try.prog a0_1 h K := by kernel_rfl
theorem c41 (a0_1 : Value) (h : Heap) (K : Value → Heap → Prop) (H : t41 Try.prog a0_1 h K) : callM Try.prog 41 #[a0_1] h K :=
  callM_of_wpA mixed (fn := Try.f41) Try.func41 (c := bodyOf Try.f41) rfl (of_decide_eq_true (by kernel_rfl)) (anOf [(58, [3, 8])]) 16 17 (by kernel_rfl) rfl [.tmp 2] (by kernel_rfl) (args := [a0_1]) (by rw [e41]; exact H)

/-! spec.DrawEndOfLoad -/
def t42 (P : Program) (code0_1 : Value) (h : Heap) (K : Value → Heap → Prop) : Prop :=
  eop P (Instr.alloc 32 true (.tuple #[])) h fun t2_1 h_1 =>
  eop P (Instr.alloc 34 true (.tuple #[])) h_1 fun t4_1 h_2 =>
  pop P (Instr.build 109 #[(0, code0_1)]) fun t13_1 =>
  eop P (Instr.box 109 t13_1) h_2 fun t14_1 h_3 =>
  callM P 98 #[t14_1] h_3 fun t17_1 h_4 =>
  pop P (Instr.extract t17_1 0) fun t18_1 =>
  pop P (Instr.extract t17_1 1) fun t19_1 =>
  pop P (Instr.extract t17_1 2) fun t20_1 =>
  eop P (Instr.alloc 32 true (.tuple #[])) h_4 fun g7_1 h_5 =>
  eop P (Instr.alloc 34 true (.tuple #[])) h_5 fun l9_1 h_6 =>
  uop P (Instr.storeAt 32 g7_1 t18_1) h_6 fun u_1 h_7 =>
  uop P (Instr.storeAt 34 l9_1 t20_1) h_7 fun u_2 h_8 =>
  eop P (Instr.buildSlice 25 6 #[(0, (Value.int IntKind.i64 0)), (1, (Value.int IntKind.i64 3)), (2, (Value.int IntKind.i64 10)), (3, (Value.int IntKind.i64 40)), (4, (Value.int IntKind.i64 100)), (5, (Value.int IntKind.i64 101))]) h_8 fun t22_1 h_9 =>
  callM P 101 #[t14_1, t22_1] h_9 fun t23_1 h_10 =>
  ∃ (I_1 : List Value → Heap → Prop) (μ_1 : List Value → Heap → Nat), I_1 [(Value.slice none 0 0), t23_1] h_10 ∧
  ∀ (junk_1 : Nat → Value) (choices10_1 : Value) (k11_1 : Value) (h_11 : Heap), I_1 [choices10_1, k11_1] h_11 →
  pop P (binA .gtr 3 k11_1 (Value.int IntKind.i64 0)) fun t25_1 =>
  condM t25_1
  (callM P 100 #[t14_1, (Value.int IntKind.i64 9)] h_11 fun t30_1 h_12 =>
  eop P (Instr.buildSlice 25 1 #[(0, t30_1)]) h_12 fun t31_1 h_13 =>
  eop P (appS 25 25 25 choices10_1 t31_1) h_13 fun t32_1 h_14 =>
  pop P (binA .sub 3 k11_1 (Value.int IntKind.i64 1)) fun t27_1 =>
  I_1 [t32_1, t27_1] h_14 ∧ μ_1 [t32_1, t27_1] h_14 < μ_1 [choices10_1, k11_1] h_11)
  (∃ J_1 : List Value → Heap → Prop, (pop P (lenS 25 3 choices10_1) fun t34_1 =>
  pop P (binA .gtr 3 t34_1 (Value.int IntKind.i64 0)) fun t35_1 =>
  guardM (asG t35_1 true) true (fun k_1 => k_1 t14_1 h_11) h_11 fun t37_1 h_15 =>
  guardM (asG t35_1 true) true (fun k_2 => callM P 99 #[t37_1, (Value.int IntKind.i64 14)] h_15 fun t38_1 h_16 =>
  k_2 t38_1 h_16) h_15 fun t38_2 h_17 =>
  pop P (pickS t35_1 t38_2 (Value.bool false)) fun t39_1 =>
  condM t39_1
  (eop P (Instr.buildSlice 25 2 #[(0, (Value.int IntKind.i64 (-1))), (1, (Value.int IntKind.i64 4611686018427387904))]) h_17 fun t42_1 h_18 =>
  callM P 101 #[t14_1, t42_1] h_18 fun t43_1 h_19 =>
  pop P (Instr.indexAt 25 choices10_1 (Value.int IntKind.i64 0)) fun t44_1 =>
  uop P (Instr.storeAt 3 t44_1 t43_1) h_19 fun u_3 h_20 =>
  J_1 [] h_20)
  (J_1 [] h_17)) ∧
  ∀ (junk_2 : Nat → Value) (h_21 : Heap), J_1 [] h_21 →
  rop P (Instr.loadAt 32 g7_1) h_21 fun t45_1 =>
  rop P (Instr.loadAt 34 l9_1) h_21 fun t47_1 =>
  uop P (Instr.storeAt 32 t2_1 t45_1) h_21 fun u_4 h_22 =>
  (∀ w : World, w.heap = h_22 → (Instr.loadAt 34 l9_1).run P w = .ok t47_1 w) ∧
  uop P (Instr.storeAt 34 t4_1 t47_1) h_22 fun u_5 h_23 =>
  rop P (Instr.loadAt 32 t2_1) h_23 fun r_1 =>
  rop P (Instr.loadAt 34 t4_1) h_23 fun r_2 =>
  K (.tuple #[r_1, t19_1, r_2, choices10_1]) h_23)
theorem e42 (code0_1 : Value) (h : Heap) (K : Value → Heap → Prop) : wpA Try.prog 49 (anOf [(63, []), (250, [10, 11])]) (bodyOf Try.f42) 1 (fun A h => resA Try.prog A h K [.cell 2 32, .tmp 3, .cell 4 34, .tmp 5]) (fun _ _ _ => False) (fun A h => resA Try.prog A h K [.cell 2 32, .tmp 3, .cell 4 34, .tmp 5]) (aargs [code0_1] 0) h = t42 Try.prog code0_1 h K := by kernel_rfl
theorem c42 (code0_1 : Value) (h : Heap) (K : Value → Heap → Prop) (H : t42 Try.prog code0_1 h K) : callM Try.prog 42 #[code0_1] h K :=
  callM_of_wpA mixed (fn := Try.f42) Try.func42 (c := bodyOf Try.f42) rfl (of_decide_eq_true (by kernel_rfl)) (anOf [(63, []), (250, [10, 11])]) 48 49 (by kernel_rfl) rfl [.cell 2 32, .tmp 3, .cell 4 34, .tmp 5] (by kernel_rfl) (args := [code0_1]) (by rw [e42]; exact H)

/-! impl.EndOfLoad -/
def t43 (P : Program) (g0_1 : Value) (sink1_1 : Value) (l2_1 : Value) (choices3_1 : Value) (h : Heap) (K : Value → Heap → Prop) : Prop :=
  eop P (Instr.box 32 g0_1) h fun g4_1 h_1 =>
  eop P (Instr.box 34 l2_1) h_1 fun l6_1 h_2 =>
  eop P (Instr.alloc 34 true (.tuple #[])) h_2 fun t8_1 h_3 =>
  rop P (Instr.loadAt 32 g4_1) h_3 fun t13_1 =>
  rop P (Instr.loadAt 34 l6_1) h_3 fun t15_1 =>
  callM P 79 #[t13_1, sink1_1, t15_1] h_3 fun t16_1 h_4 =>
  pop P (Op.unary .not t16_1) fun t17_1 =>
  guardM (asG t17_1 false) false (fun k_1 => k_1 choices3_1 h_4) h_4 fun t19_1 h_5 =>
  guardM (asG t17_1 false) false (fun k_2 => pop P (lenS 25 3 t19_1) fun t20_1 =>
  k_2 t20_1 h_5) h_5 fun t20_2 h_6 =>
  guardM (asG t17_1 false) false (fun k_3 => pop P (binA .gtr 3 t20_2 (Value.int IntKind.i64 100)) fun t21_1 =>
  k_3 t21_1 h_6) h_6 fun t21_2 h_7 =>
  pop P (pickS t17_1 (Value.bool true) t21_2) fun t22_1 =>
  guardM (asG t22_1 false) false (fun k_4 => k_4 choices3_1 h_7) h_7 fun t24_1 h_8 =>
  guardM (asG t22_1 false) false (fun k_5 => callM P 102 #[t24_1, (.func (.func 103) #[] #[])] h_8 fun t25_1 h_9 =>
  k_5 t25_1 h_9) h_8 fun t25_2 h_10 =>
  pop P (pickS t22_1 (Value.bool true) t25_2) fun t26_1 =>
  condM t26_1
  (pop P (Instr.build 34 #[]) fun t27_1 =>
  uop P (Instr.storeAt 34 t8_1 t27_1) h_10 fun u_1 h_11 =>
  rop P (Instr.loadAt 34 t8_1) h_11 fun r_1 =>
  K (.tuple #[r_1, (Value.bool false)]) h_11)
  (rop P (Instr.loadAt 34 l6_1) h_10 fun t28_1 =>
  callM P 80 #[t28_1] h_10 fun t29_1 h_12 =>
  eop P (Instr.alloc 34 true (.tuple #[])) h_12 fun out10_1 h_13 =>
  uop P (Instr.storeAt 34 out10_1 t29_1) h_13 fun u_2 h_14 =>
  rop P (Instr.loadAt 32 g4_1) h_14 fun t31_1 =>
  callM P 81 #[out10_1, t31_1, sink1_1, choices3_1] h_14 fun t34_1 h_15 =>
  pop P (Instr.extract t34_1 0) fun t35_1 =>
  pop P (Instr.extract t34_1 1) fun t36_1 =>
  pop P (Op.unary .not t36_1) fun t38_1 =>
  condM t38_1
  (pop P (Instr.build 34 #[]) fun t39_1 =>
  uop P (Instr.storeAt 34 t8_1 t39_1) h_15 fun u_3 h_16 =>
  rop P (Instr.loadAt 34 t8_1) h_16 fun r_2 =>
  K (.tuple #[r_2, (Value.bool false)]) h_16)
  (rop P (Instr.loadAt 34 out10_1) h_15 fun t40_1 =>
  uop P (Instr.storeAt 34 t8_1 t40_1) h_15 fun u_4 h_17 =>
  rop P (Instr.loadAt 34 t8_1) h_17 fun r_3 =>
  K (.tuple #[r_3, (Value.bool true)]) h_17))
theorem e43 (g0_1 : Value) (sink1_1 : Value) (l2_1 : Value) (choices3_1 : Value) (h : Heap) (K : Value → Heap → Prop) : wpA Try.prog 41 (anOf []) (bodyOf Try.f43) 1 (fun A h => resA Try.prog A h K [.cell 8 34, .tmp 9]) (fun _ _ _ => False) (fun A h => resA Try.prog A h K [.cell 8 34, .tmp 9]) (aargs [g0_1, sink1_1, l2_1, choices3_1] 0) h = t43 Try.prog g0_1 sink1_1 l2_1 choices3_1 h K := by kernel_rfl
theorem c43 (g0_1 : Value) (sink1_1 : Value) (l2_1 : Value) (choices3_1 : Value) (h : Heap) (K : Value → Heap → Prop) (H : t43 Try.prog g0_1 sink1_1 l2_1 choices3_1 h K) : callM Try.prog 43 #[g0_1, sink1_1, l2_1, choices3_1] h K :=
  callM_of_wpA mixed (fn := Try.f43) Try.func43 (c := bodyOf Try.f43) rfl (of_decide_eq_true (by kernel_rfl)) (anOf []) 37 41 (by kernel_rfl) rfl [.cell 8 34, .tmp 9] (by kernel_rfl) (args := [g0_1, sink1_1, l2_1, choices3_1]) (by rw [e43]; exact H)

/-! spec.EndOfLoad -/
def t44 (P : Program) (g0_1 : Value) (sink1_1 : Value) (l2_1 : Value) (choices3_1 : Value) (h : Heap) (K : Value → Heap → Prop) : Prop :=
  eop P (Instr.box 32 g0_1) h fun g4_1 h_1 =>
  eop P (Instr.box 34 l2_1) h_1 fun l6_1 h_2 =>
  eop P (Instr.alloc 34 true (.tuple #[])) h_2 fun t8_1 h_3 =>
  rop P (Instr.loadAt 32 g4_1) h_3 fun t13_1 =>
  rop P (Instr.loadAt 34 l6_1) h_3 fun t15_1 =>
  callM P 76 #[t13_1, sink1_1, t15_1] h_3 fun t16_1 h_4 =>
  pop P (Op.unary .not t16_1) fun t17_1 =>
  guardM (asG t17_1 false) false (fun k_1 => k_1 choices3_1 h_4) h_4 fun t19_1 h_5 =>
  guardM (asG t17_1 false) false (fun k_2 => pop P (lenS 25 3 t19_1) fun t20_1 =>
  k_2 t20_1 h_5) h_5 fun t20_2 h_6 =>
  guardM (asG t17_1 false) false (fun k_3 => pop P (binA .gtr 3 t20_2 (Value.int IntKind.i64 100)) fun t21_1 =>
  k_3 t21_1 h_6) h_6 fun t21_2 h_7 =>
  pop P (pickS t17_1 (Value.bool true) t21_2) fun t22_1 =>
  guardM (asG t22_1 false) false (fun k_4 => k_4 choices3_1 h_7) h_7 fun t24_1 h_8 =>
  guardM (asG t22_1 false) false (fun k_5 => callM P 104 #[t24_1, (Value.int IntKind.i64 0), (Value.int IntKind.i64 9223372036854775807)] h_8 fun t25_1 h_9 =>
  k_5 t25_1 h_9) h_8 fun t25_2 h_10 =>
  guardM (asG t22_1 false) false (fun k_6 => pop P (Op.unary .not t25_2) fun t26_1 =>
  k_6 t26_1 h_10) h_10 fun t26_2 h_11 =>
  pop P (pickS t22_1 (Value.bool true) t26_2) fun t27_1 =>
  condM t27_1
  (pop P (Instr.build 34 #[]) fun t28_1 =>
  uop P (Instr.storeAt 34 t8_1 t28_1) h_11 fun u_1 h_12 =>
  rop P (Instr.loadAt 34 t8_1) h_12 fun r_1 =>
  K (.tuple #[r_1, (Value.bool false)]) h_12)
  (rop P (Instr.loadAt 32 g4_1) h_11 fun t30_1 =>
  rop P (Instr.loadAt 34 l6_1) h_11 fun t32_1 =>
  callM P 77 #[t30_1, sink1_1, t32_1, choices3_1] h_11 fun t34_1 h_13 =>
  pop P (Instr.extract t34_1 0) fun t35_1 =>
  pop P (Instr.extract t34_1 1) fun t36_1 =>
  pop P (Instr.extract t34_1 2) fun t37_1 =>
  eop P (Instr.alloc 34 true (.tuple #[])) h_13 fun out10_1 h_14 =>
  uop P (Instr.storeAt 34 out10_1 t35_1) h_14 fun u_2 h_15 =>
  rop P (Instr.loadAt 34 out10_1) h_15 fun t38_1 =>
  uop P (Instr.storeAt 34 t8_1 t38_1) h_15 fun u_3 h_16 =>
  rop P (Instr.loadAt 34 t8_1) h_16 fun r_2 =>
  K (.tuple #[r_2, t37_1]) h_16)
theorem e44 (g0_1 : Value) (sink1_1 : Value) (l2_1 : Value) (choices3_1 : Value) (h : Heap) (K : Value → Heap → Prop) : wpA Try.prog 40 (anOf []) (bodyOf Try.f44) 1 (fun A h => resA Try.prog A h K [.cell 8 34, .tmp 9]) (fun _ _ _ => False) (fun A h => resA Try.prog A h K [.cell 8 34, .tmp 9]) (aargs [g0_1, sink1_1, l2_1, choices3_1] 0) h = t44 Try.prog g0_1 sink1_1 l2_1 choices3_1 h K := by kernel_rfl
theorem c44 (g0_1 : Value) (sink1_1 : Value) (l2_1 : Value) (choices3_1 : Value) (h : Heap) (K : Value → Heap → Prop) (H : t44 Try.prog g0_1 sink1_1 l2_1 choices3_1 h K) : callM Try.prog 44 #[g0_1, sink1_1, l2_1, choices3_1] h K :=
  callM_of_wpA mixed (fn := Try.f44) Try.func44 (c := bodyOf Try.f44) rfl (of_decide_eq_true (by kernel_rfl)) (anOf []) 36 40 (by kernel_rfl) rfl [.cell 8 34, .tmp 9] (by kernel_rfl) (args := [g0_1, sink1_1, l2_1, choices3_1]) (by rw [e44]; exact H)

/-! laws.xSame -/
def t45 (P : Program) (a0_1 : Value) (b1_1 : Value) (h : Heap) (K : Value → Heap → Prop) : Prop :=
  pop P (lenS 25 3 a0_1) fun t7_1 =>
  pop P (lenS 25 3 b1_1) fun t9_1 =>
  pop P (binE .neq 3 (.tmp 7) (.tmp 9) t7_1 t9_1) fun t10_1 =>
  condM t10_1
  (K (Value.bool false) h)
  (pop P (lenS 25 3 a0_1) fun t12_1 =>
  ∃ (I_1 : List Value → Heap → Prop) (μ_1 : List Value → Heap → Nat), I_1 [(Value.int IntKind.i64 0)] h ∧
  ∀ (junk_1 : Nat → Value) (t13_1 : Value) (h_1 : Heap), I_1 [t13_1] h_1 →
  pop P (binA .lss 3 t13_1 t12_1) fun t14_1 =>
  condM t14_1
  (pop P (Instr.indexAt 25 a0_1 t13_1) fun t18_1 =>
  rop P (Instr.loadAt 3 t18_1) h_1 fun t19_1 =>
  pop P (Instr.indexAt 25 b1_1 t13_1) fun t22_1 =>
  rop P (Instr.loadAt 3 t22_1) h_1 fun t23_1 =>
  pop P (binE .neq 3 (.tmp 19) (.tmp 23) t19_1 t23_1) fun t24_1 =>
  condM t24_1
  (K (Value.bool false) h_1)
  (pop P (binA .add 3 t13_1 (Value.int IntKind.i64 1)) fun t25_1 =>
  I_1 [t25_1] h_1 ∧ μ_1 [t25_1] h_1 < μ_1 [t13_1] h_1))
  (K (Value.bool true) h_1))
theorem e45 (a0_1 : Value) (b1_1 : Value) (h : Heap) (K : Value → Heap → Prop) : wpA Try.prog 26 (anOf [(58, [13])]) (bodyOf Try.f45) 1 (fun A h => resA Try.prog A h K [.tmp 4]) (fun _ _ _ => False) (fun A h => resA Try.prog A h K [.tmp 4]) (aargs [a0_1, b1_1] 0) h = t45 Try.prog a0_1 b1_1 h K := by kernel_rfl
theorem c45 (a0_1 : Value) (b1_1 : Value) (h : Heap) (K : Value → Heap → Prop) (H : t45 Try.prog a0_1 b1_1 h K) : callM Try.prog 45 #[a0_1, b1_1] h K :=
  callM_of_wpA mixed (fn := Try.f45) Try.func45 (c := bodyOf Try.f45) rfl (of_decide_eq_true (by kernel_rfl)) (anOf [(58, [13])]) 24 26 (by kernel_rfl) rfl [.tmp 4] (by kernel_rfl) (args := [a0_1, b1_1]) (by rw [e45]; exact H)

/-! impl.IsLoad -/
def t46 (P : Program) (g0_1 : Value) (sink1_1 : Value) (l2_1 : Value) (h : Heap) (K : Value → Heap → Prop) : Prop :=
  eop P (Instr.box 32 g0_1) h fun g3_1 h_1 =>
  eop P (Instr.box 34 l2_1) h_1 fun l5_1 h_2 =>
  rop P (Instr.loadAt 32 g3_1) h_2 fun t8_1 =>
  callM P 105 #[t8_1, sink1_1] h_2 fun t10_1 h_3 =>
  pop P (Op.unary .not t10_1) fun t11_1 =>
  condM t11_1
  (K (.tuple #[(Value.bool false), (Value.bool false)]) h_3)
  (rop P (Instr.loadAt 32 g3_1) h_3 fun t12_1 =>
  rop P (Instr.loadAt 34 l5_1) h_3 fun t14_1 =>
  callM P 79 #[t12_1, sink1_1, t14_1] h_3 fun t15_1 h_4 =>
  K (.tuple #[t15_1, (Value.bool true)]) h_4)
theorem e46 (g0_1 : Value) (sink1_1 : Value) (l2_1 : Value) (h : Heap) (K : Value → Heap → Prop) : wpA Try.prog 16 (anOf []) (bodyOf Try.f46) 1 (fun A h => resA Try.prog A h K [.tmp 6, .tmp 7]) (fun _ _ _ => False) (fun A h => resA Try.prog A h K [.tmp 6, .tmp 7]) (aargs [g0_1, sink1_1, l2_1] 0) h = t46 Try.prog g0_1 sink1_1 l2_1 h K := by kernel_rfl
theorem c46 (g0_1 : Value) (sink1_1 : Value) (l2_1 : Value) (h : Heap) (K : Value → Heap → Prop) (H : t46 Try.prog g0_1 sink1_1 l2_1 h K) : callM Try.prog 46 #[g0_1, sink1_1, l2_1] h K :=
  callM_of_wpA mixed (fn := Try.f46) Try.func46 (c := bodyOf Try.f46) rfl (of_decide_eq_true (by kernel_rfl)) (anOf []) 13 16 (by kernel_rfl) rfl [.tmp 6, .tmp 7] (by kernel_rfl) (args := [g0_1, sink1_1, l2_1]) (by rw [e46]; exact H)

/-! spec.DrawMoveInOrder -/
def t47 (P : Program) (code0_1 : Value) (h : Heap) (K : Value → Heap → Prop) : Prop :=
  eop P (Instr.alloc 32 true (.tuple #[])) h fun t2_1 h_1 =>
  eop P (Instr.alloc 34 true (.tuple #[])) h_1 fun t4_1 h_2 =>
  pop P (Instr.build 109 #[(0, code0_1)]) fun t16_1 =>
  eop P (Instr.box 109 t16_1) h_2 fun t17_1 h_3 =>
  callM P 98 #[t17_1] h_3 fun t20_1 h_4 =>
  pop P (Instr.extract t20_1 0) fun t21_1 =>
  pop P (Instr.extract t20_1 1) fun t22_1 =>
  pop P (Instr.extract t20_1 2) fun t23_1 =>
  eop P (Instr.alloc 32 true (.tuple #[])) h_4 fun g7_1 h_5 =>
  eop P (Instr.alloc 34 true (.tuple #[])) h_5 fun l9_1 h_6 =>
  uop P (Instr.storeAt 32 g7_1 t21_1) h_6 fun u_1 h_7 =>
  uop P (Instr.storeAt 34 l9_1 t23_1) h_7 fun u_2 h_8 =>
  callM P 100 #[t17_1, (Value.int IntKind.i64 6)] h_8 fun t25_1 h_9 =>
  ∃ (I_1 : List Value → Heap → Prop) (μ_1 : List Value → Heap → Nat), I_1 [(Value.slice none 0 0), t25_1] h_9 ∧
  ∀ (junk_1 : Nat → Value) (order10_1 : Value) (k11_1 : Value) (h_10 : Heap), I_1 [order10_1, k11_1] h_10 →
  pop P (binA .gtr 3 k11_1 (Value.int IntKind.i64 0)) fun t27_1 =>
  condM t27_1
  (∃ J_1 : List Value → Heap → Prop, (rop P (Instr.loadAt 32 g7_1) h_10 fun t31_1 =>
  rop P (Instr.loadAt 34 l9_1) h_10 fun t33_1 =>
  callM P 49 #[t31_1, t22_1, t33_1, order10_1] h_10 fun t35_1 h_11 =>
  pop P (Instr.extract t35_1 0) fun t36_1 =>
  pop P (Instr.extract t35_1 1) fun t37_1 =>
  eop P (Instr.alloc 34 true (.tuple #[])) h_11 fun out12_1 h_12 =>
  uop P (Instr.storeAt 34 out12_1 t36_1) h_12 fun u_3 h_13 =>
  guardM (asG t37_1 true) true (fun k_1 => k_1 t22_1 h_13) h_13 fun t40_1 h_14 =>
  guardM (asG t37_1 true) true (fun k_2 => pop P (Instr.fieldAt 34 out12_1 1) fun t41_1 =>
  k_2 t41_1 h_14) h_14 fun t41_2 h_15 =>
  guardM (asG t37_1 true) true (fun k_3 => rop P (Instr.loadAt 25 t41_2) h_15 fun t42_1 =>
  k_3 t42_1 h_15) h_15 fun t42_2 h_16 =>
  guardM (asG t37_1 true) true (fun k_4 => callM P 96 #[t40_1, t42_2] h_16 fun t43_1 h_17 =>
  k_4 t43_1 h_17) h_16 fun t43_2 h_18 =>
  guardM (asG t37_1 true) true (fun k_5 => pop P (lenS 25 3 t43_2) fun t44_1 =>
  k_5 t44_1 h_18) h_18 fun t44_2 h_19 =>
  guardM (asG t37_1 true) true (fun k_6 => pop P (binA .gtr 3 t44_2 (Value.int IntKind.i64 0)) fun t45_1 =>
  k_6 t45_1 h_19) h_19 fun t45_2 h_20 =>
  pop P (pickS t37_1 t45_2 (Value.bool false)) fun t46_1 =>
  guardM (asG t46_1 true) true (fun k_7 => k_7 t17_1 h_20) h_20 fun t48_1 h_21 =>
  guardM (asG t46_1 true) true (fun k_8 => callM P 99 #[t48_1, (Value.int IntKind.i64 6)] h_21 fun t49_1 h_22 =>
  k_8 t49_1 h_22) h_21 fun t49_2 h_23 =>
  guardM (asG t46_1 true) true (fun k_9 => pop P (Op.unary .not t49_2) fun t50_1 =>
  k_9 t50_1 h_23) h_23 fun t50_2 h_24 =>
  pop P (pickS t46_1 t50_2 (Value.bool false)) fun t51_1 =>
  condM t51_1
  (pop P (Instr.fieldAt 34 out12_1 1) fun t53_1 =>
  rop P (Instr.loadAt 25 t53_1) h_24 fun t54_1 =>
  callM P 96 #[t22_1, t54_1] h_24 fun t55_1 h_25 =>
  pop P (lenS 25 3 t55_1) fun t60_1 =>
  callM P 100 #[t17_1, t60_1] h_25 fun t61_1 h_26 =>
  pop P (Instr.indexAt 25 t55_1 t61_1) fun t62_1 =>
  rop P (Instr.loadAt 3 t62_1) h_26 fun t63_1 =>
  eop P (Instr.buildSlice 25 1 #[(0, t63_1)]) h_26 fun t64_1 h_27 =>
  eop P (appS 25 25 25 order10_1 t64_1) h_27 fun t65_1 h_28 =>
  J_1 [t65_1] h_28)
  (rop P (Instr.loadAt 32 g7_1) h_24 fun t68_1 =>
  callM P 106 #[t17_1, t68_1] h_24 fun t69_1 h_29 =>
  eop P (Instr.buildSlice 25 1 #[(0, t69_1)]) h_29 fun t70_1 h_30 =>
  eop P (appS 25 25 25 order10_1 t70_1) h_30 fun t71_1 h_31 =>
  J_1 [t71_1] h_31)) ∧
  ∀ (junk_2 : Nat → Value) (order10_2 : Value) (h_32 : Heap), J_1 [order10_2] h_32 →
  pop P (binA .sub 3 k11_1 (Value.int IntKind.i64 1)) fun t29_1 =>
  I_1 [order10_2, t29_1] h_32 ∧ μ_1 [order10_2, t29_1] h_32 < μ_1 [order10_1, k11_1] h_10)
  (rop P (Instr.loadAt 32 g7_1) h_10 fun t72_1 =>
  rop P (Instr.loadAt 34 l9_1) h_10 fun t74_1 =>
  uop P (Instr.storeAt 32 t2_1 t72_1) h_10 fun u_4 h_33 =>
  (∀ w : World, w.heap = h_33 → (Instr.loadAt 34 l9_1).run P w = .ok t74_1 w) ∧
  uop P (Instr.storeAt 34 t4_1 t74_1) h_33 fun u_5 h_34 =>
  rop P (Instr.loadAt 32 t2_1) h_34 fun r_1 =>
  rop P (Instr.loadAt 34 t4_1) h_34 fun r_2 =>
  K (.tuple #[r_1, t22_1, r_2, order10_1]) h_34)
theorem e47 (code0_1 : Value) (h : Heap) (K : Value → Heap → Prop) : wpA Try.prog 76 (anOf [(250, [10, 11]), (1001, [10])]) (bodyOf Try.f47) 1 (fun A h => resA Try.prog A h K [.cell 2 32, .tmp 3, .cell 4 34, .tmp 5]) (fun _ _ _ => False) (fun A h => resA Try.prog A h K [.cell 2 32, .tmp 3, .cell 4 34, .tmp 5]) (aargs [code0_1] 0) h = t47 Try.prog code0_1 h K := by kernel_rfl
theorem c47 (code0_1 : Value) (h : Heap) (K : Value → Heap → Prop) (H : t47 Try.prog code0_1 h K) : callM Try.prog 47 #[code0_1] h K :=
  callM_of_wpA mixed (fn := Try.f47) Try.func47 (c := bodyOf Try.f47) rfl (of_decide_eq_true (by kernel_rfl)) (anOf [(250, [10, 11]), (1001, [10])]) 75 76 (by kernel_rfl) rfl [.cell 2 32, .tmp 3, .cell 4 34, .tmp 5] (by kernel_rfl) (args := [code0_1]) (by rw [e47]; exact H)

/-! impl.MoveInOrder -/
def t48 (P : Program) (g0_1 : Value) (sink1_1 : Value) (l2_1 : Value) (order3_1 : Value) (h : Heap) (K : Value → Heap → Prop) : Prop :=
  eop P (Instr.box 32 g0_1) h fun g4_1 h_1 =>
  eop P (Instr.box 34 l2_1) h_1 fun l6_1 h_2 =>
  eop P (Instr.alloc 34 true (.tuple #[])) h_2 fun t8_1 h_3 =>
  rop P (Instr.loadAt 32 g4_1) h_3 fun t13_1 =>
  rop P (Instr.loadAt 34 l6_1) h_3 fun t15_1 =>
  callM P 79 #[t13_1, sink1_1, t15_1] h_3 fun t16_1 h_4 =>
  pop P (Op.unary .not t16_1) fun t17_1 =>
  guardM (asG t17_1 false) false (fun k_1 => k_1 order3_1 h_4) h_4 fun t19_1 h_5 =>
  guardM (asG t17_1 false) false (fun k_2 => pop P (lenS 25 3 t19_1) fun t20_1 =>
  k_2 t20_1 h_5) h_5 fun t20_2 h_6 =>
  guardM (asG t17_1 false) false (fun k_3 => pop P (binA .gtr 3 t20_2 (Value.int IntKind.i64 100)) fun t21_1 =>
  k_3 t21_1 h_6) h_6 fun t21_2 h_7 =>
  pop P (pickS t17_1 (Value.bool true) t21_2) fun t22_1 =>
  guardM (asG t22_1 false) false (fun k_4 => rop P (Instr.loadAt 32 g4_1) h_7 fun t24_1 =>
  k_4 t24_1 h_7) h_7 fun t24_2 h_8 =>
  guardM (asG t22_1 false) false (fun k_5 => k_5 order3_1 h_8) h_8 fun t25_1 h_9 =>
  guardM (asG t22_1 false) false (fun k_6 => callM P 107 #[t24_2, t25_1] h_9 fun t26_1 h_10 =>
  k_6 t26_1 h_10) h_9 fun t26_2 h_11 =>
  guardM (asG t22_1 false) false (fun k_7 => pop P (Op.unary .not t26_2) fun t27_1 =>
  k_7 t27_1 h_11) h_11 fun t27_2 h_12 =>
  pop P (pickS t22_1 (Value.bool true) t27_2) fun t28_1 =>
  condM t28_1
  (pop P (Instr.build 34 #[]) fun t29_1 =>
  uop P (Instr.storeAt 34 t8_1 t29_1) h_12 fun u_1 h_13 =>
  rop P (Instr.loadAt 34 t8_1) h_13 fun r_1 =>
  K (.tuple #[r_1, (Value.bool false)]) h_13)
  (rop P (Instr.loadAt 34 l6_1) h_12 fun t30_1 =>
  callM P 80 #[t30_1] h_12 fun t31_1 h_14 =>
  eop P (Instr.alloc 34 true (.tuple #[])) h_14 fun out10_1 h_15 =>
  uop P (Instr.storeAt 34 out10_1 t31_1) h_15 fun u_2 h_16 =>
  pop P (lenS 25 3 order3_1) fun t33_1 =>
  ∃ (I_1 : List Value → Heap → Prop) (μ_1 : List Value → Heap → Nat), I_1 [(Value.int IntKind.i64 0)] h_16 ∧
  ∀ (junk_1 : Nat → Value) (t34_1 : Value) (h_17 : Heap), I_1 [t34_1] h_17 →
  pop P (binA .lss 3 t34_1 t33_1) fun t35_1 =>
  condM t35_1
  (pop P (Instr.indexAt 25 order3_1 t34_1) fun t36_1 =>
  rop P (Instr.loadAt 3 t36_1) h_17 fun t37_1 =>
  rop P (Instr.loadAt 32 g4_1) h_17 fun t38_1 =>
  callM P 108 #[out10_1, t38_1, sink1_1, t37_1] h_17 fun t41_1 h_18 =>
  pop P (Op.unary .not t41_1) fun t42_1 =>
  condM t42_1
  (pop P (Instr.build 34 #[]) fun t43_1 =>
  uop P (Instr.storeAt 34 t8_1 t43_1) h_18 fun u_3 h_19 =>
  rop P (Instr.loadAt 34 t8_1) h_19 fun r_2 =>
  K (.tuple #[r_2, (Value.bool false)]) h_19)
  (pop P (binA .add 3 t34_1 (Value.int IntKind.i64 1)) fun t44_1 =>
  I_1 [t44_1] h_18 ∧ μ_1 [t44_1] h_18 < μ_1 [t34_1] h_17))
  (rop P (Instr.loadAt 34 out10_1) h_17 fun t45_1 =>
  uop P (Instr.storeAt 34 t8_1 t45_1) h_17 fun u_4 h_20 =>
  rop P (Instr.loadAt 34 t8_1) h_20 fun r_3 =>
  K (.tuple #[r_3, (Value.bool true)]) h_20))
theorem e48 (g0_1 : Value) (sink1_1 : Value) (l2_1 : Value) (order3_1 : Value) (h : Heap) (K : Value → Heap → Prop) : wpA Try.prog 46 (anOf [(122, [34])]) (bodyOf Try.f48) 1 (fun A h => resA Try.prog A h K [.cell 8 34, .tmp 9]) (fun _ _ _ => False) (fun A h => resA Try.prog A h K [.cell 8 34, .tmp 9]) (aargs [g0_1, sink1_1, l2_1, order3_1] 0) h = t48 Try.prog g0_1 sink1_1 l2_1 order3_1 h K := by kernel_rfl
theorem c48 (g0_1 : Value) (sink1_1 : Value) (l2_1 : Value) (order3_1 : Value) (h : Heap) (K : Value → Heap → Prop) (H : t48 Try.prog g0_1 sink1_1 l2_1 order3_1 h K) : callM Try.prog 48 #[g0_1, sink1_1, l2_1, order3_1] h K :=
  callM_of_wpA mixed (fn := Try.f48) Try.func48 (c := bodyOf Try.f48) rfl (of_decide_eq_true (by kernel_rfl)) (anOf [(122, [34])]) 42 46 (by kernel_rfl) rfl [.cell 8 34, .tmp 9] (by kernel_rfl) (args := [g0_1, sink1_1, l2_1, order3_1]) (by rw [e48]; exact H)

/-! spec.MoveInOrder -/
def t49 (P : Program) (g0_1 : Value) (sink1_1 : Value) (l2_1 : Value) (order3_1 : Value) (h : Heap) (K : Value → Heap → Prop) : Prop :=
  eop P (Instr.box 32 g0_1) h fun g4_1 h_1 =>
  eop P (Instr.box 34 l2_1) h_1 fun l6_1 h_2 =>
  eop P (Instr.alloc 34 true (.tuple #[])) h_2 fun t8_1 h_3 =>
  rop P (Instr.loadAt 32 g4_1) h_3 fun t13_1 =>
  rop P (Instr.loadAt 34 l6_1) h_3 fun t15_1 =>
  callM P 76 #[t13_1, sink1_1, t15_1] h_3 fun t16_1 h_4 =>
  pop P (Op.unary .not t16_1) fun t17_1 =>
  guardM (asG t17_1 false) false (fun k_1 => k_1 order3_1 h_4) h_4 fun t19_1 h_5 =>
  guardM (asG t17_1 false) false (fun k_2 => pop P (lenS 25 3 t19_1) fun t20_1 =>
  k_2 t20_1 h_5) h_5 fun t20_2 h_6 =>
  guardM (asG t17_1 false) false (fun k_3 => pop P (binA .gtr 3 t20_2 (Value.int IntKind.i64 100)) fun t21_1 =>
  k_3 t21_1 h_6) h_6 fun t21_2 h_7 =>
  pop P (pickS t17_1 (Value.bool true) t21_2) fun t22_1 =>
  guardM (asG t22_1 false) false (fun k_4 => k_4 order3_1 h_7) h_7 fun t24_1 h_8 =>
  guardM (asG t22_1 false) false (fun k_5 => pop P (Instr.fieldAt 32 g4_1 0) fun t25_1 =>
  k_5 t25_1 h_8) h_8 fun t25_2 h_9 =>
  guardM (asG t22_1 false) false (fun k_6 => rop P (Instr.loadAt 22 t25_2) h_9 fun t26_1 =>
  k_6 t26_1 h_9) h_9 fun t26_2 h_10 =>
  guardM (asG t22_1 false) false (fun k_7 => pop P (lenS 22 3 t26_2) fun t27_1 =>
  k_7 t27_1 h_10) h_10 fun t27_2 h_11 =>
  guardM (asG t22_1 false) false (fun k_8 => pop P (binA .sub 3 t27_2 (Value.int IntKind.i64 1)) fun t28_1 =>
  k_8 t28_1 h_11) h_11 fun t28_2 h_12 =>
  guardM (asG t22_1 false) false (fun k_9 => callM P 104 #[t24_1, (Value.int IntKind.i64 0), t28_2] h_12 fun t29_1 h_13 =>
  k_9 t29_1 h_13) h_12 fun t29_2 h_14 =>
  guardM (asG t22_1 false) false (fun k_10 => pop P (Op.unary .not t29_2) fun t30_1 =>
  k_10 t30_1 h_14) h_14 fun t30_2 h_15 =>
  pop P (pickS t22_1 (Value.bool true) t30_2) fun t31_1 =>
  condM t31_1
  (pop P (Instr.build 34 #[]) fun t32_1 =>
  uop P (Instr.storeAt 34 t8_1 t32_1) h_15 fun u_1 h_16 =>
  rop P (Instr.loadAt 34 t8_1) h_16 fun r_1 =>
  K (.tuple #[r_1, (Value.bool false)]) h_16)
  (rop P (Instr.loadAt 34 l6_1) h_15 fun t33_1 =>
  callM P 109 #[t33_1] h_15 fun t34_1 h_17 =>
  eop P (Instr.alloc 34 true (.tuple #[])) h_17 fun out10_1 h_18 =>
  uop P (Instr.storeAt 34 out10_1 t34_1) h_18 fun u_2 h_19 =>
  pop P (lenS 25 3 order3_1) fun t36_1 =>
  ∃ (I_1 : List Value → Heap → Prop) (μ_1 : List Value → Heap → Nat), I_1 [(Value.int IntKind.i64 0)] h_19 ∧
  ∀ (junk_1 : Nat → Value) (t37_1 : Value) (h_20 : Heap), I_1 [t37_1] h_20 →
  pop P (binA .lss 3 t37_1 t36_1) fun t38_1 =>
  condM t38_1
  (pop P (Instr.indexAt 25 order3_1 t37_1) fun t39_1 =>
  rop P (Instr.loadAt 3 t39_1) h_20 fun t40_1 =>
  pop P (binE .eql 3 (.tmp 41) (.tmp 42) t40_1 sink1_1) fun t43_1 =>
  guardM (asG t43_1 false) false (fun k_11 => pop P (Instr.fieldAt 34 out10_1 1) fun t45_1 =>
  k_11 t45_1 h_20) h_20 fun t45_2 h_21 =>
  guardM (asG t43_1 false) false (fun k_12 => rop P (Instr.loadAt 25 t45_2) h_21 fun t46_1 =>
  k_12 t46_1 h_21) h_21 fun t46_2 h_22 =>
  guardM (asG t43_1 false) false (fun k_13 => k_13 t40_1 h_22) h_22 fun t47_1 h_23 =>
  guardM (asG t43_1 false) false (fun k_14 => pop P (Instr.indexAt 25 t46_2 t47_1) fun t48_1 =>
  k_14 t48_1 h_23) h_23 fun t48_2 h_24 =>
  guardM (asG t43_1 false) false (fun k_15 => rop P (Instr.loadAt 3 t48_2) h_24 fun t49_1 =>
  k_15 t49_1 h_24) h_24 fun t49_2 h_25 =>
  guardM (asG t43_1 false) false (fun k_16 => pop P (binA .lss 3 t49_2 (Value.int IntKind.i64 1)) fun t50_1 =>
  k_16 t50_1 h_25) h_25 fun t50_2 h_26 =>
  pop P (pickS t43_1 (Value.bool true) t50_2) fun t51_1 =>
  condM t51_1
  (pop P (Instr.build 34 #[]) fun t52_1 =>
  uop P (Instr.storeAt 34 t8_1 t52_1) h_26 fun u_3 h_27 =>
  rop P (Instr.loadAt 34 t8_1) h_27 fun r_2 =>
  K (.tuple #[r_2, (Value.bool false)]) h_27)
  (rop P (Instr.loadAt 32 g4_1) h_26 fun t53_1 =>
  rop P (Instr.loadAt 34 out10_1) h_26 fun t54_1 =>
  callM P 110 #[t53_1, t54_1, t40_1] h_26 fun t56_1 h_28 =>
  pop P (binA .add 3 t37_1 (Value.int IntKind.i64 1)) fun t57_1 =>
  I_1 [t57_1] h_28 ∧ μ_1 [t57_1] h_28 < μ_1 [t37_1] h_20))
  (rop P (Instr.loadAt 34 out10_1) h_20 fun t58_1 =>
  uop P (Instr.storeAt 34 t8_1 t58_1) h_20 fun u_4 h_29 =>
  rop P (Instr.loadAt 34 t8_1) h_29 fun r_3 =>
  K (.tuple #[r_3, (Value.bool true)]) h_29))
theorem e49 (g0_1 : Value) (sink1_1 : Value) (l2_1 : Value) (order3_1 : Value) (h : Heap) (K : Value → Heap → Prop) : wpA Try.prog 59 (anOf [(122, [37])]) (bodyOf Try.f49) 1 (fun A h => resA Try.prog A h K [.cell 8 34, .tmp 9]) (fun _ _ _ => False) (fun A h => resA Try.prog A h K [.cell 8 34, .tmp 9]) (aargs [g0_1, sink1_1, l2_1, order3_1] 0) h = t49 Try.prog g0_1 sink1_1 l2_1 order3_1 h K := by kernel_rfl
theorem c49 (g0_1 : Value) (sink1_1 : Value) (l2_1 : Value) (order3_1 : Value) (h : Heap) (K : Value → Heap → Prop) (H : t49 Try.prog g0_1 sink1_1 l2_1 order3_1 h K) : callM Try.prog 49 #[g0_1, sink1_1, l2_1, order3_1] h K :=
  callM_of_wpA mixed (fn := Try.f49) Try.func49 (c := bodyOf Try.f49) rfl (of_decide_eq_true (by kernel_rfl)) (anOf [(122, [37])]) 55 59 (by kernel_rfl) rfl [.cell 8 34, .tmp 9] (by kernel_rfl) (args := [g0_1, sink1_1, l2_1, order3_1]) (by rw [e49]; exact H)

/-! spec.DrawMoveChip -/
def t50 (P : Program) (code0_1 : Value) (h : Heap) (K : Value → Heap → Prop) : Prop :=
  eop P (Instr.alloc 32 true (.tuple #[])) h fun t2_1 h_1 =>
  eop P (Instr.alloc 34 true (.tuple #[])) h_1 fun t4_1 h_2 =>
  pop P (Instr.build 109 #[(0, code0_1)]) fun t11_1 =>
  eop P (Instr.box 109 t11_1) h_2 fun t12_1 h_3 =>
  callM P 98 #[t12_1] h_3 fun t15_1 h_4 =>
  pop P (Instr.extract t15_1 0) fun t16_1 =>
  pop P (Instr.extract t15_1 1) fun t17_1 =>
  pop P (Instr.extract t15_1 2) fun t18_1 =>
  eop P (Instr.alloc 32 true (.tuple #[])) h_4 fun g7_1 h_5 =>
  eop P (Instr.alloc 34 true (.tuple #[])) h_5 fun l9_1 h_6 =>
  uop P (Instr.storeAt 32 g7_1 t16_1) h_6 fun u_1 h_7 =>
  uop P (Instr.storeAt 34 l9_1 t18_1) h_7 fun u_2 h_8 =>
  rop P (Instr.loadAt 32 g7_1) h_8 fun t19_1 =>
  rop P (Instr.loadAt 34 l9_1) h_8 fun t21_1 =>
  rop P (Instr.loadAt 32 g7_1) h_8 fun t23_1 =>
  callM P 106 #[t12_1, t23_1] h_8 fun t24_1 h_9 =>
  (∀ w : World, w.heap = h_9 → (Instr.loadAt 34 l9_1).run P w = .ok t21_1 w) ∧
  (∀ w : World, w.heap = h_9 → (Instr.loadAt 32 g7_1).run P w = .ok t19_1 w) ∧
  uop P (Instr.storeAt 32 t2_1 t19_1) h_9 fun u_3 h_10 =>
  (∀ w : World, w.heap = h_10 → (Instr.loadAt 34 l9_1).run P w = .ok t21_1 w) ∧
  uop P (Instr.storeAt 34 t4_1 t21_1) h_10 fun u_4 h_11 =>
  rop P (Instr.loadAt 32 t2_1) h_11 fun r_1 =>
  rop P (Instr.loadAt 34 t4_1) h_11 fun r_2 =>
  K (.tuple #[r_1, t17_1, r_2, t24_1]) h_11
theorem e50 (code0_1 : Value) (h : Heap) (K : Value → Heap → Prop) : wpA Try.prog 25 (anOf []) (bodyOf Try.f50) 1 (fun A h => resA Try.prog A h K [.cell 2 32, .tmp 3, .cell 4 34, .tmp 5]) (fun _ _ _ => False) (fun A h => resA Try.prog A h K [.cell 2 32, .tmp 3, .cell 4 34, .tmp 5]) (aargs [code0_1] 0) h = t50 Try.prog code0_1 h K := by kernel_rfl
theorem c50 (code0_1 : Value) (h : Heap) (K : Value → Heap → Prop) (H : t50 Try.prog code0_1 h K) : callM Try.prog 50 #[code0_1] h K :=
  callM_of_wpA mixed (fn := Try.f50) Try.func50 (c := bodyOf Try.f50) rfl (of_decide_eq_true (by kernel_rfl)) (anOf []) 24 25 (by kernel_rfl) rfl [.cell 2 32, .tmp 3, .cell 4 34, .tmp 5] (by kernel_rfl) (args := [code0_1]) (by rw [e50]; exact H)

/-! impl.MoveChip -/
def t51 (P : Program) (g0_1 : Value) (sink1_1 : Value) (l2_1 : Value) (p3_1 : Value) (h : Heap) (K : Value → Heap → Prop) : Prop :=
  eop P (Instr.box 32 g0_1) h fun g4_1 h_1 =>
  eop P (Instr.box 34 l2_1) h_1 fun l6_1 h_2 =>
  eop P (Instr.alloc 34 true (.tuple #[])) h_2 fun t8_1 h_3 =>
  rop P (Instr.loadAt 32 g4_1) h_3 fun t10_1 =>
  rop P (Instr.loadAt 34 l6_1) h_3 fun t12_1 =>
  eop P (Instr.buildSlice 25 1 #[(0, p3_1)]) h_3 fun t14_1 h_4 =>
  callM P 48 #[t10_1, sink1_1, t12_1, t14_1] h_4 fun t15_1 h_5 =>
  pop P (Instr.extract t15_1 0) fun t16_1 =>
  pop P (Instr.extract t15_1 1) fun t17_1 =>
  uop P (Instr.storeAt 34 t8_1 t16_1) h_5 fun u_1 h_6 =>
  rop P (Instr.loadAt 34 t8_1) h_6 fun r_1 =>
  K (.tuple #[r_1, t17_1]) h_6
theorem e51 (g0_1 : Value) (sink1_1 : Value) (l2_1 : Value) (p3_1 : Value) (h : Heap) (K : Value → Heap → Prop) : wpA Try.prog 18 (anOf []) (bodyOf Try.f51) 1 (fun A h => resA Try.prog A h K [.cell 8 34, .tmp 9]) (fun _ _ _ => False) (fun A h => resA Try.prog A h K [.cell 8 34, .tmp 9]) (aargs [g0_1, sink1_1, l2_1, p3_1] 0) h = t51 Try.prog g0_1 sink1_1 l2_1 p3_1 h K := by kernel_rfl
theorem c51 (g0_1 : Value) (sink1_1 : Value) (l2_1 : Value) (p3_1 : Value) (h : Heap) (K : Value → Heap → Prop) (H : t51 Try.prog g0_1 sink1_1 l2_1 p3_1 h K) : callM Try.prog 51 #[g0_1, sink1_1, l2_1, p3_1] h K :=
  callM_of_wpA mixed (fn := Try.f51) Try.func51 (c := bodyOf Try.f51) rfl (of_decide_eq_true (by kernel_rfl)) (anOf []) 14 18 (by kernel_rfl) rfl [.cell 8 34, .tmp 9] (by kernel_rfl) (args := [g0_1, sink1_1, l2_1, p3_1]) (by rw [e51]; exact H)

/-! spec.MoveChip -/
def t52 (P : Program) (g0_1 : Value) (sink1_1 : Value) (l2_1 : Value) (p3_1 : Value) (h : Heap) (K : Value → Heap → Prop) : Prop :=
  eop P (Instr.box 32 g0_1) h fun g4_1 h_1 =>
  eop P (Instr.box 34 l2_1) h_1 fun l6_1 h_2 =>
  eop P (Instr.alloc 34 true (.tuple #[])) h_2 fun t8_1 h_3 =>
  rop P (Instr.loadAt 32 g4_1) h_3 fun t10_1 =>
  rop P (Instr.loadAt 34 l6_1) h_3 fun t12_1 =>
  eop P (Instr.buildSlice 25 1 #[(0, p3_1)]) h_3 fun t14_1 h_4 =>
  callM P 49 #[t10_1, sink1_1, t12_1, t14_1] h_4 fun t15_1 h_5 =>
  pop P (Instr.extract t15_1 0) fun t16_1 =>
  pop P (Instr.extract t15_1 1) fun t17_1 =>
  uop P (Instr.storeAt 34 t8_1 t16_1) h_5 fun u_1 h_6 =>
  rop P (Instr.loadAt 34 t8_1) h_6 fun r_1 =>
  K (.tuple #[r_1, t17_1]) h_6
theorem e52 (g0_1 : Value) (sink1_1 : Value) (l2_1 : Value) (p3_1 : Value) (h : Heap) (K : Value → Heap → Prop) : wpA Try.prog 18 (anOf []) (bodyOf Try.f52) 1 (fun A h => resA Try.prog A h K [.cell 8 34, .tmp 9]) (fun _ _ _ => False) (fun A h => resA Try.prog A h K [.cell 8 34, .tmp 9]) (aargs [g0_1, sink1_1, l2_1, p3_1] 0) h = t52 Try.prog g0_1 sink1_1 l2_1 p3_1 h K := by kernel_rfl
theorem c52 (g0_1 : Value) (sink1_1 : Value) (l2_1 : Value) (p3_1 : Value) (h : Heap) (K : Value → Heap → Prop) (H : t52 Try.prog g0_1 sink1_1 l2_1 p3_1 h K) : callM Try.prog 52 #[g0_1, sink1_1, l2_1, p3_1] h K :=
  callM_of_wpA mixed (fn := Try.f52) Try.func52 (c := bodyOf Try.f52) rfl (of_decide_eq_true (by kernel_rfl)) (anOf []) 14 18 (by kernel_rfl) rfl [.cell 8 34, .tmp 9] (by kernel_rfl) (args := [g0_1, sink1_1, l2_1, p3_1]) (by rw [e52]; exact H)

/-! spec.DrawIsLoad -/
def t53 (P : Program) (code0_1 : Value) (h : Heap) (K : Value → Heap → Prop) : Prop :=
  eop P (Instr.alloc 32 true (.tuple #[])) h fun t2_1 h_1 =>
  eop P (Instr.alloc 34 true (.tuple #[])) h_1 fun t4_1 h_2 =>
  pop P (Instr.build 109 #[(0, code0_1)]) fun t7_1 =>
  eop P (Instr.box 109 t7_1) h_2 fun t8_1 h_3 =>
  callM P 98 #[t8_1] h_3 fun t10_1 h_4 =>
  pop P (Instr.extract t10_1 0) fun t11_1 =>
  pop P (Instr.extract t10_1 1) fun t12_1 =>
  pop P (Instr.extract t10_1 2) fun t13_1 =>
  uop P (Instr.storeAt 32 t2_1 t11_1) h_4 fun u_1 h_5 =>
  uop P (Instr.storeAt 34 t4_1 t13_1) h_5 fun u_2 h_6 =>
  rop P (Instr.loadAt 32 t2_1) h_6 fun r_1 =>
  rop P (Instr.loadAt 34 t4_1) h_6 fun r_2 =>
  K (.tuple #[r_1, t12_1, r_2]) h_6
theorem e53 (code0_1 : Value) (h : Heap) (K : Value → Heap → Prop) : wpA Try.prog 14 (anOf []) (bodyOf Try.f53) 1 (fun A h => resA Try.prog A h K [.cell 2 32, .tmp 3, .cell 4 34]) (fun _ _ _ => False) (fun A h => resA Try.prog A h K [.cell 2 32, .tmp 3, .cell 4 34]) (aargs [code0_1] 0) h = t53 Try.prog code0_1 h K := by kernel_rfl
theorem c53 (code0_1 : Value) (h : Heap) (K : Value → Heap → Prop) (H : t53 Try.prog code0_1 h K) : callM Try.prog 53 #[code0_1] h K :=
  callM_of_wpA mixed (fn := Try.f53) Try.func53 (c := bodyOf Try.f53) rfl (of_decide_eq_true (by kernel_rfl)) (anOf []) 13 14 (by kernel_rfl) rfl [.cell 2 32, .tmp 3, .cell 4 34] (by kernel_rfl) (args := [code0_1]) (by rw [e53]; exact H)

/-! spec.IsLoad -/
def t54 (P : Program) (g0_1 : Value) (sink1_1 : Value) (l2_1 : Value) (h : Heap) (K : Value → Heap → Prop) : Prop :=
  eop P (Instr.box 32 g0_1) h fun g3_1 h_1 =>
  eop P (Instr.box 34 l2_1) h_1 fun l5_1 h_2 =>
  rop P (Instr.loadAt 32 g3_1) h_2 fun t8_1 =>
  callM P 111 #[t8_1, sink1_1] h_2 fun t10_1 h_3 =>
  pop P (Op.unary .not t10_1) fun t11_1 =>
  condM t11_1
  (K (.tuple #[(Value.bool false), (Value.bool false)]) h_3)
  (rop P (Instr.loadAt 32 g3_1) h_3 fun t12_1 =>
  rop P (Instr.loadAt 34 l5_1) h_3 fun t14_1 =>
  callM P 76 #[t12_1, sink1_1, t14_1] h_3 fun t15_1 h_4 =>
  K (.tuple #[t15_1, (Value.bool true)]) h_4)
theorem e54 (g0_1 : Value) (sink1_1 : Value) (l2_1 : Value) (h : Heap) (K : Value → Heap → Prop) : wpA Try.prog 16 (anOf []) (bodyOf Try.f54) 1 (fun A h => resA Try.prog A h K [.tmp 6, .tmp 7]) (fun _ _ _ => False) (fun A h => resA Try.prog A h K [.tmp 6, .tmp 7]) (aargs [g0_1, sink1_1, l2_1] 0) h = t54 Try.prog g0_1 sink1_1 l2_1 h K := by kernel_rfl
theorem c54 (g0_1 : Value) (sink1_1 : Value) (l2_1 : Value) (h : Heap) (K : Value → Heap → Prop) (H : t54 Try.prog g0_1 sink1_1 l2_1 h K) : callM Try.prog 54 #[g0_1, sink1_1, l2_1] h K :=
  callM_of_wpA mixed (fn := Try.f54) Try.func54 (c := bodyOf Try.f54) rfl (of_decide_eq_true (by kernel_rfl)) (anOf []) 13 16 (by kernel_rfl) rfl [.tmp 6, .tmp 7] (by kernel_rfl) (args := [g0_1, sink1_1, l2_1]) (by rw [e54]; exact H)

/-! spec.chGood -/
def t76 (P : Program) (g0_1 : Value) (sink1_1 : Value) (l2_1 : Value) (h : Heap) (K : Value → Heap → Prop) : Prop :=
  eop P (Instr.box 32 g0_1) h fun g3_1 h_1 =>
  eop P (Instr.box 34 l2_1) h_1 fun l5_1 h_2 =>
  rop P (Instr.loadAt 32 g3_1) h_2 fun t7_1 =>
  callM P 111 #[t7_1, sink1_1] h_2 fun t9_1 h_3 =>
  pop P (Op.unary .not t9_1) fun t10_1 =>
  guardM (asG t10_1 false) false (fun k_1 => rop P (Instr.loadAt 32 g3_1) h_3 fun t12_1 =>
  k_1 t12_1 h_3) h_3 fun t12_2 h_4 =>
  guardM (asG t10_1 false) false (fun k_2 => pop P (Instr.fieldAt 34 l5_1 0) fun t13_1 =>
  k_2 t13_1 h_4) h_4 fun t13_2 h_5 =>
  guardM (asG t10_1 false) false (fun k_3 => rop P (Instr.loadAt 25 t13_2) h_5 fun t14_1 =>
  k_3 t14_1 h_5) h_5 fun t14_2 h_6 =>
  guardM (asG t10_1 false) false (fun k_4 => k_4 sink1_1 h_6) h_6 fun t15_1 h_7 =>
  guardM (asG t10_1 false) false (fun k_5 => pop P (Instr.build 132 #[(0, t14_2), (1, t15_1)]) fun t16_1 =>
  k_5 t16_1 h_7) h_7 fun t16_2 h_8 =>
  guardM (asG t10_1 false) false (fun k_6 => callM P 138 #[t12_2, t16_2] h_8 fun t17_1 h_9 =>
  k_6 t17_1 h_9) h_8 fun t17_2 h_10 =>
  guardM (asG t10_1 false) false (fun k_7 => pop P (Op.unary .not t17_2) fun t18_1 =>
  k_7 t18_1 h_10) h_10 fun t18_2 h_11 =>
  pop P (pickS t10_1 (Value.bool true) t18_2) fun t19_1 =>
  guardM (asG t19_1 false) false (fun k_8 => pop P (Instr.fieldAt 34 l5_1 1) fun t21_1 =>
  k_8 t21_1 h_11) h_11 fun t21_2 h_12 =>
  guardM (asG t19_1 false) false (fun k_9 => rop P (Instr.loadAt 25 t21_2) h_12 fun t22_1 =>
  k_9 t22_1 h_12) h_12 fun t22_2 h_13 =>
  guardM (asG t19_1 false) false (fun k_10 => pop P (lenS 25 3 t22_2) fun t23_1 =>
  k_10 t23_1 h_13) h_13 fun t23_2 h_14 =>
  guardM (asG t19_1 false) false (fun k_11 => pop P (Instr.fieldAt 32 g3_1 0) fun t24_1 =>
  k_11 t24_1 h_14) h_14 fun t24_2 h_15 =>
  guardM (asG t19_1 false) false (fun k_12 => rop P (Instr.loadAt 22 t24_2) h_15 fun t25_1 =>
  k_12 t25_1 h_15) h_15 fun t25_2 h_16 =>
  guardM (asG t19_1 false) false (fun k_13 => pop P (lenS 22 3 t25_2) fun t26_1 =>
  k_13 t26_1 h_16) h_16 fun t26_2 h_17 =>
  guardM (asG t19_1 false) false (fun k_14 => pop P (binE .neq 3 (.tmp 23) (.tmp 26) t23_2 t26_2) fun t27_1 =>
  k_14 t27_1 h_17) h_17 fun t27_2 h_18 =>
  pop P (pickS t19_1 (Value.bool true) t27_2) fun t28_1 =>
  condM t28_1
  (K (Value.bool false) h_18)
  (pop P (Instr.fieldAt 34 l5_1 1) fun t29_1 =>
  rop P (Instr.loadAt 25 t29_1) h_18 fun t30_1 =>
  callM P 104 #[t30_1, (Value.int IntKind.i64 0), (Value.int IntKind.i64 20)] h_18 fun t31_1 h_19 =>
  guardM (asG t31_1 true) true (fun k_15 => pop P (Instr.fieldAt 34 l5_1 1) fun t33_1 =>
  k_15 t33_1 h_19) h_19 fun t33_2 h_20 =>
  guardM (asG t31_1 true) true (fun k_16 => rop P (Instr.loadAt 25 t33_2) h_20 fun t34_1 =>
  k_16 t34_1 h_20) h_20 fun t34_2 h_21 =>
  guardM (asG t31_1 true) true (fun k_17 => callM P 139 #[t34_2] h_21 fun t35_1 h_22 =>
  k_17 t35_1 h_22) h_21 fun t35_2 h_23 =>
  guardM (asG t31_1 true) true (fun k_18 => pop P (binA .leq 3 t35_2 (Value.int IntKind.i64 20)) fun t36_1 =>
  k_18 t36_1 h_23) h_23 fun t36_2 h_24 =>
  pop P (pickS t31_1 t36_2 (Value.bool false)) fun t37_1 =>
  K t37_1 h_24)
theorem e76 (g0_1 : Value) (sink1_1 : Value) (l2_1 : Value) (h : Heap) (K : Value → Heap → Prop) : wpA Try.prog 38 (anOf []) (bodyOf Try.f76) 1 (fun A h => resA Try.prog A h K [.tmp 6]) (fun _ _ _ => False) (fun A h => resA Try.prog A h K [.tmp 6]) (aargs [g0_1, sink1_1, l2_1] 0) h = t76 Try.prog g0_1 sink1_1 l2_1 h K := by kernel_rfl
theorem c76 (g0_1 : Value) (sink1_1 : Value) (l2_1 : Value) (h : Heap) (K : Value → Heap → Prop) (H : t76 Try.prog g0_1 sink1_1 l2_1 h K) : callM Try.prog 76 #[g0_1, sink1_1, l2_1] h K :=
  callM_of_wpA mixed (fn := Try.f76) Try.func76 (c := bodyOf Try.f76) rfl (of_decide_eq_true (by kernel_rfl)) (anOf []) 35 38 (by kernel_rfl) rfl [.tmp 6] (by kernel_rfl) (args := [g0_1, sink1_1, l2_1]) (by rw [e76]; exact H)

/-! spec.chEnd -/
def t77 (P : Program) (g0_1 : Value) (sink1_1 : Value) (l2_1 : Value) (choices3_1 : Value) (h : Heap) (K : Value → Heap → Prop) : Prop :=
  eop P (Instr.box 32 g0_1) h fun g4_1 h_1 =>
  eop P (Instr.box 34 l2_1) h_1 fun l6_1 h_2 =>
  eop P (Instr.alloc 34 true (.tuple #[])) h_2 fun t8_1 h_3 =>
  ∃ J_1 : List Value → Heap → Prop, (rop P (Instr.loadAt 34 l6_1) h_3 fun t16_1 =>
  pop P (Instr.fieldAt 32 g4_1 0) fun t18_1 =>
  rop P (Instr.loadAt 22 t18_1) h_3 fun t19_1 =>
  pop P (lenS 22 3 t19_1) fun t20_1 =>
  (callM P 109 #[t16_1] h_3 fun t17_1 h_4 =>
  (∀ w : World, w.heap = h_4 → (Instr.loadAt 22 t18_1).run P w = .ok t19_1 w) ∧
  (eop P (Instr.makeSlice 25 t20_1 t20_1) h_4 fun t21_1 h_5 =>
  (∀ w : World, w.heap = h_5 → (Instr.loadAt 22 t18_1).run P w = .ok t19_1 w) ∧
  eop P (Instr.alloc 34 true (.tuple #[])) h_5 fun out11_1 h_6 =>
  (∀ w : World, w.heap = h_6 → (Instr.loadAt 22 t18_1).run P w = .ok t19_1 w) ∧
  uop P (Instr.storeAt 34 out11_1 t17_1) h_6 fun u_1 h_7 =>
  (∀ w : World, w.heap = h_7 → (Instr.loadAt 22 t18_1).run P w = .ok t19_1 w) ∧
  J_1 [out11_1, t21_1] h_7) ∧
  (eop P (Instr.alloc 34 true (.tuple #[])) h_4 fun out11_2 h_8 =>
  (∀ w : World, w.heap = h_8 → (Instr.loadAt 22 t18_1).run P w = .ok t19_1 w) ∧
  (eop P (Instr.makeSlice 25 t20_1 t20_1) h_8 fun t21_2 h_9 =>
  (∀ w : World, w.heap = h_9 → (Instr.loadAt 22 t18_1).run P w = .ok t19_1 w) ∧
  uop P (Instr.storeAt 34 out11_2 t17_1) h_9 fun u_2 h_10 =>
  (∀ w : World, w.heap = h_10 → (Instr.loadAt 22 t18_1).run P w = .ok t19_1 w) ∧
  J_1 [out11_2, t21_2] h_10) ∧
  (uop P (Instr.storeAt 34 out11_2 t17_1) h_8 fun u_3 h_11 =>
  (∀ w : World, w.heap = h_11 → (Instr.loadAt 22 t18_1).run P w = .ok t19_1 w) ∧
  eop P (Instr.makeSlice 25 t20_1 t20_1) h_11 fun t21_3 h_12 =>
  (∀ w : World, w.heap = h_12 → (Instr.loadAt 22 t18_1).run P w = .ok t19_1 w) ∧
  J_1 [out11_2, t21_3] h_12))) ∧
  (eop P (Instr.makeSlice 25 t20_1 t20_1) h_3 fun t21_4 h_13 =>
  (∀ w : World, w.heap = h_13 → (Instr.loadAt 22 t18_1).run P w = .ok t19_1 w) ∧
  (∀ w : World, w.heap = h_13 → (Instr.loadAt 34 l6_1).run P w = .ok t16_1 w) ∧
  (callM P 109 #[t16_1] h_13 fun t17_2 h_14 =>
  (∀ w : World, w.heap = h_14 → (Instr.loadAt 22 t18_1).run P w = .ok t19_1 w) ∧
  eop P (Instr.alloc 34 true (.tuple #[])) h_14 fun out11_3 h_15 =>
  (∀ w : World, w.heap = h_15 → (Instr.loadAt 22 t18_1).run P w = .ok t19_1 w) ∧
  uop P (Instr.storeAt 34 out11_3 t17_2) h_15 fun u_4 h_16 =>
  (∀ w : World, w.heap = h_16 → (Instr.loadAt 22 t18_1).run P w = .ok t19_1 w) ∧
  J_1 [out11_3, t21_4] h_16) ∧
  (eop P (Instr.alloc 34 true (.tuple #[])) h_13 fun out11_4 h_17 =>
  (∀ w : World, w.heap = h_17 → (Instr.loadAt 22 t18_1).run P w = .ok t19_1 w) ∧
  (∀ w : World, w.heap = h_17 → (Instr.loadAt 34 l6_1).run P w = .ok t16_1 w) ∧
  callM P 109 #[t16_1] h_17 fun t17_3 h_18 =>
  (∀ w : World, w.heap = h_18 → (Instr.loadAt 22 t18_1).run P w = .ok t19_1 w) ∧
  uop P (Instr.storeAt 34 out11_4 t17_3) h_18 fun u_5 h_19 =>
  (∀ w : World, w.heap = h_19 → (Instr.loadAt 22 t18_1).run P w = .ok t19_1 w) ∧
  J_1 [out11_4, t21_4] h_19)) ∧
  (eop P (Instr.alloc 34 true (.tuple #[])) h_3 fun out11_5 h_20 =>
  (∀ w : World, w.heap = h_20 → (Instr.loadAt 22 t18_1).run P w = .ok t19_1 w) ∧
  (∀ w : World, w.heap = h_20 → (Instr.loadAt 34 l6_1).run P w = .ok t16_1 w) ∧
  (callM P 109 #[t16_1] h_20 fun t17_4 h_21 =>
  (∀ w : World, w.heap = h_21 → (Instr.loadAt 22 t18_1).run P w = .ok t19_1 w) ∧
  (eop P (Instr.makeSlice 25 t20_1 t20_1) h_21 fun t21_5 h_22 =>
  (∀ w : World, w.heap = h_22 → (Instr.loadAt 22 t18_1).run P w = .ok t19_1 w) ∧
  uop P (Instr.storeAt 34 out11_5 t17_4) h_22 fun u_6 h_23 =>
  (∀ w : World, w.heap = h_23 → (Instr.loadAt 22 t18_1).run P w = .ok t19_1 w) ∧
  J_1 [out11_5, t21_5] h_23) ∧
  (uop P (Instr.storeAt 34 out11_5 t17_4) h_21 fun u_7 h_24 =>
  (∀ w : World, w.heap = h_24 → (Instr.loadAt 22 t18_1).run P w = .ok t19_1 w) ∧
  eop P (Instr.makeSlice 25 t20_1 t20_1) h_24 fun t21_6 h_25 =>
  (∀ w : World, w.heap = h_25 → (Instr.loadAt 22 t18_1).run P w = .ok t19_1 w) ∧
  J_1 [out11_5, t21_6] h_25)) ∧
  (eop P (Instr.makeSlice 25 t20_1 t20_1) h_20 fun t21_7 h_26 =>
  (∀ w : World, w.heap = h_26 → (Instr.loadAt 22 t18_1).run P w = .ok t19_1 w) ∧
  (∀ w : World, w.heap = h_26 → (Instr.loadAt 34 l6_1).run P w = .ok t16_1 w) ∧
  callM P 109 #[t16_1] h_26 fun t17_5 h_27 =>
  (∀ w : World, w.heap = h_27 → (Instr.loadAt 22 t18_1).run P w = .ok t19_1 w) ∧
  uop P (Instr.storeAt 34 out11_5 t17_5) h_27 fun u_8 h_28 =>
  (∀ w : World, w.heap = h_28 → (Instr.loadAt 22 t18_1).run P w = .ok t19_1 w) ∧
  J_1 [out11_5, t21_7] h_28))) ∧
  ∀ (junk_1 : Nat → Value) (out11_6 : Value) (moves12_1 : Value) (h_29 : Heap), J_1 [out11_6, moves12_1] h_29 →
  ∃ (I_1 : List Value → Heap → Prop) (μ_1 : List Value → Heap → Nat), I_1 [(Value.int IntKind.i64 0)] h_29 ∧
  ∀ (junk_2 : Nat → Value) (k13_1 : Value) (h_30 : Heap), I_1 [k13_1] h_30 →
  pop P (Instr.fieldAt 34 out11_6 1) fun t25_1 =>
  rop P (Instr.loadAt 25 t25_1) h_30 fun t26_1 =>
  callM P 96 #[sink1_1, t26_1] h_30 fun t27_1 h_31 =>
  pop P (lenS 25 3 t27_1) fun t29_1 =>
  pop P (binE .eql 3 (.tmp 29) (.const (Value.int IntKind.i64 0)) t29_1 (Value.int IntKind.i64 0)) fun t30_1 =>
  condM t30_1
  (rop P (Instr.loadAt 34 out11_6) h_31 fun t31_1 =>
  uop P (Instr.storeAt 34 t8_1 t31_1) h_31 fun u_9 h_32 =>
  rop P (Instr.loadAt 34 t8_1) h_32 fun r_1 =>
  K (.tuple #[r_1, moves12_1, (Value.bool true)]) h_32)
  (pop P (binA .geq 3 k13_1 (Value.int IntKind.i64 4000)) fun t34_1 =>
  condM t34_1
  (pop P (Instr.build 34 #[]) fun t35_1 =>
  uop P (Instr.storeAt 34 t8_1 t35_1) h_31 fun u_10 h_33 =>
  rop P (Instr.loadAt 34 t8_1) h_33 fun r_2 =>
  K (.tuple #[r_2, (Value.slice none 0 0), (Value.bool false)]) h_33)
  (pop P (Instr.indexAt 25 t27_1 (Value.int IntKind.i64 0)) fun t37_1 =>
  rop P (Instr.loadAt 3 t37_1) h_31 fun t38_1 =>
  ∃ J_2 : List Value → Heap → Prop, (pop P (lenS 25 3 choices3_1) fun t41_1 =>
  pop P (binA .lss 3 k13_1 t41_1) fun t42_1 =>
  condM t42_1
  (pop P (Instr.indexAt 25 choices3_1 k13_1) fun t46_1 =>
  rop P (Instr.loadAt 3 t46_1) h_31 fun t47_1 =>
  pop P (lenS 25 3 t27_1) fun t49_1 =>
  pop P (binA .rem 3 t47_1 t49_1) fun t50_1 =>
  pop P (Instr.indexAt 25 t27_1 t50_1) fun t51_1 =>
  rop P (Instr.loadAt 3 t51_1) h_31 fun t52_1 =>
  J_2 [t52_1] h_31)
  (J_2 [t38_1] h_31)) ∧
  ∀ (junk_3 : Nat → Value) (p15_1 : Value) (h_34 : Heap), J_2 [p15_1] h_34 →
  rop P (Instr.loadAt 32 g4_1) h_34 fun t53_1 =>
  rop P (Instr.loadAt 34 out11_6) h_34 fun t54_1 =>
  callM P 110 #[t53_1, t54_1, p15_1] h_34 fun t56_1 h_35 =>
  pop P (Instr.indexAt 25 moves12_1 p15_1) fun t59_1 =>
  rop P (Instr.loadAt 3 t59_1) h_35 fun t60_1 =>
  pop P (binA .add 3 t60_1 (Value.int IntKind.i64 1)) fun t61_1 =>
  pop P (Instr.indexAt 25 moves12_1 p15_1) fun t62_1 =>
  uop P (Instr.storeAt 3 t62_1 t61_1) h_35 fun u_11 h_36 =>
  pop P (binA .add 3 k13_1 (Value.int IntKind.i64 1)) fun t23_1 =>
  I_1 [t23_1] h_36 ∧ μ_1 [t23_1] h_36 < μ_1 [k13_1] h_30))
theorem e77 (g0_1 : Value) (sink1_1 : Value) (l2_1 : Value) (choices3_1 : Value) (h : Heap) (K : Value → Heap → Prop) : wpA Try.prog 63 (anOf [(3, [11, 12]), (30, [13]), (3855, [15])]) (bodyOf Try.f77) 1 (fun A h => resA Try.prog A h K [.cell 8 34, .tmp 9, .tmp 10]) (fun _ _ _ => False) (fun A h => resA Try.prog A h K [.cell 8 34, .tmp 9, .tmp 10]) (aargs [g0_1, sink1_1, l2_1, choices3_1] 0) h = t77 Try.prog g0_1 sink1_1 l2_1 choices3_1 h K := by kernel_rfl
theorem c77 (g0_1 : Value) (sink1_1 : Value) (l2_1 : Value) (choices3_1 : Value) (h : Heap) (K : Value → Heap → Prop) (H : t77 Try.prog g0_1 sink1_1 l2_1 choices3_1 h K) : callM Try.prog 77 #[g0_1, sink1_1, l2_1, choices3_1] h K :=
  callM_of_wpA mixed (fn := Try.f77) Try.func77 (c := bodyOf Try.f77) rfl (of_decide_eq_true (by kernel_rfl)) (anOf [(3, [11, 12]), (30, [13]), (3855, [15])]) 59 63 (by kernel_rfl) rfl [.cell 8 34, .tmp 9, .tmp 10] (by kernel_rfl) (args := [g0_1, sink1_1, l2_1, choices3_1]) (by rw [e77]; exact H)

/-! impl.isLoad -/
def t79 (P : Program) (g0_1 : Value) (sink1_1 : Value) (l2_1 : Value) (h : Heap) (K : Value → Heap → Prop) : Prop :=
  eop P (Instr.box 32 g0_1) h fun g3_1 h_1 =>
  eop P (Instr.box 34 l2_1) h_1 fun l5_1 h_2 =>
  rop P (Instr.loadAt 32 g3_1) h_2 fun t7_1 =>
  callM P 105 #[t7_1, sink1_1] h_2 fun t9_1 h_3 =>
  guardM (asG t9_1 true) true (fun k_1 => rop P (Instr.loadAt 32 g3_1) h_3 fun t11_1 =>
  k_1 t11_1 h_3) h_3 fun t11_2 h_4 =>
  guardM (asG t9_1 true) true (fun k_2 => pop P (Instr.fieldAt 34 l5_1 0) fun t12_1 =>
  k_2 t12_1 h_4) h_4 fun t12_2 h_5 =>
  guardM (asG t9_1 true) true (fun k_3 => rop P (Instr.loadAt 25 t12_2) h_5 fun t13_1 =>
  k_3 t13_1 h_5) h_5 fun t13_2 h_6 =>
  guardM (asG t9_1 true) true (fun k_4 => callM P 140 #[t11_2, t13_2] h_6 fun t14_1 h_7 =>
  k_4 t14_1 h_7) h_6 fun t14_2 h_8 =>
  pop P (pickS t9_1 t14_2 (Value.bool false)) fun t15_1 =>
  guardM (asG t15_1 true) true (fun k_5 => rop P (Instr.loadAt 32 g3_1) h_8 fun t17_1 =>
  k_5 t17_1 h_8) h_8 fun t17_2 h_9 =>
  guardM (asG t15_1 true) true (fun k_6 => pop P (Instr.fieldAt 34 l5_1 1) fun t18_1 =>
  k_6 t18_1 h_9) h_9 fun t18_2 h_10 =>
  guardM (asG t15_1 true) true (fun k_7 => rop P (Instr.loadAt 25 t18_2) h_10 fun t19_1 =>
  k_7 t19_1 h_10) h_10 fun t19_2 h_11 =>
  guardM (asG t15_1 true) true (fun k_8 => callM P 141 #[t17_2, t19_2] h_11 fun t20_1 h_12 =>
  k_8 t20_1 h_12) h_11 fun t20_2 h_13 =>
  pop P (pickS t15_1 t20_2 (Value.bool false)) fun t21_1 =>
  guardM (asG t21_1 true) true (fun k_9 => pop P (Instr.fieldAt 34 l5_1 1) fun t23_1 =>
  k_9 t23_1 h_13) h_13 fun t23_2 h_14 =>
  guardM (asG t21_1 true) true (fun k_10 => rop P (Instr.loadAt 25 t23_2) h_14 fun t24_1 =>
  k_10 t24_1 h_14) h_14 fun t24_2 h_15 =>
  guardM (asG t21_1 true) true (fun k_11 => callM P 92 #[t24_2] h_15 fun t25_1 h_16 =>
  k_11 t25_1 h_16) h_15 fun t25_2 h_17 =>
  guardM (asG t21_1 true) true (fun k_12 => pop P (binA .leq 3 t25_2 (Value.int IntKind.i64 20)) fun t26_1 =>
  k_12 t26_1 h_17) h_17 fun t26_2 h_18 =>
  pop P (pickS t21_1 t26_2 (Value.bool false)) fun t27_1 =>
  K t27_1 h_18
theorem e79 (g0_1 : Value) (sink1_1 : Value) (l2_1 : Value) (h : Heap) (K : Value → Heap → Prop) : wpA Try.prog 28 (anOf []) (bodyOf Try.f79) 1 (fun A h => resA Try.prog A h K [.tmp 6]) (fun _ _ _ => False) (fun A h => resA Try.prog A h K [.tmp 6]) (aargs [g0_1, sink1_1, l2_1] 0) h = t79 Try.prog g0_1 sink1_1 l2_1 h K := by kernel_rfl
theorem c79 (g0_1 : Value) (sink1_1 : Value) (l2_1 : Value) (h : Heap) (K : Value → Heap → Prop) (H : t79 Try.prog g0_1 sink1_1 l2_1 h K) : callM Try.prog 79 #[g0_1, sink1_1, l2_1] h K :=
  callM_of_wpA mixed (fn := Try.f79) Try.func79 (c := bodyOf Try.f79) rfl (of_decide_eq_true (by kernel_rfl)) (anOf []) 25 28 (by kernel_rfl) rfl [.tmp 6] (by kernel_rfl) (args := [g0_1, sink1_1, l2_1]) (by rw [e79]; exact H)

/-! (impl.Load).copied -/
def t80 (P : Program) (l0_1 : Value) (h : Heap) (K : Value → Heap → Prop) : Prop :=
  eop P (Instr.box 34 l0_1) h fun l1_1 h_1 =>
  eop P (Instr.alloc 34 true (.tuple #[])) h_1 fun t2_1 h_2 =>
  pop P (Instr.fieldAt 34 l1_1 0) fun t3_1 =>
  rop P (Instr.loadAt 25 t3_1) h_2 fun t4_1 =>
  pop P (Instr.fieldAt 34 l1_1 1) fun t6_1 =>
  rop P (Instr.loadAt 25 t6_1) h_2 fun t7_1 =>
  callM P 142 #[t4_1] h_2 fun t5_1 h_3 =>
  (∀ w : World, w.heap = h_3 → (Instr.loadAt 25 t6_1).run P w = .ok t7_1 w) ∧
  callM P 142 #[t7_1] h_3 fun t8_1 h_4 =>
  pop P (Instr.build 34 #[(0, t5_1), (1, t8_1)]) fun t9_1 =>
  uop P (Instr.storeAt 34 t2_1 t9_1) h_4 fun u_1 h_5 =>
  rop P (Instr.loadAt 34 t2_1) h_5 fun r_1 =>
  K r_1 h_5
theorem e80 (l0_1 : Value) (h : Heap) (K : Value → Heap → Prop) : wpA Try.prog 10 (anOf []) (bodyOf Try.f80) 1 (fun A h => resA Try.prog A h K [.cell 2 34]) (fun _ _ _ => False) (fun A h => resA Try.prog A h K [.cell 2 34]) (aargs [l0_1] 0) h = t80 Try.prog l0_1 h K := by kernel_rfl
theorem c80 (l0_1 : Value) (h : Heap) (K : Value → Heap → Prop) (H : t80 Try.prog l0_1 h K) : callM Try.prog 80 #[l0_1] h K :=
  callM_of_wpA mixed (fn := Try.f80) Try.func80 (c := bodyOf Try.f80) rfl (of_decide_eq_true (by kernel_rfl)) (anOf []) 9 10 (by kernel_rfl) rfl [.cell 2 34] (by kernel_rfl) (args := [l0_1]) (by rw [e80]; exact H)

/-! (*impl.Load).end -/
def t81 (P : Program) (l0_1 : Value) (g1_1 : Value) (sink2_1 : Value) (choices3_1 : Value) (h : Heap) (K : Value → Heap → Prop) : Prop :=
  eop P (Instr.box 32 g1_1) h fun g5_1 h_1 =>
  pop P (Instr.fieldAt 32 g5_1 0) fun t14_1 =>
  rop P (Instr.loadAt 22 t14_1) h_1 fun t15_1 =>
  pop P (lenS 22 3 t15_1) fun t16_1 =>
  eop P (Instr.makeSlice 25 t16_1 t16_1) h_1 fun t17_1 h_2 =>
  ∃ (I_1 : List Value → Heap → Prop) (μ_1 : List Value → Heap → Nat), I_1 [(Value.int IntKind.i64 0)] h_2 ∧
  ∀ (junk_1 : Nat → Value) (j11_1 : Value) (h_3 : Heap), I_1 [j11_1] h_3 →
  callM P 94 #[l0_1, sink2_1] h_3 fun t22_1 h_4 =>
  pop P (lenS 25 3 t22_1) fun t24_1 =>
  pop P (binE .eql 3 (.tmp 24) (.const (Value.int IntKind.i64 0)) t24_1 (Value.int IntKind.i64 0)) fun t25_1 =>
  condM t25_1
  (K (.tuple #[t17_1, (Value.bool true)]) h_4)
  (pop P (binE .eql 3 (.tmp 27) (.const (Value.int IntKind.i64 4000)) j11_1 (Value.int IntKind.i64 4000)) fun t28_1 =>
  condM t28_1
  (K (.tuple #[(Value.slice none 0 0), (Value.bool false)]) h_4)
  (pop P (Instr.indexAt 25 t22_1 (Value.int IntKind.i64 0)) fun t30_1 =>
  rop P (Instr.loadAt 3 t30_1) h_4 fun t31_1 =>
  ∃ J_1 : List Value → Heap → Prop, (pop P (lenS 25 3 choices3_1) fun t34_1 =>
  pop P (binA .lss 3 j11_1 t34_1) fun t35_1 =>
  condM t35_1
  (pop P (Instr.indexAt 25 choices3_1 j11_1) fun t39_1 =>
  rop P (Instr.loadAt 3 t39_1) h_4 fun t40_1 =>
  pop P (lenS 25 3 t22_1) fun t42_1 =>
  pop P (binA .rem 3 t40_1 t42_1) fun t43_1 =>
  pop P (Instr.indexAt 25 t22_1 t43_1) fun t44_1 =>
  rop P (Instr.loadAt 3 t44_1) h_4 fun t45_1 =>
  J_1 [t45_1] h_4)
  (J_1 [t31_1] h_4)) ∧
  ∀ (junk_2 : Nat → Value) (p13_1 : Value) (h_5 : Heap), J_1 [p13_1] h_5 →
  rop P (Instr.loadAt 32 g5_1) h_5 fun t47_1 =>
  callM P 143 #[l0_1, t47_1, p13_1] h_5 fun t49_1 h_6 =>
  pop P (Instr.indexAt 25 t17_1 p13_1) fun t52_1 =>
  rop P (Instr.loadAt 3 t52_1) h_6 fun t53_1 =>
  pop P (binA .add 3 t53_1 (Value.int IntKind.i64 1)) fun t54_1 =>
  pop P (Instr.indexAt 25 t17_1 p13_1) fun t55_1 =>
  uop P (Instr.storeAt 3 t55_1 t54_1) h_6 fun u_1 h_7 =>
  pop P (binA .add 3 j11_1 (Value.int IntKind.i64 1)) fun t19_1 =>
  I_1 [t19_1] h_7 ∧ μ_1 [t19_1] h_7 < μ_1 [j11_1] h_3))
theorem e81 (l0_1 : Value) (g1_1 : Value) (sink2_1 : Value) (choices3_1 : Value) (h : Heap) (K : Value → Heap → Prop) : wpA Try.prog 56 (anOf [(30, [11]), (3855, [13])]) (bodyOf Try.f81) 1 (fun A h => resA Try.prog A h K [.tmp 8, .tmp 9]) (fun _ _ _ => False) (fun A h => resA Try.prog A h K [.tmp 8, .tmp 9]) (aargs [l0_1, g1_1, sink2_1, choices3_1] 0) h = t81 Try.prog l0_1 g1_1 sink2_1 choices3_1 h K := by kernel_rfl
theorem c81 (l0_1 : Value) (g1_1 : Value) (sink2_1 : Value) (choices3_1 : Value) (h : Heap) (K : Value → Heap → Prop) (H : t81 Try.prog l0_1 g1_1 sink2_1 choices3_1 h K) : callM Try.prog 81 #[l0_1, g1_1, sink2_1, choices3_1] h K :=
  callM_of_wpA mixed (fn := Try.f81) Try.func81 (c := bodyOf Try.f81) rfl (of_decide_eq_true (by kernel_rfl)) (anOf [(30, [11]), (3855, [13])]) 52 56 (by kernel_rfl) rfl [.tmp 8, .tmp 9] (by kernel_rfl) (args := [l0_1, g1_1, sink2_1, choices3_1]) (by rw [e81]; exact H)

/-! impl.isGraph -/
def t88 (P : Program) (g0_1 : Value) (h : Heap) (K : Value → Heap → Prop) : Prop :=
  eop P (Instr.box 32 g0_1) h fun g1_1 h_1 =>
  pop P (Instr.fieldAt 32 g1_1 0) fun t6_1 =>
  rop P (Instr.loadAt 22 t6_1) h_1 fun t7_1 =>
  pop P (lenS 22 3 t7_1) fun t8_1 =>
  eop P (Instr.alloc 3 true (.tuple #[])) h_1 fun n3_1 h_2 =>
  uop P (Instr.storeAt 3 n3_1 t8_1) h_2 fun u_1 h_3 =>
  rop P (Instr.loadAt 3 n3_1) h_3 fun t9_1 =>
  callM P 113 #[t9_1, (Value.int IntKind.i64 1), (Value.int IntKind.i64 8)] h_3 fun t10_1 h_4 =>
  pop P (Op.unary .not t10_1) fun t11_1 =>
  condM t11_1
  (K (Value.bool false) h_4)
  (pop P (Instr.fieldAt 32 g1_1 0) fun t12_1 =>
  rop P (Instr.loadAt 22 t12_1) h_4 fun t13_1 =>
  pop P (lenS 22 3 t13_1) fun t14_1 =>
  ∃ (I_1 : List Value → Heap → Prop) (μ_1 : List Value → Heap → Nat), I_1 [(Value.int IntKind.i64 0)] h_4 ∧
  ∀ (junk_1 : Nat → Value) (t15_1 : Value) (h_5 : Heap), I_1 [t15_1] h_5 →
  pop P (binA .lss 3 t15_1 t14_1) fun t16_1 =>
  condM t16_1
  (pop P (Instr.indexAt 22 t13_1 t15_1) fun t17_1 =>
  rop P (Instr.loadAt 25 t17_1) h_5 fun t18_1 =>
  pop P (lenS 25 3 t18_1) fun t20_1 =>
  pop P (binA .gtr 3 t20_1 (Value.int IntKind.i64 5)) fun t21_1 =>
  guardM (asG t21_1 false) false (fun k_1 => k_1 t18_1 h_5) h_5 fun t23_1 h_6 =>
  guardM (asG t21_1 false) false (fun k_2 => pop P (Instr.makeFunc (Fn.func 150) #[] #[n3_1]) fun t24_1 =>
  k_2 t24_1 h_6) h_6 fun t24_2 h_7 =>
  guardM (asG t21_1 false) false (fun k_3 => callM P 102 #[t23_1, t24_2] h_7 fun t25_1 h_8 =>
  k_3 t25_1 h_8) h_7 fun t25_2 h_9 =>
  pop P (pickS t21_1 (Value.bool true) t25_2) fun t26_1 =>
  condM t26_1
  (K (Value.bool false) h_9)
  (pop P (binA .add 3 t15_1 (Value.int IntKind.i64 1)) fun t27_1 =>
  I_1 [t27_1] h_9 ∧ μ_1 [t27_1] h_9 < μ_1 [t15_1] h_5))
  (K (Value.bool true) h_5))
theorem e88 (g0_1 : Value) (h : Heap) (K : Value → Heap → Prop) : wpA Try.prog 28 (anOf [(122, [15])]) (bodyOf Try.f88) 1 (fun A h => resA Try.prog A h K [.tmp 2]) (fun _ _ _ => False) (fun A h => resA Try.prog A h K [.tmp 2]) (aargs [g0_1] 0) h = t88 Try.prog g0_1 h K := by kernel_rfl
theorem c88 (g0_1 : Value) (h : Heap) (K : Value → Heap → Prop) (H : t88 Try.prog g0_1 h K) : callM Try.prog 88 #[g0_1] h K :=
  callM_of_wpA mixed (fn := Try.f88) Try.func88 (c := bodyOf Try.f88) rfl (of_decide_eq_true (by kernel_rfl)) (anOf [(122, [15])]) 27 28 (by kernel_rfl) rfl [.tmp 2] (by kernel_rfl) (args := [g0_1]) (by rw [e88]; exact H)

/-! impl.sum -/
def t92 (P : Program) (list0_1 : Value) (h : Heap) (K : Value → Heap → Prop) : Prop :=
  pop P (lenS 25 3 list0_1) fun t7_1 =>
  ∃ (I_1 : List Value → Heap → Prop) (μ_1 : List Value → Heap → Nat), I_1 [(Value.int IntKind.i64 0), (Value.int IntKind.i64 0)] h ∧
  ∀ (junk_1 : Nat → Value) (out3_1 : Value) (t8_1 : Value) (h_1 : Heap), I_1 [out3_1, t8_1] h_1 →
  pop P (binA .lss 3 t8_1 t7_1) fun t9_1 =>
  condM t9_1
  (pop P (Instr.indexAt 25 list0_1 t8_1) fun t10_1 =>
  rop P (Instr.loadAt 3 t10_1) h_1 fun t11_1 =>
  pop P (binA .add 3 out3_1 t11_1) fun t14_1 =>
  pop P (binA .add 3 t8_1 (Value.int IntKind.i64 1)) fun t15_1 =>
  I_1 [t14_1, t15_1] h_1 ∧ μ_1 [t14_1, t15_1] h_1 < μ_1 [out3_1, t8_1] h_1)
  (K out3_1 h_1)
theorem e92 (list0_1 : Value) (h : Heap) (K : Value → Heap → Prop) : wpA Try.prog 17 (anOf [(58, [3, 8])]) (bodyOf Try.f92) 1 (fun A h => resA Try.prog A h K [.tmp 2]) (fun _ _ _ => False) (fun A h => resA Try.prog A h K [.tmp 2]) (aargs [list0_1] 0) h = t92 Try.prog list0_1 h K := by kernel_rfl
theorem c92 (list0_1 : Value) (h : Heap) (K : Value → Heap → Prop) (H : t92 Try.prog list0_1 h K) : callM Try.prog 92 #[list0_1] h K :=
  callM_of_wpA mixed (fn := Try.f92) Try.func92 (c := bodyOf Try.f92) rfl (of_decide_eq_true (by kernel_rfl)) (anOf [(58, [3, 8])]) 16 17 (by kernel_rfl) rfl [.tmp 2] (by kernel_rfl) (args := [list0_1]) (by rw [e92]; exact H)

/-! impl.force -/
def t93 (P : Program) (g0_1 : Value) (sink1_1 : Value) (l2_1 : Value) (counts3_1 : Value) (h : Heap) (K : Value → Heap → Prop) : Prop :=
  eop P (Instr.box 32 g0_1) h fun g4_1 h_1 =>
  eop P (Instr.box 34 l2_1) h_1 fun l6_1 h_2 =>
  eop P (Instr.alloc 34 true (.tuple #[])) h_2 fun t8_1 h_3 =>
  rop P (Instr.loadAt 32 g4_1) h_3 fun t13_1 =>
  rop P (Instr.loadAt 34 l6_1) h_3 fun t15_1 =>
  callM P 79 #[t13_1, sink1_1, t15_1] h_3 fun t16_1 h_4 =>
  pop P (Op.unary .not t16_1) fun t17_1 =>
  guardM (asG t17_1 false) false (fun k_1 => k_1 counts3_1 h_4) h_4 fun t19_1 h_5 =>
  guardM (asG t17_1 false) false (fun k_2 => pop P (lenS 25 3 t19_1) fun t20_1 =>
  k_2 t20_1 h_5) h_5 fun t20_2 h_6 =>
  guardM (asG t17_1 false) false (fun k_3 => pop P (Instr.fieldAt 32 g4_1 0) fun t21_1 =>
  k_3 t21_1 h_6) h_6 fun t21_2 h_7 =>
  guardM (asG t17_1 false) false (fun k_4 => rop P (Instr.loadAt 22 t21_2) h_7 fun t22_1 =>
  k_4 t22_1 h_7) h_7 fun t22_2 h_8 =>
  guardM (asG t17_1 false) false (fun k_5 => pop P (lenS 22 3 t22_2) fun t23_1 =>
  k_5 t23_1 h_8) h_8 fun t23_2 h_9 =>
  guardM (asG t17_1 false) false (fun k_6 => pop P (binE .neq 3 (.tmp 20) (.tmp 23) t20_2 t23_2) fun t24_1 =>
  k_6 t24_1 h_9) h_9 fun t24_2 h_10 =>
  pop P (pickS t17_1 (Value.bool true) t24_2) fun t25_1 =>
  guardM (asG t25_1 false) false (fun k_7 => k_7 counts3_1 h_10) h_10 fun t27_1 h_11 =>
  guardM (asG t25_1 false) false (fun k_8 => k_8 sink1_1 h_11) h_11 fun t28_1 h_12 =>
  guardM (asG t25_1 false) false (fun k_9 => pop P (Instr.indexAt 25 t27_1 t28_1) fun t29_1 =>
  k_9 t29_1 h_12) h_12 fun t29_2 h_13 =>
  guardM (asG t25_1 false) false (fun k_10 => rop P (Instr.loadAt 3 t29_2) h_13 fun t30_1 =>
  k_10 t30_1 h_13) h_13 fun t30_2 h_14 =>
  guardM (asG t25_1 false) false (fun k_11 => pop P (binE .neq 3 (.tmp 30) (.const (Value.int IntKind.i64 0)) t30_2 (Value.int IntKind.i64 0)) fun t31_1 =>
  k_11 t31_1 h_14) h_14 fun t31_2 h_15 =>
  pop P (pickS t25_1 (Value.bool true) t31_2) fun t32_1 =>
  guardM (asG t32_1 false) false (fun k_12 => k_12 counts3_1 h_15) h_15 fun t34_1 h_16 =>
  guardM (asG t32_1 false) false (fun k_13 => callM P 102 #[t34_1, (.func (.func 155) #[] #[])] h_16 fun t35_1 h_17 =>
  k_13 t35_1 h_17) h_16 fun t35_2 h_18 =>
  pop P (pickS t32_1 (Value.bool true) t35_2) fun t36_1 =>
  condM t36_1
  (pop P (Instr.build 34 #[]) fun t37_1 =>
  uop P (Instr.storeAt 34 t8_1 t37_1) h_18 fun u_1 h_19 =>
  rop P (Instr.loadAt 34 t8_1) h_19 fun r_1 =>
  K (.tuple #[r_1, (Value.bool false)]) h_19)
  (rop P (Instr.loadAt 34 l6_1) h_18 fun t38_1 =>
  callM P 80 #[t38_1] h_18 fun t39_1 h_20 =>
  eop P (Instr.alloc 34 true (.tuple #[])) h_20 fun out10_1 h_21 =>
  uop P (Instr.storeAt 34 out10_1 t39_1) h_21 fun u_2 h_22 =>
  pop P (lenS 25 3 counts3_1) fun t41_1 =>
  ∃ (I_1 : List Value → Heap → Prop) (μ_1 : List Value → Heap → Nat), I_1 [(Value.int IntKind.i64 0)] h_22 ∧
  ∀ (junk_1 : Nat → Value) (t42_1 : Value) (h_23 : Heap), I_1 [t42_1] h_23 →
  pop P (binA .lss 3 t42_1 t41_1) fun t43_1 =>
  condM t43_1
  (pop P (Instr.indexAt 25 counts3_1 t42_1) fun t45_1 =>
  rop P (Instr.loadAt 3 t45_1) h_23 fun t46_1 =>
  ∃ (I_2 : List Value → Heap → Prop) (μ_2 : List Value → Heap → Nat), I_2 [(Value.int IntKind.i64 0)] h_23 ∧
  ∀ (junk_2 : Nat → Value) (t48_1 : Value) (h_24 : Heap), I_2 [t48_1] h_24 →
  pop P (binA .lss 3 t48_1 t46_1) fun t49_1 =>
  condM t49_1
  (rop P (Instr.loadAt 32 g4_1) h_24 fun t50_1 =>
  callM P 143 #[out10_1, t50_1, t42_1] h_24 fun t52_1 h_25 =>
  pop P (binA .add 3 t48_1 (Value.int IntKind.i64 1)) fun t53_1 =>
  I_2 [t53_1] h_25 ∧ μ_2 [t53_1] h_25 < μ_2 [t48_1] h_24)
  (pop P (binA .add 3 t42_1 (Value.int IntKind.i64 1)) fun t54_1 =>
  I_1 [t54_1] h_24 ∧ μ_1 [t54_1] h_24 < μ_1 [t42_1] h_23))
  (rop P (Instr.loadAt 34 out10_1) h_23 fun t55_1 =>
  uop P (Instr.storeAt 34 t8_1 t55_1) h_23 fun u_3 h_26 =>
  rop P (Instr.loadAt 34 t8_1) h_26 fun r_2 =>
  K (.tuple #[r_2, (Value.bool true)]) h_26))
theorem e93 (g0_1 : Value) (sink1_1 : Value) (l2_1 : Value) (counts3_1 : Value) (h : Heap) (K : Value → Heap → Prop) : wpA Try.prog 56 (anOf [(122, [42]), (31334, [48])]) (bodyOf Try.f93) 1 (fun A h => resA Try.prog A h K [.cell 8 34, .tmp 9]) (fun _ _ _ => False) (fun A h => resA Try.prog A h K [.cell 8 34, .tmp 9]) (aargs [g0_1, sink1_1, l2_1, counts3_1] 0) h = t93 Try.prog g0_1 sink1_1 l2_1 counts3_1 h K := by kernel_rfl
theorem c93 (g0_1 : Value) (sink1_1 : Value) (l2_1 : Value) (counts3_1 : Value) (h : Heap) (K : Value → Heap → Prop) (H : t93 Try.prog g0_1 sink1_1 l2_1 counts3_1 h K) : callM Try.prog 93 #[g0_1, sink1_1, l2_1, counts3_1] h K :=
  callM_of_wpA mixed (fn := Try.f93) Try.func93 (c := bodyOf Try.f93) rfl (of_decide_eq_true (by kernel_rfl)) (anOf [(122, [42]), (31334, [48])]) 52 56 (by kernel_rfl) rfl [.cell 8 34, .tmp 9] (by kernel_rfl) (args := [g0_1, sink1_1, l2_1, counts3_1]) (by rw [e93]; exact H)

/-! (*impl.Load).waiting -/
def t94 (P : Program) (l0_1 : Value) (sink1_1 : Value) (h : Heap) (K : Value → Heap → Prop) : Prop :=
  eop P (Instr.buildSlice 25 0 #[]) h fun t8_1 h_1 =>
  pop P (nilS l0_1) fun t10_1 =>
  pop P (Instr.fieldAt 34 t10_1 1) fun t11_1 =>
  rop P (Instr.loadAt 25 t11_1) h_1 fun t12_1 =>
  pop P (lenS 25 3 t12_1) fun t13_1 =>
  ∃ (I_1 : List Value → Heap → Prop) (μ_1 : List Value → Heap → Nat), I_1 [t8_1, (Value.int IntKind.i64 0)] h_1 ∧
  ∀ (junk_1 : Nat → Value) (out5_1 : Value) (t14_1 : Value) (h_2 : Heap), I_1 [out5_1, t14_1] h_2 →
  pop P (binA .lss 3 t14_1 t13_1) fun t15_1 =>
  condM t15_1
  (pop P (Instr.indexAt 25 t12_1 t14_1) fun t17_1 =>
  rop P (Instr.loadAt 3 t17_1) h_2 fun t18_1 =>
  pop P (binE .neq 3 (.tmp 19) (.tmp 20) t14_1 sink1_1) fun t21_1 =>
  guardM (asG t21_1 true) true (fun k_1 => k_1 t18_1 h_2) h_2 fun t23_1 h_3 =>
  guardM (asG t21_1 true) true (fun k_2 => pop P (binA .gtr 3 t23_1 (Value.int IntKind.i64 0)) fun t24_1 =>
  k_2 t24_1 h_3) h_3 fun t24_2 h_4 =>
  pop P (pickS t21_1 t24_2 (Value.bool false)) fun t25_1 =>
  condM t25_1
  (eop P (Instr.buildSlice 25 1 #[(0, t14_1)]) h_4 fun t28_1 h_5 =>
  eop P (appS 25 25 25 out5_1 t28_1) h_5 fun t29_1 h_6 =>
  pop P (binA .add 3 t14_1 (Value.int IntKind.i64 1)) fun t30_1 =>
  I_1 [t29_1, t30_1] h_6 ∧ μ_1 [t29_1, t30_1] h_6 < μ_1 [out5_1, t14_1] h_2)
  (pop P (binA .add 3 t14_1 (Value.int IntKind.i64 1)) fun t30_2 =>
  I_1 [out5_1, t30_2] h_4 ∧ μ_1 [out5_1, t30_2] h_4 < μ_1 [out5_1, t14_1] h_2))
  (K out5_1 h_2)
theorem e94 (l0_1 : Value) (sink1_1 : Value) (h : Heap) (K : Value → Heap → Prop) : wpA Try.prog 32 (anOf [(58, [5, 14])]) (bodyOf Try.f94) 1 (fun A h => resA Try.prog A h K [.tmp 4]) (fun _ _ _ => False) (fun A h => resA Try.prog A h K [.tmp 4]) (aargs [l0_1, sink1_1] 0) h = t94 Try.prog l0_1 sink1_1 h K := by kernel_rfl
theorem c94 (l0_1 : Value) (sink1_1 : Value) (h : Heap) (K : Value → Heap → Prop) (H : t94 Try.prog l0_1 sink1_1 h K) : callM Try.prog 94 #[l0_1, sink1_1] h K :=
  callM_of_wpA mixed (fn := Try.f94) Try.func94 (c := bodyOf Try.f94) rfl (of_decide_eq_true (by kernel_rfl)) (anOf [(58, [5, 14])]) 30 32 (by kernel_rfl) rfl [.tmp 4] (by kernel_rfl) (args := [l0_1, sink1_1]) (by rw [e94]; exact H)

/-! spec.chLoaded -/
def t96 (P : Program) (sink0_1 : Value) (chips1_1 : Value) (h : Heap) (K : Value → Heap → Prop) : Prop :=
  pop P (lenS 25 3 chips1_1) fun t9_1 =>
  ∃ (I_1 : List Value → Heap → Prop) (μ_1 : List Value → Heap → Nat), I_1 [(Value.slice none 0 0), (Value.int IntKind.i64 0)] h ∧
  ∀ (junk_1 : Nat → Value) (out5_1 : Value) (t10_1 : Value) (h_1 : Heap), I_1 [out5_1, t10_1] h_1 →
  pop P (binA .lss 3 t10_1 t9_1) fun t11_1 =>
  condM t11_1
  (pop P (Instr.indexAt 25 chips1_1 t10_1) fun t13_1 =>
  rop P (Instr.loadAt 3 t13_1) h_1 fun t14_1 =>
  pop P (binE .neq 3 (.tmp 15) (.tmp 16) t10_1 sink0_1) fun t17_1 =>
  guardM (asG t17_1 true) true (fun k_1 => k_1 t14_1 h_1) h_1 fun t19_1 h_2 =>
  guardM (asG t17_1 true) true (fun k_2 => pop P (binA .gtr 3 t19_1 (Value.int IntKind.i64 0)) fun t20_1 =>
  k_2 t20_1 h_2) h_2 fun t20_2 h_3 =>
  pop P (pickS t17_1 t20_2 (Value.bool false)) fun t21_1 =>
  condM t21_1
  (eop P (Instr.buildSlice 25 1 #[(0, t10_1)]) h_3 fun t24_1 h_4 =>
  eop P (appS 25 25 25 out5_1 t24_1) h_4 fun t25_1 h_5 =>
  pop P (binA .add 3 t10_1 (Value.int IntKind.i64 1)) fun t26_1 =>
  I_1 [t25_1, t26_1] h_5 ∧ μ_1 [t25_1, t26_1] h_5 < μ_1 [out5_1, t10_1] h_1)
  (pop P (binA .add 3 t10_1 (Value.int IntKind.i64 1)) fun t26_2 =>
  I_1 [out5_1, t26_2] h_3 ∧ μ_1 [out5_1, t26_2] h_3 < μ_1 [out5_1, t10_1] h_1))
  (K out5_1 h_1)
theorem e96 (sink0_1 : Value) (chips1_1 : Value) (h : Heap) (K : Value → Heap → Prop) : wpA Try.prog 28 (anOf [(58, [5, 10])]) (bodyOf Try.f96) 1 (fun A h => resA Try.prog A h K [.tmp 4]) (fun _ _ _ => False) (fun A h => resA Try.prog A h K [.tmp 4]) (aargs [sink0_1, chips1_1] 0) h = t96 Try.prog sink0_1 chips1_1 h K := by kernel_rfl
theorem c96 (sink0_1 : Value) (chips1_1 : Value) (h : Heap) (K : Value → Heap → Prop) (H : t96 Try.prog sink0_1 chips1_1 h K) : callM Try.prog 96 #[sink0_1, chips1_1] h K :=
  callM_of_wpA mixed (fn := Try.f96) Try.func96 (c := bodyOf Try.f96) rfl (of_decide_eq_true (by kernel_rfl)) (anOf [(58, [5, 10])]) 26 28 (by kernel_rfl) rfl [.tmp 4] (by kernel_rfl) (args := [sink0_1, chips1_1]) (by rw [e96]; exact H)

/-! (*spec.l1Cur).load -/
def t98 (P : Program) (c0_1 : Value) (h : Heap) (K : Value → Heap → Prop) : Prop :=
  eop P (Instr.alloc 32 true (.tuple #[])) h fun t2_1 h_1 =>
  eop P (Instr.alloc 34 true (.tuple #[])) h_1 fun t4_1 h_2 =>
  callM P 156 #[c0_1] h_2 fun t10_1 h_3 =>
  pop P (Instr.extract t10_1 0) fun t11_1 =>
  pop P (Instr.extract t10_1 1) fun t12_1 =>
  eop P (Instr.alloc 32 true (.tuple #[])) h_3 fun g5_1 h_4 =>
  uop P (Instr.storeAt 32 g5_1 t11_1) h_4 fun u_1 h_5 =>
  rop P (Instr.loadAt 32 g5_1) h_5 fun t14_1 =>
  callM P 157 #[c0_1, t14_1] h_5 fun t15_1 h_6 =>
  pop P (Instr.field 132 t15_1 0) fun t16_1 =>
  pop P (Instr.build 34 #[(0, t16_1)]) fun t17_1 =>
  eop P (Instr.alloc 34 true (.tuple #[])) h_6 fun l7_1 h_7 =>
  uop P (Instr.storeAt 34 l7_1 t17_1) h_7 fun u_2 h_8 =>
  pop P (Instr.fieldAt 32 g5_1 0) fun t18_1 =>
  rop P (Instr.loadAt 22 t18_1) h_8 fun t19_1 =>
  pop P (lenS 22 3 t19_1) fun t20_1 =>
  ∃ (I_1 : List Value → Heap → Prop) (μ_1 : List Value → Heap → Nat), I_1 [(Value.int IntKind.i64 0)] h_8 ∧
  ∀ (junk_1 : Nat → Value) (t21_1 : Value) (h_9 : Heap), I_1 [t21_1] h_9 →
  pop P (binA .lss 3 t21_1 t20_1) fun t22_1 =>
  condM t22_1
  (pop P (Instr.fieldAt 34 l7_1 1) fun t23_1 =>
  rop P (Instr.loadAt 25 t23_1) h_9 fun t24_1 =>
  eop P (Instr.buildSlice 25 6 #[(0, (Value.int IntKind.i64 0)), (1, (Value.int IntKind.i64 0)), (2, (Value.int IntKind.i64 1)), (3, (Value.int IntKind.i64 2)), (4, (Value.int IntKind.i64 0)), (5, (Value.int IntKind.i64 3))]) h_9 fun t26_1 h_10 =>
  (∀ w : World, w.heap = h_10 → (Instr.loadAt 25 t23_1).run P w = .ok t24_1 w) ∧
  callM P 101 #[c0_1, t26_1] h_10 fun t27_1 h_11 =>
  (∀ w : World, w.heap = h_11 → (Instr.loadAt 25 t23_1).run P w = .ok t24_1 w) ∧
  eop P (Instr.buildSlice 25 1 #[(0, t27_1)]) h_11 fun t28_1 h_12 =>
  (∀ w : World, w.heap = h_12 → (Instr.loadAt 25 t23_1).run P w = .ok t24_1 w) ∧
  eop P (appS 25 25 25 t24_1 t28_1) h_12 fun t29_1 h_13 =>
  pop P (Instr.fieldAt 34 l7_1 1) fun t30_1 =>
  uop P (Instr.storeAt 25 t30_1 t29_1) h_13 fun u_3 h_14 =>
  pop P (binA .add 3 t21_1 (Value.int IntKind.i64 1)) fun t31_1 =>
  I_1 [t31_1] h_14 ∧ μ_1 [t31_1] h_14 < μ_1 [t21_1] h_9)
  (∃ J_1 : List Value → Heap → Prop, (callM P 100 #[c0_1, (Value.int IntKind.i64 18)] h_9 fun t33_1 h_15 =>
  pop P (binE .eql 3 (.tmp 33) (.const (Value.int IntKind.i64 0)) t33_1 (Value.int IntKind.i64 0)) fun t35_1 =>
  condM t35_1
  (pop P (Instr.fieldAt 34 l7_1 1) fun t36_1 =>
  rop P (Instr.loadAt 25 t36_1) h_15 fun t37_1 =>
  pop P (Instr.fieldAt 34 l7_1 1) fun t39_1 =>
  rop P (Instr.loadAt 25 t39_1) h_15 fun t40_1 =>
  pop P (lenS 25 3 t40_1) fun t41_1 =>
  (callM P 100 #[c0_1, t41_1] h_15 fun t42_1 h_16 =>
  (∀ w : World, w.heap = h_16 → (Instr.loadAt 25 t39_1).run P w = .ok t40_1 w) ∧
  (∀ w : World, w.heap = h_16 → (Instr.loadAt 25 t36_1).run P w = .ok t37_1 w) ∧
  eop P (Instr.buildSlice 25 4 #[(0, (Value.int IntKind.i64 (-1))), (1, (Value.int IntKind.i64 21)), (2, (Value.int IntKind.i64 20)), (3, (Value.int IntKind.i64 4611686018427387904))]) h_16 fun t44_1 h_17 =>
  (∀ w : World, w.heap = h_17 → (Instr.loadAt 25 t39_1).run P w = .ok t40_1 w) ∧
  (∀ w : World, w.heap = h_17 → (Instr.loadAt 25 t36_1).run P w = .ok t37_1 w) ∧
  callM P 101 #[c0_1, t44_1] h_17 fun t45_1 h_18 =>
  (∀ w : World, w.heap = h_18 → (Instr.loadAt 25 t39_1).run P w = .ok t40_1 w) ∧
  (∀ w : World, w.heap = h_18 → (Instr.loadAt 25 t36_1).run P w = .ok t37_1 w) ∧
  pop P (Instr.indexAt 25 t37_1 t42_1) fun t46_1 =>
  uop P (Instr.storeAt 3 t46_1 t45_1) h_18 fun u_4 h_19 =>
  J_1 [t12_1] h_19) ∧
  (eop P (Instr.buildSlice 25 4 #[(0, (Value.int IntKind.i64 (-1))), (1, (Value.int IntKind.i64 21)), (2, (Value.int IntKind.i64 20)), (3, (Value.int IntKind.i64 4611686018427387904))]) h_15 fun t44_2 h_20 =>
  (∀ w : World, w.heap = h_20 → (Instr.loadAt 25 t39_1).run P w = .ok t40_1 w) ∧
  (∀ w : World, w.heap = h_20 → (Instr.loadAt 25 t36_1).run P w = .ok t37_1 w) ∧
  callM P 100 #[c0_1, t41_1] h_20 fun t42_2 h_21 =>
  (∀ w : World, w.heap = h_21 → (Instr.loadAt 25 t39_1).run P w = .ok t40_1 w) ∧
  (∀ w : World, w.heap = h_21 → (Instr.loadAt 25 t36_1).run P w = .ok t37_1 w) ∧
  callM P 101 #[c0_1, t44_2] h_21 fun t45_2 h_22 =>
  (∀ w : World, w.heap = h_22 → (Instr.loadAt 25 t39_1).run P w = .ok t40_1 w) ∧
  (∀ w : World, w.heap = h_22 → (Instr.loadAt 25 t36_1).run P w = .ok t37_1 w) ∧
  pop P (Instr.indexAt 25 t37_1 t42_2) fun t46_2 =>
  uop P (Instr.storeAt 3 t46_2 t45_2) h_22 fun u_5 h_23 =>
  J_1 [t12_1] h_23))
  (pop P (binE .eql 3 (.tmp 33) (.const (Value.int IntKind.i64 1)) t33_1 (Value.int IntKind.i64 1)) fun t48_1 =>
  condM t48_1
  (pop P (Instr.fieldAt 34 l7_1 0) fun t49_1 =>
  rop P (Instr.loadAt 25 t49_1) h_15 fun t50_1 =>
  eop P (Instr.buildSlice 25 1 #[(0, (Value.int IntKind.i64 0))]) h_15 fun t51_1 h_24 =>
  eop P (appS 25 25 25 t50_1 t51_1) h_24 fun t52_1 h_25 =>
  pop P (Instr.fieldAt 34 l7_1 0) fun t53_1 =>
  uop P (Instr.storeAt 25 t53_1 t52_1) h_25 fun u_6 h_26 =>
  J_1 [t12_1] h_26)
  (pop P (binE .eql 3 (.tmp 33) (.const (Value.int IntKind.i64 2)) t33_1 (Value.int IntKind.i64 2)) fun t55_1 =>
  condM t55_1
  (pop P (Instr.fieldAt 32 g5_1 0) fun t57_1 =>
  rop P (Instr.loadAt 22 t57_1) h_15 fun t58_1 =>
  pop P (lenS 22 3 t58_1) fun t59_1 =>
  eop P (Instr.buildSlice 25 3 #[(0, (Value.int IntKind.i64 (-1))), (1, t59_1), (2, (Value.int IntKind.i64 0))]) h_15 fun t60_1 h_27 =>
  callM P 101 #[c0_1, t60_1] h_27 fun t61_1 h_28 =>
  J_1 [t61_1] h_28)
  (J_1 [t12_1] h_15)))) ∧
  ∀ (junk_2 : Nat → Value) (sink6_1 : Value) (h_29 : Heap), J_1 [sink6_1] h_29 →
  rop P (Instr.loadAt 32 g5_1) h_29 fun t62_1 =>
  rop P (Instr.loadAt 34 l7_1) h_29 fun t64_1 =>
  uop P (Instr.storeAt 32 t2_1 t62_1) h_29 fun u_7 h_30 =>
  (∀ w : World, w.heap = h_30 → (Instr.loadAt 34 l7_1).run P w = .ok t64_1 w) ∧
  uop P (Instr.storeAt 34 t4_1 t64_1) h_30 fun u_8 h_31 =>
  rop P (Instr.loadAt 32 t2_1) h_31 fun r_1 =>
  rop P (Instr.loadAt 34 t4_1) h_31 fun r_2 =>
  K (.tuple #[r_1, sink6_1, r_2]) h_31)
theorem e98 (c0_1 : Value) (h : Heap) (K : Value → Heap → Prop) : wpA Try.prog 65 (anOf [(31, [6]), (122, [21])]) (bodyOf Try.f98) 1 (fun A h => resA Try.prog A h K [.cell 2 32, .tmp 3, .cell 4 34]) (fun _ _ _ => False) (fun A h => resA Try.prog A h K [.cell 2 32, .tmp 3, .cell 4 34]) (aargs [c0_1] 0) h = t98 Try.prog c0_1 h K := by kernel_rfl
theorem c98 (c0_1 : Value) (h : Heap) (K : Value → Heap → Prop) (H : t98 Try.prog c0_1 h K) : callM Try.prog 98 #[c0_1] h K :=
  callM_of_wpA mixed (fn := Try.f98) Try.func98 (c := bodyOf Try.f98) rfl (of_decide_eq_true (by kernel_rfl)) (anOf [(31, [6]), (122, [21])]) 64 65 (by kernel_rfl) rfl [.cell 2 32, .tmp 3, .cell 4 34] (by kernel_rfl) (args := [c0_1]) (by rw [e98]; exact H)

/-! (*spec.l1Cur).one -/
def t99 (P : Program) (c0_1 : Value) (n1_1 : Value) (h : Heap) (K : Value → Heap → Prop) : Prop :=
  callM P 100 #[c0_1, n1_1] h fun t7_1 h_1 =>
  pop P (binE .eql 3 (.tmp 7) (.const (Value.int IntKind.i64 0)) t7_1 (Value.int IntKind.i64 0)) fun t8_1 =>
  K t8_1 h_1
theorem e99 (c0_1 : Value) (n1_1 : Value) (h : Heap) (K : Value → Heap → Prop) : wpA Try.prog 9 (anOf []) (bodyOf Try.f99) 1 (fun A h => resA Try.prog A h K [.tmp 4]) (fun _ _ _ => False) (fun A h => resA Try.prog A h K [.tmp 4]) (aargs [c0_1, n1_1] 0) h = t99 Try.prog c0_1 n1_1 h K := by kernel_rfl
theorem c99 (c0_1 : Value) (n1_1 : Value) (h : Heap) (K : Value → Heap → Prop) (H : t99 Try.prog c0_1 n1_1 h K) : callM Try.prog 99 #[c0_1, n1_1] h K :=
  callM_of_wpA mixed (fn := Try.f99) Try.func99 (c := bodyOf Try.f99) rfl (of_decide_eq_true (by kernel_rfl)) (anOf []) 7 9 (by kernel_rfl) rfl [.tmp 4] (by kernel_rfl) (args := [c0_1, n1_1]) (by rw [e99]; exact H)

/-! (*spec.l1Cur).pick -/
def t100 (P : Program) (c0_1 : Value) (n1_1 : Value) (h : Heap) (K : Value → Heap → Prop) : Prop :=
  pop P (binA .leq 3 n1_1 (Value.int IntKind.i64 1)) fun t7_1 =>
  condM t7_1
  (K (Value.int IntKind.i64 0) h)
  (callM P 158 #[c0_1] h fun t9_1 h_1 =>
  ∃ J_1 : List Value → Heap → Prop, (pop P (binA .gtr 3 n1_1 (Value.int IntKind.i64 200)) fun t11_1 =>
  condM t11_1
  (pop P (binA .mul 3 t9_1 (Value.int IntKind.i64 256)) fun t13_1 =>
  callM P 158 #[c0_1] h_1 fun t15_1 h_2 =>
  pop P (binA .add 3 t13_1 t15_1) fun t16_1 =>
  J_1 [t16_1] h_2)
  (J_1 [t9_1] h_1)) ∧
  ∀ (junk_1 : Nat → Value) (x5_1 : Value) (h_3 : Heap), J_1 [x5_1] h_3 →
  pop P (binA .rem 3 x5_1 n1_1) fun t19_1 =>
  K t19_1 h_3)
theorem e100 (c0_1 : Value) (n1_1 : Value) (h : Heap) (K : Value → Heap → Prop) : wpA Try.prog 20 (anOf [(15, [5])]) (bodyOf Try.f100) 1 (fun A h => resA Try.prog A h K [.tmp 4]) (fun _ _ _ => False) (fun A h => resA Try.prog A h K [.tmp 4]) (aargs [c0_1, n1_1] 0) h = t100 Try.prog c0_1 n1_1 h K := by kernel_rfl
theorem c100 (c0_1 : Value) (n1_1 : Value) (h : Heap) (K : Value → Heap → Prop) (H : t100 Try.prog c0_1 n1_1 h K) : callM Try.prog 100 #[c0_1, n1_1] h K :=
  callM_of_wpA mixed (fn := Try.f100) Try.func100 (c := bodyOf Try.f100) rfl (of_decide_eq_true (by kernel_rfl)) (anOf [(15, [5])]) 18 20 (by kernel_rfl) rfl [.tmp 4] (by kernel_rfl) (args := [c0_1, n1_1]) (by rw [e100]; exact H)

/-! (*spec.l1Cur).among -/
def t101 (P : Program) (c0_1 : Value) (list1_1 : Value) (h : Heap) (K : Value → Heap → Prop) : Prop :=
  pop P (lenS 25 3 list1_1) fun t8_1 =>
  callM P 100 #[c0_1, t8_1] h fun t9_1 h_1 =>
  pop P (Instr.indexAt 25 list1_1 t9_1) fun t10_1 =>
  rop P (Instr.loadAt 3 t10_1) h_1 fun t11_1 =>
  K t11_1 h_1
theorem e101 (c0_1 : Value) (list1_1 : Value) (h : Heap) (K : Value → Heap → Prop) : wpA Try.prog 12 (anOf []) (bodyOf Try.f101) 1 (fun A h => resA Try.prog A h K [.tmp 4]) (fun _ _ _ => False) (fun A h => resA Try.prog A h K [.tmp 4]) (aargs [c0_1, list1_1] 0) h = t101 Try.prog c0_1 list1_1 h K := by kernel_rfl
theorem c101 (c0_1 : Value) (list1_1 : Value) (h : Heap) (K : Value → Heap → Prop) (H : t101 Try.prog c0_1 list1_1 h K) : callM Try.prog 101 #[c0_1, list1_1] h K :=
  callM_of_wpA mixed (fn := Try.f101) Try.func101 (c := bodyOf Try.f101) rfl (of_decide_eq_true (by kernel_rfl)) (anOf []) 10 12 (by kernel_rfl) rfl [.tmp 4] (by kernel_rfl) (args := [c0_1, list1_1]) (by rw [e101]; exact H)

/-! slices.ContainsFunc[[]int,int] -/
def t102 (P : Program) (s0_1 : Value) (f1_1 : Value) (h : Heap) (K : Value → Heap → Prop) : Prop :=
  callM P 159 #[s0_1, f1_1] h fun t7_1 h_1 =>
  pop P (binA .geq 3 t7_1 (Value.int IntKind.i64 0)) fun t8_1 =>
  K t8_1 h_1
theorem e102 (s0_1 : Value) (f1_1 : Value) (h : Heap) (K : Value → Heap → Prop) : wpA Try.prog 9 (anOf []) (bodyOf Try.f102) 1 (fun A h => resA Try.prog A h K [.tmp 4]) (fun _ _ _ => False) (fun A h => resA Try.prog A h K [.tmp 4]) (aargs [s0_1, f1_1] 0) h = t102 Try.prog s0_1 f1_1 h K := by kernel_rfl
theorem c102 (s0_1 : Value) (f1_1 : Value) (h : Heap) (K : Value → Heap → Prop) (H : t102 Try.prog s0_1 f1_1 h K) : callM Try.prog 102 #[s0_1, f1_1] h K :=
  callM_of_wpA mixed (fn := Try.f102) Try.func102 (c := bodyOf Try.f102) rfl (of_decide_eq_true (by kernel_rfl)) (anOf []) 7 9 (by kernel_rfl) rfl [.tmp 4] (by kernel_rfl) (args := [s0_1, f1_1]) (by rw [e102]; exact H)

/-! impl.EndOfLoad$1 -/
def t103 (P : Program) (c0_1 : Value) (h : Heap) (K : Value → Heap → Prop) : Prop :=
  pop P (binA .lss 3 c0_1 (Value.int IntKind.i64 0)) fun t4_1 =>
  K t4_1 h
theorem e103 (c0_1 : Value) (h : Heap) (K : Value → Heap → Prop) : wpA Try.prog 5 (anOf []) (bodyOf Try.f103) 1 (fun A h => resA Try.prog A h K [.tmp 2]) (fun _ _ _ => False) (fun A h => resA Try.prog A h K [.tmp 2]) (aargs [c0_1] 0) h = t103 Try.prog c0_1 h K := by kernel_rfl
theorem c103 (c0_1 : Value) (h : Heap) (K : Value → Heap → Prop) (H : t103 Try.prog c0_1 h K) : callM Try.prog 103 #[c0_1] h K :=
  callM_of_wpA mixed (fn := Try.f103) Try.func103 (c := bodyOf Try.f103) rfl (of_decide_eq_true (by kernel_rfl)) (anOf []) 4 5 (by kernel_rfl) rfl [.tmp 2] (by kernel_rfl) (args := [c0_1]) (by rw [e103]; exact H)

/-! spec.l1All -/
def t104 (P : Program) (l0_1 : Value) (lo1_1 : Value) (hi2_1 : Value) (h : Heap) (K : Value → Heap → Prop) : Prop :=
  pop P (lenS 25 3 l0_1) fun t10_1 =>
  ∃ (I_1 : List Value → Heap → Prop) (μ_1 : List Value → Heap → Nat), I_1 [(Value.int IntKind.i64 0)] h ∧
  ∀ (junk_1 : Nat → Value) (t11_1 : Value) (h_1 : Heap), I_1 [t11_1] h_1 →
  pop P (binA .lss 3 t11_1 t10_1) fun t12_1 =>
  condM t12_1
  (pop P (Instr.indexAt 25 l0_1 t11_1) fun t13_1 =>
  rop P (Instr.loadAt 3 t13_1) h_1 fun t14_1 =>
  callM P 117 #[t14_1, lo1_1, hi2_1] h_1 fun t18_1 h_2 =>
  pop P (Op.unary .not t18_1) fun t19_1 =>
  condM t19_1
  (K (Value.bool false) h_2)
  (pop P (binA .add 3 t11_1 (Value.int IntKind.i64 1)) fun t20_1 =>
  I_1 [t20_1] h_2 ∧ μ_1 [t20_1] h_2 < μ_1 [t11_1] h_1))
  (K (Value.bool true) h_1)
theorem e104 (l0_1 : Value) (lo1_1 : Value) (hi2_1 : Value) (h : Heap) (K : Value → Heap → Prop) : wpA Try.prog 21 (anOf [(26, [11])]) (bodyOf Try.f104) 1 (fun A h => resA Try.prog A h K [.tmp 6]) (fun _ _ _ => False) (fun A h => resA Try.prog A h K [.tmp 6]) (aargs [l0_1, lo1_1, hi2_1] 0) h = t104 Try.prog l0_1 lo1_1 hi2_1 h K := by kernel_rfl
theorem c104 (l0_1 : Value) (lo1_1 : Value) (hi2_1 : Value) (h : Heap) (K : Value → Heap → Prop) (H : t104 Try.prog l0_1 lo1_1 hi2_1 h K) : callM Try.prog 104 #[l0_1, lo1_1, hi2_1] h K :=
  callM_of_wpA mixed (fn := Try.f104) Try.func104 (c := bodyOf Try.f104) rfl (of_decide_eq_true (by kernel_rfl)) (anOf [(26, [11])]) 18 21 (by kernel_rfl) rfl [.tmp 6] (by kernel_rfl) (args := [l0_1, lo1_1, hi2_1]) (by rw [e104]; exact H)

/-! impl.hasSink -/
def t105 (P : Program) (g0_1 : Value) (sink1_1 : Value) (h : Heap) (K : Value → Heap → Prop) : Prop :=
  eop P (Instr.box 32 g0_1) h fun g2_1 h_1 =>
  rop P (Instr.loadAt 32 g2_1) h_1 fun t5_1 =>
  eop P (Instr.buildSlice 25 1 #[(0, sink1_1)]) h_1 fun t7_1 h_2 =>
  callM P 107 #[t5_1, t7_1] h_2 fun t8_1 h_3 =>
  guardM (asG t8_1 true) true (fun k_1 => rop P (Instr.loadAt 32 g2_1) h_3 fun t10_1 =>
  k_1 t10_1 h_3) h_3 fun t10_2 h_4 =>
  guardM (asG t8_1 true) true (fun k_2 => k_2 sink1_1 h_4) h_4 fun t11_1 h_5 =>
  guardM (asG t8_1 true) true (fun k_3 => callM P 160 #[t10_2, t11_1] h_5 fun t12_1 h_6 =>
  k_3 t12_1 h_6) h_5 fun t12_2 h_7 =>
  pop P (pickS t8_1 t12_2 (Value.bool false)) fun t13_1 =>
  K t13_1 h_7
theorem e105 (g0_1 : Value) (sink1_1 : Value) (h : Heap) (K : Value → Heap → Prop) : wpA Try.prog 14 (anOf []) (bodyOf Try.f105) 1 (fun A h => resA Try.prog A h K [.tmp 4]) (fun _ _ _ => False) (fun A h => resA Try.prog A h K [.tmp 4]) (aargs [g0_1, sink1_1] 0) h = t105 Try.prog g0_1 sink1_1 h K := by kernel_rfl
theorem c105 (g0_1 : Value) (sink1_1 : Value) (h : Heap) (K : Value → Heap → Prop) (H : t105 Try.prog g0_1 sink1_1 h K) : callM Try.prog 105 #[g0_1, sink1_1] h K :=
  callM_of_wpA mixed (fn := Try.f105) Try.func105 (c := bodyOf Try.f105) rfl (of_decide_eq_true (by kernel_rfl)) (anOf []) 12 14 (by kernel_rfl) rfl [.tmp 4] (by kernel_rfl) (args := [g0_1, sink1_1]) (by rw [e105]; exact H)

/-! (*spec.l1Cur).place -/
def t106 (P : Program) (c0_1 : Value) (g1_1 : Value) (h : Heap) (K : Value → Heap → Prop) : Prop :=
  eop P (Instr.box 32 g1_1) h fun g3_1 h_1 =>
  pop P (Instr.fieldAt 32 g3_1 0) fun t5_1 =>
  rop P (Instr.loadAt 22 t5_1) h_1 fun t6_1 =>
  pop P (lenS 22 3 t6_1) fun t7_1 =>
  pop P (binE .eql 3 (.tmp 7) (.const (Value.int IntKind.i64 0)) t7_1 (Value.int IntKind.i64 0)) fun t8_1 =>
  guardM (asG t8_1 false) false (fun k_1 => k_1 c0_1 h_1) h_1 fun t10_1 h_2 =>
  guardM (asG t8_1 false) false (fun k_2 => callM P 99 #[t10_1, (Value.int IntKind.i64 14)] h_2 fun t11_1 h_3 =>
  k_2 t11_1 h_3) h_2 fun t11_2 h_4 =>
  pop P (pickS t8_1 (Value.bool true) t11_2) fun t12_1 =>
  condM t12_1
  (pop P (Instr.fieldAt 32 g3_1 0) fun t14_1 =>
  rop P (Instr.loadAt 22 t14_1) h_4 fun t15_1 =>
  pop P (lenS 22 3 t15_1) fun t16_1 =>
  eop P (Instr.buildSlice 25 4 #[(0, (Value.int IntKind.i64 (-1))), (1, (Value.int IntKind.i64 0)), (2, t16_1), (3, (Value.int IntKind.i64 4611686018427387904))]) h_4 fun t17_1 h_5 =>
  callM P 101 #[c0_1, t17_1] h_5 fun t18_1 h_6 =>
  K t18_1 h_6)
  (pop P (Instr.fieldAt 32 g3_1 0) fun t20_1 =>
  rop P (Instr.loadAt 22 t20_1) h_4 fun t21_1 =>
  pop P (lenS 22 3 t21_1) fun t22_1 =>
  callM P 100 #[c0_1, t22_1] h_4 fun t23_1 h_7 =>
  K t23_1 h_7)
theorem e106 (c0_1 : Value) (g1_1 : Value) (h : Heap) (K : Value → Heap → Prop) : wpA Try.prog 24 (anOf []) (bodyOf Try.f106) 1 (fun A h => resA Try.prog A h K [.tmp 4]) (fun _ _ _ => False) (fun A h => resA Try.prog A h K [.tmp 4]) (aargs [c0_1, g1_1] 0) h = t106 Try.prog c0_1 g1_1 h K := by kernel_rfl
theorem c106 (c0_1 : Value) (g1_1 : Value) (h : Heap) (K : Value → Heap → Prop) (H : t106 Try.prog c0_1 g1_1 h K) : callM Try.prog 106 #[c0_1, g1_1] h K :=
  callM_of_wpA mixed (fn := Try.f106) Try.func106 (c := bodyOf Try.f106) rfl (of_decide_eq_true (by kernel_rfl)) (anOf []) 22 24 (by kernel_rfl) rfl [.tmp 4] (by kernel_rfl) (args := [c0_1, g1_1]) (by rw [e106]; exact H)

/-! impl.has -/
def t107 (P : Program) (g0_1 : Value) (places1_1 : Value) (h : Heap) (K : Value → Heap → Prop) : Prop :=
  eop P (Instr.box 32 g0_1) h fun g2_1 h_1 =>
  rop P (Instr.loadAt 32 g2_1) h_1 fun t5_1 =>
  callM P 88 #[t5_1] h_1 fun t6_1 h_2 =>
  guardM (asG t6_1 true) true (fun k_1 => k_1 places1_1 h_2) h_2 fun t8_1 h_3 =>
  guardM (asG t6_1 true) true (fun k_2 => pop P (Instr.makeFunc (Fn.func 161) #[] #[g2_1]) fun t9_1 =>
  k_2 t9_1 h_3) h_3 fun t9_2 h_4 =>
  guardM (asG t6_1 true) true (fun k_3 => callM P 102 #[t8_1, t9_2] h_4 fun t10_1 h_5 =>
  k_3 t10_1 h_5) h_4 fun t10_2 h_6 =>
  guardM (asG t6_1 true) true (fun k_4 => pop P (Op.unary .not t10_2) fun t11_1 =>
  k_4 t11_1 h_6) h_6 fun t11_2 h_7 =>
  pop P (pickS t6_1 t11_2 (Value.bool false)) fun t12_1 =>
  K t12_1 h_7
theorem e107 (g0_1 : Value) (places1_1 : Value) (h : Heap) (K : Value → Heap → Prop) : wpA Try.prog 13 (anOf []) (bodyOf Try.f107) 1 (fun A h => resA Try.prog A h K [.tmp 4]) (fun _ _ _ => False) (fun A h => resA Try.prog A h K [.tmp 4]) (aargs [g0_1, places1_1] 0) h = t107 Try.prog g0_1 places1_1 h K := by kernel_rfl
theorem c107 (g0_1 : Value) (places1_1 : Value) (h : Heap) (K : Value → Heap → Prop) (H : t107 Try.prog g0_1 places1_1 h K) : callM Try.prog 107 #[g0_1, places1_1] h K :=
  callM_of_wpA mixed (fn := Try.f107) Try.func107 (c := bodyOf Try.f107) rfl (of_decide_eq_true (by kernel_rfl)) (anOf []) 11 13 (by kernel_rfl) rfl [.tmp 4] (by kernel_rfl) (args := [g0_1, places1_1]) (by rw [e107]; exact H)

/-! (*impl.Load).move -/
def t108 (P : Program) (l0_1 : Value) (g1_1 : Value) (sink2_1 : Value) (p3_1 : Value) (h : Heap) (K : Value → Heap → Prop) : Prop :=
  eop P (Instr.box 32 g1_1) h fun g5_1 h_1 =>
  pop P (binE .eql 3 (.tmp 9) (.tmp 10) p3_1 sink2_1) fun t11_1 =>
  guardM (asG t11_1 false) false (fun k_1 => k_1 l0_1 h_1) h_1 fun t13_1 h_2 =>
  guardM (asG t11_1 false) false (fun k_2 => pop P (nilS t13_1) fun t14_1 =>
  k_2 t14_1 h_2) h_2 fun t14_2 h_3 =>
  guardM (asG t11_1 false) false (fun k_3 => pop P (Instr.fieldAt 34 t14_2 1) fun t15_1 =>
  k_3 t15_1 h_3) h_3 fun t15_2 h_4 =>
  guardM (asG t11_1 false) false (fun k_4 => rop P (Instr.loadAt 25 t15_2) h_4 fun t16_1 =>
  k_4 t16_1 h_4) h_4 fun t16_2 h_5 =>
  guardM (asG t11_1 false) false (fun k_5 => k_5 p3_1 h_5) h_5 fun t17_1 h_6 =>
  guardM (asG t11_1 false) false (fun k_6 => pop P (Instr.indexAt 25 t16_2 t17_1) fun t18_1 =>
  k_6 t18_1 h_6) h_6 fun t18_2 h_7 =>
  guardM (asG t11_1 false) false (fun k_7 => rop P (Instr.loadAt 3 t18_2) h_7 fun t19_1 =>
  k_7 t19_1 h_7) h_7 fun t19_2 h_8 =>
  guardM (asG t11_1 false) false (fun k_8 => pop P (binE .eql 3 (.tmp 19) (.const (Value.int IntKind.i64 0)) t19_2 (Value.int IntKind.i64 0)) fun t20_1 =>
  k_8 t20_1 h_8) h_8 fun t20_2 h_9 =>
  pop P (pickS t11_1 (Value.bool true) t20_2) fun t21_1 =>
  condM t21_1
  (K (Value.bool false) h_9)
  (rop P (Instr.loadAt 32 g5_1) h_9 fun t23_1 =>
  callM P 143 #[l0_1, t23_1, p3_1] h_9 fun t25_1 h_10 =>
  K (Value.bool true) h_10)
theorem e108 (l0_1 : Value) (g1_1 : Value) (sink2_1 : Value) (p3_1 : Value) (h : Heap) (K : Value → Heap → Prop) : wpA Try.prog 26 (anOf []) (bodyOf Try.f108) 1 (fun A h => resA Try.prog A h K [.tmp 8]) (fun _ _ _ => False) (fun A h => resA Try.prog A h K [.tmp 8]) (aargs [l0_1, g1_1, sink2_1, p3_1] 0) h = t108 Try.prog l0_1 g1_1 sink2_1 p3_1 h K := by kernel_rfl
theorem c108 (l0_1 : Value) (g1_1 : Value) (sink2_1 : Value) (p3_1 : Value) (h : Heap) (K : Value → Heap → Prop) (H : t108 Try.prog l0_1 g1_1 sink2_1 p3_1 h K) : callM Try.prog 108 #[l0_1, g1_1, sink2_1, p3_1] h K :=
  callM_of_wpA mixed (fn := Try.f108) Try.func108 (c := bodyOf Try.f108) rfl (of_decide_eq_true (by kernel_rfl)) (anOf []) 22 26 (by kernel_rfl) rfl [.tmp 8] (by kernel_rfl) (args := [l0_1, g1_1, sink2_1, p3_1]) (by rw [e108]; exact H)

/-! spec.chOwn -/
def t109 (P : Program) (l0_1 : Value) (h : Heap) (K : Value → Heap → Prop) : Prop :=
  eop P (Instr.box 34 l0_1) h fun l1_1 h_1 =>
  eop P (Instr.alloc 34 true (.tuple #[])) h_1 fun t2_1 h_2 =>
  pop P (Instr.fieldAt 34 l1_1 0) fun t3_1 =>
  rop P (Instr.loadAt 25 t3_1) h_2 fun t4_1 =>
  pop P (Instr.fieldAt 34 l1_1 1) fun t6_1 =>
  rop P (Instr.loadAt 25 t6_1) h_2 fun t7_1 =>
  callM P 130 #[t4_1] h_2 fun t5_1 h_3 =>
  (∀ w : World, w.heap = h_3 → (Instr.loadAt 25 t6_1).run P w = .ok t7_1 w) ∧
  callM P 130 #[t7_1] h_3 fun t8_1 h_4 =>
  pop P (Instr.build 34 #[(0, t5_1), (1, t8_1)]) fun t9_1 =>
  uop P (Instr.storeAt 34 t2_1 t9_1) h_4 fun u_1 h_5 =>
  rop P (Instr.loadAt 34 t2_1) h_5 fun r_1 =>
  K r_1 h_5
theorem e109 (l0_1 : Value) (h : Heap) (K : Value → Heap → Prop) : wpA Try.prog 10 (anOf []) (bodyOf Try.f109) 1 (fun A h => resA Try.prog A h K [.cell 2 34]) (fun _ _ _ => False) (fun A h => resA Try.prog A h K [.cell 2 34]) (aargs [l0_1] 0) h = t109 Try.prog l0_1 h K := by kernel_rfl
theorem c109 (l0_1 : Value) (h : Heap) (K : Value → Heap → Prop) (H : t109 Try.prog l0_1 h K) : callM Try.prog 109 #[l0_1] h K :=
  callM_of_wpA mixed (fn := Try.f109) Try.func109 (c := bodyOf Try.f109) rfl (of_decide_eq_true (by kernel_rfl)) (anOf []) 9 10 (by kernel_rfl) rfl [.cell 2 34] (by kernel_rfl) (args := [l0_1]) (by rw [e109]; exact H)

/-! spec.chMove -/
def t110 (P : Program) (g0_1 : Value) (l1_1 : Value) (p2_1 : Value) (h : Heap) (K : Value → Heap → Prop) : Prop :=
  eop P (Instr.box 32 g0_1) h fun g3_1 h_1 =>
  eop P (Instr.box 34 l1_1) h_1 fun l4_1 h_2 =>
  pop P (Instr.fieldAt 32 g3_1 0) fun t7_1 =>
  rop P (Instr.loadAt 22 t7_1) h_2 fun t8_1 =>
  pop P (Instr.indexAt 22 t8_1 p2_1) fun t10_1 =>
  rop P (Instr.loadAt 25 t10_1) h_2 fun t11_1 =>
  pop P (Instr.fieldAt 34 l4_1 0) fun t12_1 =>
  rop P (Instr.loadAt 25 t12_1) h_2 fun t13_1 =>
  pop P (Instr.fieldAt 34 l4_1 0) fun t15_1 =>
  rop P (Instr.loadAt 25 t15_1) h_2 fun t16_1 =>
  pop P (Instr.indexAt 25 t16_1 p2_1) fun t18_1 =>
  rop P (Instr.loadAt 3 t18_1) h_2 fun t19_1 =>
  pop P (binA .add 3 t19_1 (Value.int IntKind.i64 1)) fun t20_1 =>
  pop P (lenS 25 3 t11_1) fun t22_1 =>
  pop P (binA .rem 3 t20_1 t22_1) fun t23_1 =>
  pop P (Instr.indexAt 25 t13_1 p2_1) fun t24_1 =>
  uop P (Instr.storeAt 3 t24_1 t23_1) h_2 fun u_1 h_3 =>
  pop P (Instr.fieldAt 34 l4_1 1) fun t25_1 =>
  rop P (Instr.loadAt 25 t25_1) h_3 fun t26_1 =>
  pop P (Instr.indexAt 25 t26_1 p2_1) fun t28_1 =>
  rop P (Instr.loadAt 3 t28_1) h_3 fun t29_1 =>
  pop P (binA .sub 3 t29_1 (Value.int IntKind.i64 1)) fun t30_1 =>
  pop P (Instr.indexAt 25 t26_1 p2_1) fun t31_1 =>
  uop P (Instr.storeAt 3 t31_1 t30_1) h_3 fun u_2 h_4 =>
  pop P (Instr.fieldAt 34 l4_1 1) fun t32_1 =>
  rop P (Instr.loadAt 25 t32_1) h_4 fun t33_1 =>
  pop P (Instr.fieldAt 34 l4_1 0) fun t35_1 =>
  rop P (Instr.loadAt 25 t35_1) h_4 fun t36_1 =>
  pop P (Instr.indexAt 25 t36_1 p2_1) fun t38_1 =>
  rop P (Instr.loadAt 3 t38_1) h_4 fun t39_1 =>
  pop P (Instr.indexAt 25 t11_1 t39_1) fun t40_1 =>
  rop P (Instr.loadAt 3 t40_1) h_4 fun t41_1 =>
  pop P (Instr.indexAt 25 t33_1 t41_1) fun t42_1 =>
  rop P (Instr.loadAt 3 t42_1) h_4 fun t43_1 =>
  pop P (binA .add 3 t43_1 (Value.int IntKind.i64 1)) fun t44_1 =>
  pop P (Instr.indexAt 25 t33_1 t41_1) fun t45_1 =>
  uop P (Instr.storeAt 3 t45_1 t44_1) h_4 fun u_3 h_5 =>
  K (.tuple #[]) h_5
theorem e110 (g0_1 : Value) (l1_1 : Value) (p2_1 : Value) (h : Heap) (K : Value → Heap → Prop) : wpA Try.prog 46 (anOf []) (bodyOf Try.f110) 1 (fun A h => resA Try.prog A h K []) (fun _ _ _ => False) (fun A h => resA Try.prog A h K []) (aargs [g0_1, l1_1, p2_1] 0) h = t110 Try.prog g0_1 l1_1 p2_1 h K := by kernel_rfl
theorem c110 (g0_1 : Value) (l1_1 : Value) (p2_1 : Value) (h : Heap) (K : Value → Heap → Prop) (H : t110 Try.prog g0_1 l1_1 p2_1 h K) : callM Try.prog 110 #[g0_1, l1_1, p2_1] h K :=
  callM_of_wpA mixed (fn := Try.f110) Try.func110 (c := bodyOf Try.f110) rfl (of_decide_eq_true (by kernel_rfl)) (anOf []) 43 46 (by kernel_rfl) rfl [] (by kernel_rfl) (args := [g0_1, l1_1, p2_1]) (by rw [e110]; exact H)

/-! spec.chSink -/
def t111 (P : Program) (g0_1 : Value) (sink1_1 : Value) (h : Heap) (K : Value → Heap → Prop) : Prop :=
  eop P (Instr.box 32 g0_1) h fun g2_1 h_1 =>
  rop P (Instr.loadAt 32 g2_1) h_1 fun t5_1 =>
  callM P 116 #[t5_1, sink1_1] h_1 fun t7_1 h_2 =>
  guardM (asG t7_1 true) true (fun k_1 => rop P (Instr.loadAt 32 g2_1) h_2 fun t9_1 =>
  k_1 t9_1 h_2) h_2 fun t9_2 h_3 =>
  guardM (asG t7_1 true) true (fun k_2 => k_2 sink1_1 h_3) h_3 fun t10_1 h_4 =>
  guardM (asG t7_1 true) true (fun k_3 => callM P 162 #[t9_2, t10_1] h_4 fun t11_1 h_5 =>
  k_3 t11_1 h_5) h_4 fun t11_2 h_6 =>
  pop P (pickS t7_1 t11_2 (Value.bool false)) fun t12_1 =>
  K t12_1 h_6
theorem e111 (g0_1 : Value) (sink1_1 : Value) (h : Heap) (K : Value → Heap → Prop) : wpA Try.prog 13 (anOf []) (bodyOf Try.f111) 1 (fun A h => resA Try.prog A h K [.tmp 4]) (fun _ _ _ => False) (fun A h => resA Try.prog A h K [.tmp 4]) (aargs [g0_1, sink1_1] 0) h = t111 Try.prog g0_1 sink1_1 h K := by kernel_rfl
theorem c111 (g0_1 : Value) (sink1_1 : Value) (h : Heap) (K : Value → Heap → Prop) (H : t111 Try.prog g0_1 sink1_1 h K) : callM Try.prog 111 #[g0_1, sink1_1] h K :=
  callM_of_wpA mixed (fn := Try.f111) Try.func111 (c := bodyOf Try.f111) rfl (of_decide_eq_true (by kernel_rfl)) (anOf []) 11 13 (by kernel_rfl) rfl [.tmp 4] (by kernel_rfl) (args := [g0_1, sink1_1]) (by rw [e111]; exact H)

/-! impl.in -/
def t113 (P : Program) (n0_1 : Value) (low1_1 : Value) (high2_1 : Value) (h : Heap) (K : Value → Heap → Prop) : Prop :=
  pop P (binA .leq 3 low1_1 n0_1) fun t9_1 =>
  guardM (asG t9_1 true) true (fun k_1 => k_1 n0_1 h) h fun t11_1 h_1 =>
  guardM (asG t9_1 true) true (fun k_2 => k_2 high2_1 h_1) h_1 fun t12_1 h_2 =>
  guardM (asG t9_1 true) true (fun k_3 => pop P (binA .leq 3 t11_1 t12_1) fun t13_1 =>
  k_3 t13_1 h_2) h_2 fun t13_2 h_3 =>
  pop P (pickS t9_1 t13_2 (Value.bool false)) fun t14_1 =>
  K t14_1 h_3
theorem e113 (n0_1 : Value) (low1_1 : Value) (high2_1 : Value) (h : Heap) (K : Value → Heap → Prop) : wpA Try.prog 15 (anOf []) (bodyOf Try.f113) 1 (fun A h => resA Try.prog A h K [.tmp 6]) (fun _ _ _ => False) (fun A h => resA Try.prog A h K [.tmp 6]) (aargs [n0_1, low1_1, high2_1] 0) h = t113 Try.prog n0_1 low1_1 high2_1 h K := by kernel_rfl
theorem c113 (n0_1 : Value) (low1_1 : Value) (high2_1 : Value) (h : Heap) (K : Value → Heap → Prop) (H : t113 Try.prog n0_1 low1_1 high2_1 h K) : callM Try.prog 113 #[n0_1, low1_1, high2_1] h K :=
  callM_of_wpA mixed (fn := Try.f113) Try.func113 (c := bodyOf Try.f113) rfl (of_decide_eq_true (by kernel_rfl)) (anOf []) 12 15 (by kernel_rfl) rfl [.tmp 6] (by kernel_rfl) (args := [n0_1, low1_1, high2_1]) (by rw [e113]; exact H)

/-! spec.grPlace -/
def t116 (P : Program) (g0_1 : Value) (p1_1 : Value) (h : Heap) (K : Value → Heap → Prop) : Prop :=
  eop P (Instr.box 32 g0_1) h fun g2_1 h_1 =>
  rop P (Instr.loadAt 32 g2_1) h_1 fun t5_1 =>
  callM P 165 #[t5_1] h_1 fun t6_1 h_2 =>
  guardM (asG t6_1 true) true (fun k_1 => k_1 p1_1 h_2) h_2 fun t8_1 h_3 =>
  guardM (asG t6_1 true) true (fun k_2 => pop P (Instr.fieldAt 32 g2_1 0) fun t9_1 =>
  k_2 t9_1 h_3) h_3 fun t9_2 h_4 =>
  guardM (asG t6_1 true) true (fun k_3 => rop P (Instr.loadAt 22 t9_2) h_4 fun t10_1 =>
  k_3 t10_1 h_4) h_4 fun t10_2 h_5 =>
  guardM (asG t6_1 true) true (fun k_4 => pop P (lenS 22 3 t10_2) fun t11_1 =>
  k_4 t11_1 h_5) h_5 fun t11_2 h_6 =>
  guardM (asG t6_1 true) true (fun k_5 => pop P (binA .sub 3 t11_2 (Value.int IntKind.i64 1)) fun t12_1 =>
  k_5 t12_1 h_6) h_6 fun t12_2 h_7 =>
  guardM (asG t6_1 true) true (fun k_6 => callM P 117 #[t8_1, (Value.int IntKind.i64 0), t12_2] h_7 fun t13_1 h_8 =>
  k_6 t13_1 h_8) h_7 fun t13_2 h_9 =>
  pop P (pickS t6_1 t13_2 (Value.bool false)) fun t14_1 =>
  K t14_1 h_9
theorem e116 (g0_1 : Value) (p1_1 : Value) (h : Heap) (K : Value → Heap → Prop) : wpA Try.prog 15 (anOf []) (bodyOf Try.f116) 1 (fun A h => resA Try.prog A h K [.tmp 4]) (fun _ _ _ => False) (fun A h => resA Try.prog A h K [.tmp 4]) (aargs [g0_1, p1_1] 0) h = t116 Try.prog g0_1 p1_1 h K := by kernel_rfl
theorem c116 (g0_1 : Value) (p1_1 : Value) (h : Heap) (K : Value → Heap → Prop) (H : t116 Try.prog g0_1 p1_1 h K) : callM Try.prog 116 #[g0_1, p1_1] h K :=
  callM_of_wpA mixed (fn := Try.f116) Try.func116 (c := bodyOf Try.f116) rfl (of_decide_eq_true (by kernel_rfl)) (anOf []) 13 15 (by kernel_rfl) rfl [.tmp 4] (by kernel_rfl) (args := [g0_1, p1_1]) (by rw [e116]; exact H)

/-! spec.l1In -/
def t117 (P : Program) (n0_1 : Value) (lo1_1 : Value) (hi2_1 : Value) (h : Heap) (K : Value → Heap → Prop) : Prop :=
  pop P (binA .geq 3 n0_1 lo1_1) fun t9_1 =>
  guardM (asG t9_1 true) true (fun k_1 => k_1 n0_1 h) h fun t11_1 h_1 =>
  guardM (asG t9_1 true) true (fun k_2 => k_2 hi2_1 h_1) h_1 fun t12_1 h_2 =>
  guardM (asG t9_1 true) true (fun k_3 => pop P (binA .leq 3 t11_1 t12_1) fun t13_1 =>
  k_3 t13_1 h_2) h_2 fun t13_2 h_3 =>
  pop P (pickS t9_1 t13_2 (Value.bool false)) fun t14_1 =>
  K t14_1 h_3
theorem e117 (n0_1 : Value) (lo1_1 : Value) (hi2_1 : Value) (h : Heap) (K : Value → Heap → Prop) : wpA Try.prog 15 (anOf []) (bodyOf Try.f117) 1 (fun A h => resA Try.prog A h K [.tmp 6]) (fun _ _ _ => False) (fun A h => resA Try.prog A h K [.tmp 6]) (aargs [n0_1, lo1_1, hi2_1] 0) h = t117 Try.prog n0_1 lo1_1 hi2_1 h K := by kernel_rfl
theorem c117 (n0_1 : Value) (lo1_1 : Value) (hi2_1 : Value) (h : Heap) (K : Value → Heap → Prop) (H : t117 Try.prog n0_1 lo1_1 hi2_1 h K) : callM Try.prog 117 #[n0_1, lo1_1, hi2_1] h K :=
  callM_of_wpA mixed (fn := Try.f117) Try.func117 (c := bodyOf Try.f117) rfl (of_decide_eq_true (by kernel_rfl)) (anOf []) 12 15 (by kernel_rfl) rfl [.tmp 6] (by kernel_rfl) (args := [n0_1, lo1_1, hi2_1]) (by rw [e117]; exact H)

/-! spec.grCycle -/
def t124 (P : Program) (n0_1 : Value) (both1_1 : Value) (h : Heap) (K : Value → Heap → Prop) : Prop :=
  eop P (Instr.alloc 32 true (.tuple #[])) h fun t4_1 h_1 =>
  pop P (Instr.build 32 #[]) fun t8_1 =>
  eop P (Instr.alloc 32 true (.tuple #[])) h_1 fun g5_1 h_2 =>
  uop P (Instr.storeAt 32 g5_1 t8_1) h_2 fun u_1 h_3 =>
  ∃ (I_1 : List Value → Heap → Prop) (μ_1 : List Value → Heap → Nat), I_1 [(Value.int IntKind.i64 0)] h_3 ∧
  ∀ (junk_1 : Nat → Value) (p6_1 : Value) (h_4 : Heap), I_1 [p6_1] h_4 →
  pop P (binA .lss 3 p6_1 n0_1) fun t11_1 =>
  condM t11_1
  (pop P (binA .add 3 p6_1 (Value.int IntKind.i64 1)) fun t15_1 =>
  pop P (binA .rem 3 t15_1 n0_1) fun t17_1 =>
  eop P (Instr.buildSlice 25 1 #[(0, t17_1)]) h_4 fun t18_1 h_5 =>
  ∃ J_1 : List Value → Heap → Prop, (condM both1_1
  (pop P (binA .add 3 p6_1 n0_1) fun t23_1 =>
  pop P (binA .sub 3 t23_1 (Value.int IntKind.i64 1)) fun t24_1 =>
  pop P (binA .rem 3 t24_1 n0_1) fun t26_1 =>
  eop P (Instr.buildSlice 25 1 #[(0, t26_1)]) h_5 fun t27_1 h_6 =>
  eop P (appS 25 25 25 t18_1 t27_1) h_6 fun t28_1 h_7 =>
  J_1 [t28_1] h_7)
  (J_1 [t18_1] h_5)) ∧
  ∀ (junk_2 : Nat → Value) (list7_1 : Value) (h_8 : Heap), J_1 [list7_1] h_8 →
  pop P (Instr.fieldAt 32 g5_1 0) fun t29_1 =>
  rop P (Instr.loadAt 22 t29_1) h_8 fun t30_1 =>
  eop P (Instr.buildSlice 22 1 #[(0, list7_1)]) h_8 fun t32_1 h_9 =>
  eop P (appS 22 22 22 t30_1 t32_1) h_9 fun t33_1 h_10 =>
  pop P (Instr.fieldAt 32 g5_1 0) fun t34_1 =>
  uop P (Instr.storeAt 22 t34_1 t33_1) h_10 fun u_2 h_11 =>
  pop P (binA .add 3 p6_1 (Value.int IntKind.i64 1)) fun t13_1 =>
  I_1 [t13_1] h_11 ∧ μ_1 [t13_1] h_11 < μ_1 [p6_1] h_4)
  (rop P (Instr.loadAt 32 g5_1) h_4 fun t35_1 =>
  uop P (Instr.storeAt 32 t4_1 t35_1) h_4 fun u_3 h_12 =>
  rop P (Instr.loadAt 32 t4_1) h_12 fun r_1 =>
  K r_1 h_12)
theorem e124 (n0_1 : Value) (both1_1 : Value) (h : Heap) (K : Value → Heap → Prop) : wpA Try.prog 36 (anOf [(58, [6]), (1865, [7])]) (bodyOf Try.f124) 1 (fun A h => resA Try.prog A h K [.cell 4 32]) (fun _ _ _ => False) (fun A h => resA Try.prog A h K [.cell 4 32]) (aargs [n0_1, both1_1] 0) h = t124 Try.prog n0_1 both1_1 h K := by kernel_rfl
theorem c124 (n0_1 : Value) (both1_1 : Value) (h : Heap) (K : Value → Heap → Prop) (H : t124 Try.prog n0_1 both1_1 h K) : callM Try.prog 124 #[n0_1, both1_1] h K :=
  callM_of_wpA mixed (fn := Try.f124) Try.func124 (c := bodyOf Try.f124) rfl (of_decide_eq_true (by kernel_rfl)) (anOf [(58, [6]), (1865, [7])]) 34 36 (by kernel_rfl) rfl [.cell 4 32] (by kernel_rfl) (args := [n0_1, both1_1]) (by rw [e124]; exact H)

/-! spec.l1Own -/
def t130 (P : Program) (l0_1 : Value) (h : Heap) (K : Value → Heap → Prop) : Prop :=
  eop P (Instr.buildSlice 25 0 #[]) h fun t3_1 h_1 =>
  eop P (appS 25 25 25 t3_1 l0_1) h_1 fun t5_1 h_2 =>
  K t5_1 h_2
theorem e130 (l0_1 : Value) (h : Heap) (K : Value → Heap → Prop) : wpA Try.prog 6 (anOf []) (bodyOf Try.f130) 1 (fun A h => resA Try.prog A h K [.tmp 2]) (fun _ _ _ => False) (fun A h => resA Try.prog A h K [.tmp 2]) (aargs [l0_1] 0) h = t130 Try.prog l0_1 h K := by kernel_rfl
theorem c130 (l0_1 : Value) (h : Heap) (K : Value → Heap → Prop) (H : t130 Try.prog l0_1 h K) : callM Try.prog 130 #[l0_1] h K :=
  callM_of_wpA mixed (fn := Try.f130) Try.func130 (c := bodyOf Try.f130) rfl (of_decide_eq_true (by kernel_rfl)) (anOf []) 5 6 (by kernel_rfl) rfl [.tmp 2] (by kernel_rfl) (args := [l0_1]) (by rw [e130]; exact H)

/-! spec.waGood -/
def t138 (P : Program) (g0_1 : Value) (w1_1 : Value) (h : Heap) (K : Value → Heap → Prop) : Prop :=
  eop P (Instr.box 32 g0_1) h fun g2_1 h_1 =>
  eop P (Instr.box 132 w1_1) h_1 fun w3_1 h_2 =>
  rop P (Instr.loadAt 32 g2_1) h_2 fun t7_1 =>
  pop P (Instr.fieldAt 132 w3_1 1) fun t8_1 =>
  rop P (Instr.loadAt 3 t8_1) h_2 fun t9_1 =>
  callM P 116 #[t7_1, t9_1] h_2 fun t10_1 h_3 =>
  pop P (Op.unary .not t10_1) fun t11_1 =>
  guardM (asG t11_1 false) false (fun k_1 => pop P (Instr.fieldAt 132 w3_1 0) fun t13_1 =>
  k_1 t13_1 h_3) h_3 fun t13_2 h_4 =>
  guardM (asG t11_1 false) false (fun k_2 => rop P (Instr.loadAt 25 t13_2) h_4 fun t14_1 =>
  k_2 t14_1 h_4) h_4 fun t14_2 h_5 =>
  guardM (asG t11_1 false) false (fun k_3 => pop P (lenS 25 3 t14_2) fun t15_1 =>
  k_3 t15_1 h_5) h_5 fun t15_2 h_6 =>
  guardM (asG t11_1 false) false (fun k_4 => pop P (Instr.fieldAt 32 g2_1 0) fun t16_1 =>
  k_4 t16_1 h_6) h_6 fun t16_2 h_7 =>
  guardM (asG t11_1 false) false (fun k_5 => rop P (Instr.loadAt 22 t16_2) h_7 fun t17_1 =>
  k_5 t17_1 h_7) h_7 fun t17_2 h_8 =>
  guardM (asG t11_1 false) false (fun k_6 => pop P (lenS 22 3 t17_2) fun t18_1 =>
  k_6 t18_1 h_8) h_8 fun t18_2 h_9 =>
  guardM (asG t11_1 false) false (fun k_7 => pop P (binE .neq 3 (.tmp 15) (.tmp 18) t15_2 t18_2) fun t19_1 =>
  k_7 t19_1 h_9) h_9 fun t19_2 h_10 =>
  pop P (pickS t11_1 (Value.bool true) t19_2) fun t20_1 =>
  condM t20_1
  (K (Value.bool false) h_10)
  (pop P (Instr.fieldAt 32 g2_1 0) fun t21_1 =>
  rop P (Instr.loadAt 22 t21_1) h_10 fun t22_1 =>
  pop P (lenS 22 3 t22_1) fun t23_1 =>
  ∃ (I_1 : List Value → Heap → Prop) (μ_1 : List Value → Heap → Nat), I_1 [(Value.int IntKind.i64 0)] h_10 ∧
  ∀ (junk_1 : Nat → Value) (t24_1 : Value) (h_11 : Heap), I_1 [t24_1] h_11 →
  pop P (binA .lss 3 t24_1 t23_1) fun t25_1 =>
  condM t25_1
  (pop P (Instr.indexAt 22 t22_1 t24_1) fun t27_1 =>
  rop P (Instr.loadAt 25 t27_1) h_11 fun t28_1 =>
  pop P (Instr.fieldAt 132 w3_1 0) fun t29_1 =>
  rop P (Instr.loadAt 25 t29_1) h_11 fun t30_1 =>
  pop P (Instr.indexAt 25 t30_1 t24_1) fun t32_1 =>
  rop P (Instr.loadAt 3 t32_1) h_11 fun t33_1 =>
  pop P (lenS 25 3 t28_1) fun t35_1 =>
  pop P (binA .sub 3 t35_1 (Value.int IntKind.i64 1)) fun t36_1 =>
  callM P 173 #[(Value.int IntKind.i64 0), t36_1] h_11 fun t37_1 h_12 =>
  (∀ w : World, w.heap = h_12 → (Instr.loadAt 3 t32_1).run P w = .ok t33_1 w) ∧
  (∀ w : World, w.heap = h_12 → (Instr.loadAt 25 t29_1).run P w = .ok t30_1 w) ∧
  callM P 117 #[t33_1, (Value.int IntKind.i64 0), t37_1] h_12 fun t38_1 h_13 =>
  (∀ w : World, w.heap = h_13 → (Instr.loadAt 25 t29_1).run P w = .ok t30_1 w) ∧
  pop P (Op.unary .not t38_1) fun t39_1 =>
  condM t39_1
  (K (Value.bool false) h_13)
  (pop P (binA .add 3 t24_1 (Value.int IntKind.i64 1)) fun t40_1 =>
  I_1 [t40_1] h_13 ∧ μ_1 [t40_1] h_13 < μ_1 [t24_1] h_11))
  (K (Value.bool true) h_11))
theorem e138 (g0_1 : Value) (w1_1 : Value) (h : Heap) (K : Value → Heap → Prop) : wpA Try.prog 41 (anOf [(58, [24])]) (bodyOf Try.f138) 1 (fun A h => resA Try.prog A h K [.tmp 4]) (fun _ _ _ => False) (fun A h => resA Try.prog A h K [.tmp 4]) (aargs [g0_1, w1_1] 0) h = t138 Try.prog g0_1 w1_1 h K := by kernel_rfl
theorem c138 (g0_1 : Value) (w1_1 : Value) (h : Heap) (K : Value → Heap → Prop) (H : t138 Try.prog g0_1 w1_1 h K) : callM Try.prog 138 #[g0_1, w1_1] h K :=
  callM_of_wpA mixed (fn := Try.f138) Try.func138 (c := bodyOf Try.f138) rfl (of_decide_eq_true (by kernel_rfl)) (anOf [(58, [24])]) 39 41 (by kernel_rfl) rfl [.tmp 4] (by kernel_rfl) (args := [g0_1, w1_1]) (by rw [e138]; exact H)

/-! spec.chSum -/
def t139 (P : Program) (list0_1 : Value) (h : Heap) (K : Value → Heap → Prop) : Prop :=
  pop P (lenS 25 3 list0_1) fun t7_1 =>
  ∃ (I_1 : List Value → Heap → Prop) (μ_1 : List Value → Heap → Nat), I_1 [(Value.int IntKind.i64 0), (Value.int IntKind.i64 0)] h ∧
  ∀ (junk_1 : Nat → Value) (sum3_1 : Value) (t8_1 : Value) (h_1 : Heap), I_1 [sum3_1, t8_1] h_1 →
  pop P (binA .lss 3 t8_1 t7_1) fun t9_1 =>
  condM t9_1
  (pop P (Instr.indexAt 25 list0_1 t8_1) fun t10_1 =>
  rop P (Instr.loadAt 3 t10_1) h_1 fun t11_1 =>
  pop P (binA .add 3 sum3_1 t11_1) fun t14_1 =>
  pop P (binA .add 3 t8_1 (Value.int IntKind.i64 1)) fun t15_1 =>
  I_1 [t14_1, t15_1] h_1 ∧ μ_1 [t14_1, t15_1] h_1 < μ_1 [sum3_1, t8_1] h_1)
  (K sum3_1 h_1)
theorem e139 (list0_1 : Value) (h : Heap) (K : Value → Heap → Prop) : wpA Try.prog 17 (anOf [(58, [3, 8])]) (bodyOf Try.f139) 1 (fun A h => resA Try.prog A h K [.tmp 2]) (fun _ _ _ => False) (fun A h => resA Try.prog A h K [.tmp 2]) (aargs [list0_1] 0) h = t139 Try.prog list0_1 h K := by kernel_rfl
theorem c139 (list0_1 : Value) (h : Heap) (K : Value → Heap → Prop) (H : t139 Try.prog list0_1 h K) : callM Try.prog 139 #[list0_1] h K :=
  callM_of_wpA mixed (fn := Try.f139) Try.func139 (c := bodyOf Try.f139) rfl (of_decide_eq_true (by kernel_rfl)) (anOf [(58, [3, 8])]) 16 17 (by kernel_rfl) rfl [.tmp 2] (by kernel_rfl) (args := [list0_1]) (by rw [e139]; exact H)

/-! impl.areRotors -/
def t140 (P : Program) (g0_1 : Value) (rotors1_1 : Value) (h : Heap) (K : Value → Heap → Prop) : Prop :=
  eop P (Instr.box 32 g0_1) h fun g2_1 h_1 =>
  rop P (Instr.loadAt 32 g2_1) h_1 fun t5_1 =>
  pop P (Instr.build 132 #[(0, rotors1_1), (1, (Value.int IntKind.i64 0))]) fun t7_1 =>
  callM P 174 #[t5_1, t7_1] h_1 fun t8_1 h_2 =>
  K t8_1 h_2
theorem e140 (g0_1 : Value) (rotors1_1 : Value) (h : Heap) (K : Value → Heap → Prop) : wpA Try.prog 9 (anOf []) (bodyOf Try.f140) 1 (fun A h => resA Try.prog A h K [.tmp 4]) (fun _ _ _ => False) (fun A h => resA Try.prog A h K [.tmp 4]) (aargs [g0_1, rotors1_1] 0) h = t140 Try.prog g0_1 rotors1_1 h K := by kernel_rfl
theorem c140 (g0_1 : Value) (rotors1_1 : Value) (h : Heap) (K : Value → Heap → Prop) (H : t140 Try.prog g0_1 rotors1_1 h K) : callM Try.prog 140 #[g0_1, rotors1_1] h K :=
  callM_of_wpA mixed (fn := Try.f140) Try.func140 (c := bodyOf Try.f140) rfl (of_decide_eq_true (by kernel_rfl)) (anOf []) 7 9 (by kernel_rfl) rfl [.tmp 4] (by kernel_rfl) (args := [g0_1, rotors1_1]) (by rw [e140]; exact H)

/-! impl.areChips -/
def t141 (P : Program) (g0_1 : Value) (chips1_1 : Value) (h : Heap) (K : Value → Heap → Prop) : Prop :=
  eop P (Instr.box 32 g0_1) h fun g2_1 h_1 =>
  pop P (lenS 25 3 chips1_1) fun t6_1 =>
  pop P (Instr.fieldAt 32 g2_1 0) fun t7_1 =>
  rop P (Instr.loadAt 22 t7_1) h_1 fun t8_1 =>
  pop P (lenS 22 3 t8_1) fun t9_1 =>
  pop P (binE .eql 3 (.tmp 6) (.tmp 9) t6_1 t9_1) fun t10_1 =>
  guardM (asG t10_1 true) true (fun k_1 => k_1 chips1_1 h_1) h_1 fun t12_1 h_2 =>
  guardM (asG t10_1 true) true (fun k_2 => callM P 102 #[t12_1, (.func (.func 175) #[] #[])] h_2 fun t13_1 h_3 =>
  k_2 t13_1 h_3) h_2 fun t13_2 h_4 =>
  guardM (asG t10_1 true) true (fun k_3 => pop P (Op.unary .not t13_2) fun t14_1 =>
  k_3 t14_1 h_4) h_4 fun t14_2 h_5 =>
  pop P (pickS t10_1 t14_2 (Value.bool false)) fun t15_1 =>
  K t15_1 h_5
theorem e141 (g0_1 : Value) (chips1_1 : Value) (h : Heap) (K : Value → Heap → Prop) : wpA Try.prog 16 (anOf []) (bodyOf Try.f141) 1 (fun A h => resA Try.prog A h K [.tmp 4]) (fun _ _ _ => False) (fun A h => resA Try.prog A h K [.tmp 4]) (aargs [g0_1, chips1_1] 0) h = t141 Try.prog g0_1 chips1_1 h K := by kernel_rfl
theorem c141 (g0_1 : Value) (chips1_1 : Value) (h : Heap) (K : Value → Heap → Prop) (H : t141 Try.prog g0_1 chips1_1 h K) : callM Try.prog 141 #[g0_1, chips1_1] h K :=
  callM_of_wpA mixed (fn := Try.f141) Try.func141 (c := bodyOf Try.f141) rfl (of_decide_eq_true (by kernel_rfl)) (anOf []) 14 16 (by kernel_rfl) rfl [.tmp 4] (by kernel_rfl) (args := [g0_1, chips1_1]) (by rw [e141]; exact H)

/-! slices.Clone[[]int,int] -/
def t142 (P : Program) (s0_1 : Value) (h : Heap) (K : Value → Heap → Prop) : Prop :=
  pop P (binE .eql 25 (.tmp 3) (.const (Value.slice none 0 0)) s0_1 (Value.slice none 0 0)) fun t4_1 =>
  condM t4_1
  (K (Value.slice none 0 0) h)
  (eop P (Instr.buildSlice 25 0 #[]) h fun t5_1 h_1 =>
  eop P (appS 25 25 25 t5_1 s0_1) h_1 fun t7_1 h_2 =>
  K t7_1 h_2)
theorem e142 (s0_1 : Value) (h : Heap) (K : Value → Heap → Prop) : wpA Try.prog 8 (anOf []) (bodyOf Try.f142) 1 (fun A h => resA Try.prog A h K [.tmp 2]) (fun _ _ _ => False) (fun A h => resA Try.prog A h K [.tmp 2]) (aargs [s0_1] 0) h = t142 Try.prog s0_1 h K := by kernel_rfl
theorem c142 (s0_1 : Value) (h : Heap) (K : Value → Heap → Prop) (H : t142 Try.prog s0_1 h K) : callM Try.prog 142 #[s0_1] h K :=
  callM_of_wpA mixed (fn := Try.f142) Try.func142 (c := bodyOf Try.f142) rfl (of_decide_eq_true (by kernel_rfl)) (anOf []) 7 8 (by kernel_rfl) rfl [.tmp 2] (by kernel_rfl) (args := [s0_1]) (by rw [e142]; exact H)

/-! (*impl.Load).send -/
def t143 (P : Program) (l0_1 : Value) (g1_1 : Value) (p2_1 : Value) (h : Heap) (K : Value → Heap → Prop) : Prop :=
  eop P (Instr.box 32 g1_1) h fun g4_1 h_1 =>
  pop P (nilS l0_1) fun t8_1 =>
  pop P (Instr.fieldAt 34 t8_1 0) fun t9_1 =>
  rop P (Instr.loadAt 25 t9_1) h_1 fun t10_1 =>
  pop P (Instr.build 132 #[(0, t10_1), (1, p2_1)]) fun t12_1 =>
  eop P (Instr.alloc 132 true (.tuple #[])) h_1 fun w6_1 h_2 =>
  uop P (Instr.storeAt 132 w6_1 t12_1) h_2 fun u_1 h_3 =>
  rop P (Instr.loadAt 32 g4_1) h_3 fun t13_1 =>
  callM P 176 #[t13_1, w6_1] h_3 fun t14_1 h_4 =>
  pop P (nilS l0_1) fun t16_1 =>
  pop P (Instr.fieldAt 34 t16_1 1) fun t17_1 =>
  rop P (Instr.loadAt 25 t17_1) h_4 fun t18_1 =>
  pop P (Instr.indexAt 25 t18_1 p2_1) fun t20_1 =>
  rop P (Instr.loadAt 3 t20_1) h_4 fun t21_1 =>
  pop P (binA .sub 3 t21_1 (Value.int IntKind.i64 1)) fun t22_1 =>
  pop P (Instr.indexAt 25 t18_1 p2_1) fun t23_1 =>
  uop P (Instr.storeAt 3 t23_1 t22_1) h_4 fun u_2 h_5 =>
  pop P (nilS l0_1) fun t25_1 =>
  pop P (Instr.fieldAt 34 t25_1 1) fun t26_1 =>
  rop P (Instr.loadAt 25 t26_1) h_5 fun t27_1 =>
  pop P (Instr.fieldAt 132 w6_1 1) fun t28_1 =>
  rop P (Instr.loadAt 3 t28_1) h_5 fun t29_1 =>
  pop P (Instr.indexAt 25 t27_1 t29_1) fun t30_1 =>
  rop P (Instr.loadAt 3 t30_1) h_5 fun t31_1 =>
  pop P (binA .add 3 t31_1 (Value.int IntKind.i64 1)) fun t32_1 =>
  pop P (Instr.indexAt 25 t27_1 t29_1) fun t33_1 =>
  uop P (Instr.storeAt 3 t33_1 t32_1) h_5 fun u_3 h_6 =>
  K (.tuple #[]) h_6
theorem e143 (l0_1 : Value) (g1_1 : Value) (p2_1 : Value) (h : Heap) (K : Value → Heap → Prop) : wpA Try.prog 34 (anOf []) (bodyOf Try.f143) 1 (fun A h => resA Try.prog A h K []) (fun _ _ _ => False) (fun A h => resA Try.prog A h K []) (aargs [l0_1, g1_1, p2_1] 0) h = t143 Try.prog l0_1 g1_1 p2_1 h K := by kernel_rfl
theorem c143 (l0_1 : Value) (g1_1 : Value) (p2_1 : Value) (h : Heap) (K : Value → Heap → Prop) (H : t143 Try.prog l0_1 g1_1 p2_1 h K) : callM Try.prog 143 #[l0_1, g1_1, p2_1] h K :=
  callM_of_wpA mixed (fn := Try.f143) Try.func143 (c := bodyOf Try.f143) rfl (of_decide_eq_true (by kernel_rfl)) (anOf []) 31 34 (by kernel_rfl) rfl [] (by kernel_rfl) (args := [l0_1, g1_1, p2_1]) (by rw [e143]; exact H)

/-! impl.isGraph$1 -/
def t150 (P : Program) (q0_1 : Value) (t1_1 : Value) (h : Heap) (K : Value → Heap → Prop) : Prop :=
  rop P (Instr.loadAt 3 t1_1) h fun t5_1 =>
  pop P (binA .sub 3 t5_1 (Value.int IntKind.i64 1)) fun t6_1 =>
  callM P 113 #[q0_1, (Value.int IntKind.i64 0), t6_1] h fun t7_1 h_1 =>
  pop P (Op.unary .not t7_1) fun t8_1 =>
  K t8_1 h_1
theorem e150 (q0_1 : Value) (t1_1 : Value) (h : Heap) (K : Value → Heap → Prop) : wpA Try.prog 9 (anOf []) (bodyOf Try.f150) 1 (fun A h => resA Try.prog A h K [.tmp 3]) (fun _ _ _ => False) (fun A h => resA Try.prog A h K [.tmp 3]) (aargs [q0_1, t1_1] 0) h = t150 Try.prog q0_1 t1_1 h K := by kernel_rfl
theorem c150 (q0_1 : Value) (t1_1 : Value) (h : Heap) (K : Value → Heap → Prop) (H : t150 Try.prog q0_1 t1_1 h K) : callM Try.prog 150 #[q0_1, t1_1] h K :=
  callM_of_wpA mixed (fn := Try.f150) Try.func150 (c := bodyOf Try.f150) rfl (of_decide_eq_true (by kernel_rfl)) (anOf []) 7 9 (by kernel_rfl) rfl [.tmp 3] (by kernel_rfl) (args := [q0_1, t1_1]) (by rw [e150]; exact H)

/-! impl.force$1 -/
def t155 (P : Program) (n0_1 : Value) (h : Heap) (K : Value → Heap → Prop) : Prop :=
  callM P 113 #[n0_1, (Value.int IntKind.i64 0), (Value.int IntKind.i64 50)] h fun t4_1 h_1 =>
  pop P (Op.unary .not t4_1) fun t5_1 =>
  K t5_1 h_1
theorem e155 (n0_1 : Value) (h : Heap) (K : Value → Heap → Prop) : wpA Try.prog 6 (anOf []) (bodyOf Try.f155) 1 (fun A h => resA Try.prog A h K [.tmp 2]) (fun _ _ _ => False) (fun A h => resA Try.prog A h K [.tmp 2]) (aargs [n0_1] 0) h = t155 Try.prog n0_1 h K := by kernel_rfl
theorem c155 (n0_1 : Value) (h : Heap) (K : Value → Heap → Prop) (H : t155 Try.prog n0_1 h K) : callM Try.prog 155 #[n0_1] h K :=
  callM_of_wpA mixed (fn := Try.f155) Try.func155 (c := bodyOf Try.f155) rfl (of_decide_eq_true (by kernel_rfl)) (anOf []) 5 6 (by kernel_rfl) rfl [.tmp 2] (by kernel_rfl) (args := [n0_1]) (by rw [e155]; exact H)

/-! (*spec.l1Cur).sunk -/
def t156 (P : Program) (c0_1 : Value) (h : Heap) (K : Value → Heap → Prop) : Prop :=
  eop P (Instr.alloc 32 true (.tuple #[])) h fun t2_1 h_1 =>
  callM P 163 #[c0_1, (Value.int IntKind.i64 5)] h_1 fun t8_1 h_2 =>
  eop P (Instr.alloc 32 true (.tuple #[])) h_2 fun g4_1 h_3 =>
  uop P (Instr.storeAt 32 g4_1 t8_1) h_3 fun u_1 h_4 =>
  pop P (Instr.fieldAt 32 g4_1 0) fun t10_1 =>
  rop P (Instr.loadAt 22 t10_1) h_4 fun t11_1 =>
  pop P (lenS 22 3 t11_1) fun t12_1 =>
  callM P 100 #[c0_1, t12_1] h_4 fun t13_1 h_5 =>
  pop P (Instr.fieldAt 32 g4_1 0) fun t14_1 =>
  rop P (Instr.loadAt 22 t14_1) h_5 fun t15_1 =>
  pop P (lenS 22 3 t15_1) fun t16_1 =>
  ∃ (I_1 : List Value → Heap → Prop) (μ_1 : List Value → Heap → Nat), I_1 [(Value.int IntKind.i64 0)] h_5 ∧
  ∀ (junk_1 : Nat → Value) (t17_1 : Value) (h_6 : Heap), I_1 [t17_1] h_6 →
  pop P (binA .lss 3 t17_1 t16_1) fun t18_1 =>
  condM t18_1
  (rop P (Instr.loadAt 32 g4_1) h_6 fun t20_1 =>
  callM P 186 #[t20_1, t17_1] h_6 fun t22_1 h_7 =>
  pop P (lenS 25 3 t22_1) fun t23_1 =>
  pop P (binA .gtr 3 t23_1 (Value.int IntKind.i64 0)) fun t24_1 =>
  guardM (asG t24_1 true) true (fun k_1 => k_1 t17_1 h_7) h_7 fun t26_1 h_8 =>
  guardM (asG t24_1 true) true (fun k_2 => k_2 t13_1 h_8) h_8 fun t27_1 h_9 =>
  guardM (asG t24_1 true) true (fun k_3 => pop P (binE .neq 3 (.tmp 26) (.tmp 27) t26_1 t27_1) fun t28_1 =>
  k_3 t28_1 h_9) h_9 fun t28_2 h_10 =>
  pop P (pickS t24_1 t28_2 (Value.bool false)) fun t29_1 =>
  guardM (asG t29_1 true) true (fun k_4 => rop P (Instr.loadAt 32 g4_1) h_10 fun t31_1 =>
  k_4 t31_1 h_10) h_10 fun t31_2 h_11 =>
  guardM (asG t29_1 true) true (fun k_5 => k_5 t17_1 h_11) h_11 fun t32_1 h_12 =>
  guardM (asG t29_1 true) true (fun k_6 => callM P 186 #[t31_2, t32_1] h_12 fun t33_1 h_13 =>
  k_6 t33_1 h_13) h_12 fun t33_2 h_14 =>
  guardM (asG t29_1 true) true (fun k_7 => k_7 t13_1 h_14) h_14 fun t34_1 h_15 =>
  guardM (asG t29_1 true) true (fun k_8 => pop P (Instr.indexAt 25 t33_2 t34_1) fun t35_1 =>
  k_8 t35_1 h_15) h_15 fun t35_2 h_16 =>
  guardM (asG t29_1 true) true (fun k_9 => rop P (Instr.loadAt 3 t35_2) h_16 fun t36_1 =>
  k_9 t36_1 h_16) h_16 fun t36_2 h_17 =>
  guardM (asG t29_1 true) true (fun k_10 => pop P (binA .lss 3 t36_2 (Value.int IntKind.i64 0)) fun t37_1 =>
  k_10 t37_1 h_17) h_17 fun t37_2 h_18 =>
  pop P (pickS t29_1 t37_2 (Value.bool false)) fun t38_1 =>
  guardM (asG t38_1 true) true (fun k_11 => k_11 c0_1 h_18) h_18 fun t40_1 h_19 =>
  guardM (asG t38_1 true) true (fun k_12 => callM P 99 #[t40_1, (Value.int IntKind.i64 12)] h_19 fun t41_1 h_20 =>
  k_12 t41_1 h_20) h_19 fun t41_2 h_21 =>
  guardM (asG t38_1 true) true (fun k_13 => pop P (Op.unary .not t41_2) fun t42_1 =>
  k_13 t42_1 h_21) h_21 fun t42_2 h_22 =>
  pop P (pickS t38_1 t42_2 (Value.bool false)) fun t43_1 =>
  condM t43_1
  (pop P (Instr.fieldAt 32 g4_1 0) fun t44_1 =>
  rop P (Instr.loadAt 22 t44_1) h_22 fun t45_1 =>
  pop P (Instr.indexAt 22 t45_1 t17_1) fun t47_1 =>
  rop P (Instr.loadAt 25 t47_1) h_22 fun t48_1 =>
  pop P (lenS 25 3 t48_1) fun t49_1 =>
  pop P (binA .lss 3 t49_1 (Value.int IntKind.i64 5)) fun t50_1 =>
  condM t50_1
  (pop P (Instr.fieldAt 32 g4_1 0) fun t51_1 =>
  rop P (Instr.loadAt 22 t51_1) h_22 fun t52_1 =>
  pop P (Instr.fieldAt 32 g4_1 0) fun t54_1 =>
  rop P (Instr.loadAt 22 t54_1) h_22 fun t55_1 =>
  pop P (Instr.indexAt 22 t55_1 t17_1) fun t57_1 =>
  rop P (Instr.loadAt 25 t57_1) h_22 fun t58_1 =>
  (callM P 130 #[t58_1] h_22 fun t59_1 h_23 =>
  (∀ w : World, w.heap = h_23 → (Instr.loadAt 22 t54_1).run P w = .ok t55_1 w) ∧
  (∀ w : World, w.heap = h_23 → (Instr.loadAt 22 t51_1).run P w = .ok t52_1 w) ∧
  eop P (Instr.buildSlice 25 1 #[(0, t13_1)]) h_23 fun t61_1 h_24 =>
  (∀ w : World, w.heap = h_24 → (Instr.loadAt 22 t54_1).run P w = .ok t55_1 w) ∧
  (∀ w : World, w.heap = h_24 → (Instr.loadAt 22 t51_1).run P w = .ok t52_1 w) ∧
  eop P (appS 25 25 25 t59_1 t61_1) h_24 fun t62_1 h_25 =>
  (∀ w : World, w.heap = h_25 → (Instr.loadAt 22 t54_1).run P w = .ok t55_1 w) ∧
  (∀ w : World, w.heap = h_25 → (Instr.loadAt 22 t51_1).run P w = .ok t52_1 w) ∧
  pop P (Instr.indexAt 22 t52_1 t17_1) fun t63_1 =>
  uop P (Instr.storeAt 25 t63_1 t62_1) h_25 fun u_2 h_26 =>
  pop P (binA .add 3 t17_1 (Value.int IntKind.i64 1)) fun t77_1 =>
  I_1 [t77_1] h_26 ∧ μ_1 [t77_1] h_26 < μ_1 [t17_1] h_6) ∧
  (eop P (Instr.buildSlice 25 1 #[(0, t13_1)]) h_22 fun t61_2 h_27 =>
  (∀ w : World, w.heap = h_27 → (Instr.loadAt 25 t57_1).run P w = .ok t58_1 w) ∧
  (∀ w : World, w.heap = h_27 → (Instr.loadAt 22 t54_1).run P w = .ok t55_1 w) ∧
  (∀ w : World, w.heap = h_27 → (Instr.loadAt 22 t51_1).run P w = .ok t52_1 w) ∧
  callM P 130 #[t58_1] h_27 fun t59_2 h_28 =>
  (∀ w : World, w.heap = h_28 → (Instr.loadAt 22 t54_1).run P w = .ok t55_1 w) ∧
  (∀ w : World, w.heap = h_28 → (Instr.loadAt 22 t51_1).run P w = .ok t52_1 w) ∧
  eop P (appS 25 25 25 t59_2 t61_2) h_28 fun t62_2 h_29 =>
  (∀ w : World, w.heap = h_29 → (Instr.loadAt 22 t54_1).run P w = .ok t55_1 w) ∧
  (∀ w : World, w.heap = h_29 → (Instr.loadAt 22 t51_1).run P w = .ok t52_1 w) ∧
  pop P (Instr.indexAt 22 t52_1 t17_1) fun t63_2 =>
  uop P (Instr.storeAt 25 t63_2 t62_2) h_29 fun u_3 h_30 =>
  pop P (binA .add 3 t17_1 (Value.int IntKind.i64 1)) fun t77_2 =>
  I_1 [t77_2] h_30 ∧ μ_1 [t77_2] h_30 < μ_1 [t17_1] h_6))
  (pop P (Instr.fieldAt 32 g4_1 0) fun t64_1 =>
  rop P (Instr.loadAt 22 t64_1) h_22 fun t65_1 =>
  pop P (Instr.fieldAt 32 g4_1 0) fun t69_1 =>
  rop P (Instr.loadAt 22 t69_1) h_22 fun t70_1 =>
  pop P (Instr.indexAt 22 t70_1 t17_1) fun t72_1 =>
  rop P (Instr.loadAt 25 t72_1) h_22 fun t73_1 =>
  pop P (Instr.sliceAt 25 t73_1 (some (Value.int IntKind.i64 1)) none none) fun t74_1 =>
  eop P (Instr.buildSlice 25 1 #[(0, t13_1)]) h_22 fun t68_1 h_31 =>
  (∀ w : World, w.heap = h_31 → (Instr.loadAt 25 t72_1).run P w = .ok t73_1 w) ∧
  (∀ w : World, w.heap = h_31 → (Instr.loadAt 22 t69_1).run P w = .ok t70_1 w) ∧
  (∀ w : World, w.heap = h_31 → (Instr.loadAt 22 t64_1).run P w = .ok t65_1 w) ∧
  eop P (appS 25 25 25 t68_1 t74_1) h_31 fun t75_1 h_32 =>
  (∀ w : World, w.heap = h_32 → (Instr.loadAt 25 t72_1).run P w = .ok t73_1 w) ∧
  (∀ w : World, w.heap = h_32 → (Instr.loadAt 22 t69_1).run P w = .ok t70_1 w) ∧
  (∀ w : World, w.heap = h_32 → (Instr.loadAt 22 t64_1).run P w = .ok t65_1 w) ∧
  pop P (Instr.indexAt 22 t65_1 t17_1) fun t76_1 =>
  uop P (Instr.storeAt 25 t76_1 t75_1) h_32 fun u_4 h_33 =>
  pop P (binA .add 3 t17_1 (Value.int IntKind.i64 1)) fun t77_3 =>
  I_1 [t77_3] h_33 ∧ μ_1 [t77_3] h_33 < μ_1 [t17_1] h_6))
  (pop P (binA .add 3 t17_1 (Value.int IntKind.i64 1)) fun t77_4 =>
  I_1 [t77_4] h_22 ∧ μ_1 [t77_4] h_22 < μ_1 [t17_1] h_6))
  (rop P (Instr.loadAt 32 g4_1) h_6 fun t78_1 =>
  uop P (Instr.storeAt 32 t2_1 t78_1) h_6 fun u_5 h_34 =>
  rop P (Instr.loadAt 32 t2_1) h_34 fun r_1 =>
  K (.tuple #[r_1, t13_1]) h_34)
theorem e156 (c0_1 : Value) (h : Heap) (K : Value → Heap → Prop) : wpA Try.prog 80 (anOf [(122, [17])]) (bodyOf Try.f156) 1 (fun A h => resA Try.prog A h K [.cell 2 32, .tmp 3]) (fun _ _ _ => False) (fun A h => resA Try.prog A h K [.cell 2 32, .tmp 3]) (aargs [c0_1] 0) h = t156 Try.prog c0_1 h K := by kernel_rfl
theorem c156 (c0_1 : Value) (h : Heap) (K : Value → Heap → Prop) (H : t156 Try.prog c0_1 h K) : callM Try.prog 156 #[c0_1] h K :=
  callM_of_wpA mixed (fn := Try.f156) Try.func156 (c := bodyOf Try.f156) rfl (of_decide_eq_true (by kernel_rfl)) (anOf [(122, [17])]) 79 80 (by kernel_rfl) rfl [.cell 2 32, .tmp 3] (by kernel_rfl) (args := [c0_1]) (by rw [e156]; exact H)

/-! (*spec.l1Cur).sureWalk -/
def t157 (P : Program) (c0_1 : Value) (g1_1 : Value) (h : Heap) (K : Value → Heap → Prop) : Prop :=
  eop P (Instr.box 32 g1_1) h fun g3_1 h_1 =>
  eop P (Instr.alloc 132 true (.tuple #[])) h_1 fun t4_1 h_2 =>
  pop P (Instr.fieldAt 32 g3_1 0) fun t10_1 =>
  rop P (Instr.loadAt 22 t10_1) h_2 fun t11_1 =>
  pop P (lenS 22 3 t11_1) fun t12_1 =>
  callM P 100 #[c0_1, t12_1] h_2 fun t13_1 h_3 =>
  pop P (Instr.build 132 #[(1, t13_1)]) fun t14_1 =>
  eop P (Instr.alloc 132 true (.tuple #[])) h_3 fun w5_1 h_4 =>
  uop P (Instr.storeAt 132 w5_1 t14_1) h_4 fun u_1 h_5 =>
  pop P (Instr.fieldAt 32 g3_1 0) fun t15_1 =>
  rop P (Instr.loadAt 22 t15_1) h_5 fun t16_1 =>
  pop P (lenS 22 3 t16_1) fun t17_1 =>
  ∃ (I_1 : List Value → Heap → Prop) (μ_1 : List Value → Heap → Nat), I_1 [(Value.int IntKind.i64 0)] h_5 ∧
  ∀ (junk_1 : Nat → Value) (t18_1 : Value) (h_6 : Heap), I_1 [t18_1] h_6 →
  pop P (binA .lss 3 t18_1 t17_1) fun t19_1 =>
  condM t19_1
  (pop P (Instr.indexAt 22 t16_1 t18_1) fun t20_1 =>
  rop P (Instr.loadAt 25 t20_1) h_6 fun t21_1 =>
  ∃ J_1 : List Value → Heap → Prop, (pop P (lenS 25 3 t21_1) fun t23_1 =>
  pop P (binA .gtr 3 t23_1 (Value.int IntKind.i64 0)) fun t24_1 =>
  condM t24_1
  (pop P (lenS 25 3 t21_1) fun t27_1 =>
  callM P 100 #[c0_1, t27_1] h_6 fun t28_1 h_7 =>
  J_1 [t28_1] h_7)
  (J_1 [(Value.int IntKind.i64 0)] h_6)) ∧
  ∀ (junk_2 : Nat → Value) (k8_1 : Value) (h_8 : Heap), J_1 [k8_1] h_8 →
  pop P (Instr.fieldAt 132 w5_1 0) fun t29_1 =>
  rop P (Instr.loadAt 25 t29_1) h_8 fun t30_1 =>
  eop P (Instr.buildSlice 25 1 #[(0, k8_1)]) h_8 fun t32_1 h_9 =>
  eop P (appS 25 25 25 t30_1 t32_1) h_9 fun t33_1 h_10 =>
  pop P (Instr.fieldAt 132 w5_1 0) fun t34_1 =>
  uop P (Instr.storeAt 25 t34_1 t33_1) h_10 fun u_2 h_11 =>
  pop P (binA .add 3 t18_1 (Value.int IntKind.i64 1)) fun t35_1 =>
  I_1 [t35_1] h_11 ∧ μ_1 [t35_1] h_11 < μ_1 [t18_1] h_6)
  (rop P (Instr.loadAt 132 w5_1) h_6 fun t36_1 =>
  uop P (Instr.storeAt 132 t4_1 t36_1) h_6 fun u_3 h_12 =>
  rop P (Instr.loadAt 132 t4_1) h_12 fun r_1 =>
  K r_1 h_12)
theorem e157 (c0_1 : Value) (g1_1 : Value) (h : Heap) (K : Value → Heap → Prop) : wpA Try.prog 37 (anOf [(58, [18]), (7475, [8])]) (bodyOf Try.f157) 1 (fun A h => resA Try.prog A h K [.cell 4 132]) (fun _ _ _ => False) (fun A h => resA Try.prog A h K [.cell 4 132]) (aargs [c0_1, g1_1] 0) h = t157 Try.prog c0_1 g1_1 h K := by kernel_rfl
theorem c157 (c0_1 : Value) (g1_1 : Value) (h : Heap) (K : Value → Heap → Prop) (H : t157 Try.prog c0_1 g1_1 h K) : callM Try.prog 157 #[c0_1, g1_1] h K :=
  callM_of_wpA mixed (fn := Try.f157) Try.func157 (c := bodyOf Try.f157) rfl (of_decide_eq_true (by kernel_rfl)) (anOf [(58, [18]), (7475, [8])]) 35 37 (by kernel_rfl) rfl [.cell 4 132] (by kernel_rfl) (args := [c0_1, g1_1]) (by rw [e157]; exact H)

/-! (*spec.l1Cur).next -/
def t158 (P : Program) (c0_1 : Value) (h : Heap) (K : Value → Heap → Prop) : Prop :=
  ∃ J_1 : List Value → Heap → Prop, (pop P (nilS c0_1) fun t5_1 =>
  pop P (Instr.fieldAt 109 t5_1 1) fun t6_1 =>
  rop P (Instr.loadAt 3 t6_1) h fun t7_1 =>
  pop P (nilS c0_1) fun t9_1 =>
  pop P (Instr.fieldAt 109 t9_1 0) fun t10_1 =>
  rop P (Instr.loadAt 55 t10_1) h fun t11_1 =>
  pop P (lenS 55 3 t11_1) fun t12_1 =>
  pop P (binA .lss 3 t7_1 t12_1) fun t13_1 =>
  condM t13_1
  (pop P (nilS c0_1) fun t15_1 =>
  pop P (Instr.fieldAt 109 t15_1 0) fun t16_1 =>
  rop P (Instr.loadAt 55 t16_1) h fun t17_1 =>
  pop P (nilS c0_1) fun t19_1 =>
  pop P (Instr.fieldAt 109 t19_1 1) fun t20_1 =>
  rop P (Instr.loadAt 3 t20_1) h fun t21_1 =>
  pop P (Instr.indexAt 55 t17_1 t21_1) fun t22_1 =>
  rop P (Instr.loadAt 5 t22_1) h fun t23_1 =>
  rop P (convert 5 3 t23_1) h fun t24_1 =>
  J_1 [t24_1] h)
  (J_1 [(Value.int IntKind.i64 0)] h)) ∧
  ∀ (junk_1 : Nat → Value) (b3_1 : Value) (h_1 : Heap), J_1 [b3_1] h_1 →
  pop P (nilS c0_1) fun t26_1 =>
  pop P (Instr.fieldAt 109 t26_1 1) fun t27_1 =>
  rop P (Instr.loadAt 3 t27_1) h_1 fun t28_1 =>
  pop P (binA .add 3 t28_1 (Value.int IntKind.i64 1)) fun t29_1 =>
  pop P (nilS c0_1) fun t30_1 =>
  pop P (Instr.fieldAt 109 t30_1 1) fun t31_1 =>
  uop P (Instr.storeAt 3 t31_1 t29_1) h_1 fun u_1 h_2 =>
  pop P (nilS c0_1) fun t34_1 =>
  pop P (Instr.fieldAt 109 t34_1 2) fun t35_1 =>
  rop P (Instr.loadAt 107 t35_1) h_2 fun t36_1 =>
  pop P (binA .mul 107 t36_1 (Value.int IntKind.u64 6364136223846793005)) fun t37_1 =>
  rop P (convert 3 107 b3_1) h_2 fun t39_1 =>
  pop P (binA .add 107 t37_1 t39_1) fun t40_1 =>
  pop P (binA .add 107 t40_1 (Value.int IntKind.u64 1442695040888963407)) fun t41_1 =>
  pop P (nilS c0_1) fun t42_1 =>
  pop P (Instr.fieldAt 109 t42_1 2) fun t43_1 =>
  uop P (Instr.storeAt 107 t43_1 t41_1) h_2 fun u_2 h_3 =>
  pop P (nilS c0_1) fun t45_1 =>
  pop P (Instr.fieldAt 109 t45_1 1) fun t46_1 =>
  rop P (Instr.loadAt 3 t46_1) h_3 fun t47_1 =>
  pop P (nilS c0_1) fun t49_1 =>
  pop P (Instr.fieldAt 109 t49_1 0) fun t50_1 =>
  rop P (Instr.loadAt 55 t50_1) h_3 fun t51_1 =>
  pop P (lenS 55 3 t51_1) fun t52_1 =>
  pop P (binA .leq 3 t47_1 t52_1) fun t53_1 =>
  condM t53_1
  (K b3_1 h_3)
  (pop P (nilS c0_1) fun t56_1 =>
  pop P (Instr.fieldAt 109 t56_1 2) fun t57_1 =>
  rop P (Instr.loadAt 107 t57_1) h_3 fun t58_1 =>
  pop P (binA .shr 107 t58_1 (Value.int IntKind.u64 40)) fun t59_1 =>
  pop P (binA .and 107 t59_1 (Value.int IntKind.u64 255)) fun t60_1 =>
  rop P (convert 107 3 t60_1) h_3 fun t61_1 =>
  K t61_1 h_3)
theorem e158 (c0_1 : Value) (h : Heap) (K : Value → Heap → Prop) : wpA Try.prog 62 (anOf [(7, [3])]) (bodyOf Try.f158) 1 (fun A h => resA Try.prog A h K [.tmp 2]) (fun _ _ _ => False) (fun A h => resA Try.prog A h K [.tmp 2]) (aargs [c0_1] 0) h = t158 Try.prog c0_1 h K := by kernel_rfl
theorem c158 (c0_1 : Value) (h : Heap) (K : Value → Heap → Prop) (H : t158 Try.prog c0_1 h K) : callM Try.prog 158 #[c0_1] h K :=
  callM_of_wpA mixed (fn := Try.f158) Try.func158 (c := bodyOf Try.f158) rfl (of_decide_eq_true (by kernel_rfl)) (anOf [(7, [3])]) 61 62 (by kernel_rfl) rfl [.tmp 2] (by kernel_rfl) (args := [c0_1]) (by rw [e158]; exact H)

/-! slices.IndexFunc[[]int,int] -/
def t159 (P : Program) (s0_1 : Value) (f1_1 : Value) (h : Heap) (K : Value → Heap → Prop) : Prop :=
  pop P (lenS 25 3 s0_1) fun t7_1 =>
  ∃ (I_1 : List Value → Heap → Prop) (μ_1 : List Value → Heap → Nat), I_1 [(Value.int IntKind.i64 0)] h ∧
  ∀ (junk_1 : Nat → Value) (t8_1 : Value) (h_1 : Heap), I_1 [t8_1] h_1 →
  pop P (binA .lss 3 t8_1 t7_1) fun t9_1 =>
  condM t9_1
  (pop P (Instr.indexAt 25 s0_1 t8_1) fun t14_1 =>
  rop P (Instr.loadAt 3 t14_1) h_1 fun t15_1 =>
  callV P f1_1 [t15_1] h_1 fun t16_1 h_2 =>
  condM t16_1
  (K t8_1 h_2)
  (pop P (binA .add 3 t8_1 (Value.int IntKind.i64 1)) fun t18_1 =>
  I_1 [t18_1] h_2 ∧ μ_1 [t18_1] h_2 < μ_1 [t8_1] h_1))
  (K (Value.int IntKind.i64 (-1)) h_1)
theorem e159 (s0_1 : Value) (f1_1 : Value) (h : Heap) (K : Value → Heap → Prop) : wpA Try.prog 19 (anOf [(26, [8])]) (bodyOf Try.f159) 1 (fun A h => resA Try.prog A h K [.tmp 4]) (fun _ _ _ => False) (fun A h => resA Try.prog A h K [.tmp 4]) (aargs [s0_1, f1_1] 0) h = t159 Try.prog s0_1 f1_1 h K := by kernel_rfl
theorem c159 (s0_1 : Value) (f1_1 : Value) (h : Heap) (K : Value → Heap → Prop) (H : t159 Try.prog s0_1 f1_1 h K) : callM Try.prog 159 #[s0_1, f1_1] h K :=
  callM_of_wpA mixed (fn := Try.f159) Try.func159 (c := bodyOf Try.f159) rfl (of_decide_eq_true (by kernel_rfl)) (anOf [(26, [8])]) 17 19 (by kernel_rfl) rfl [.tmp 4] (by kernel_rfl) (args := [s0_1, f1_1]) (by rw [e159]; exact H)

/-! (impl.Graph).leadsTo -/
def t160 (P : Program) (g0_1 : Value) (p1_1 : Value) (h : Heap) (K : Value → Heap → Prop) : Prop :=
  eop P (Instr.box 32 g0_1) h fun g2_1 h_1 =>
  pop P (Instr.fieldAt 32 g2_1 0) fun t6_1 =>
  rop P (Instr.loadAt 22 t6_1) h_1 fun t7_1 =>
  pop P (lenS 22 3 t7_1) fun t8_1 =>
  ∃ (I_1 : List Value → Heap → Prop) (μ_1 : List Value → Heap → Nat), I_1 [(Value.int IntKind.i64 0)] h_1 ∧
  ∀ (junk_1 : Nat → Value) (t9_1 : Value) (h_2 : Heap), I_1 [t9_1] h_2 →
  pop P (binA .lss 3 t9_1 t8_1) fun t10_1 =>
  condM t10_1
  (rop P (Instr.loadAt 32 g2_1) h_2 fun t12_1 =>
  callM P 187 #[t12_1, t9_1] h_2 fun t14_1 h_3 =>
  pop P (Instr.indexAt 25 t14_1 p1_1) fun t16_1 =>
  rop P (Instr.loadAt 3 t16_1) h_3 fun t17_1 =>
  pop P (binA .lss 3 t17_1 (Value.int IntKind.i64 0)) fun t18_1 =>
  condM t18_1
  (K (Value.bool false) h_3)
  (pop P (binA .add 3 t9_1 (Value.int IntKind.i64 1)) fun t19_1 =>
  I_1 [t19_1] h_3 ∧ μ_1 [t19_1] h_3 < μ_1 [t9_1] h_2))
  (K (Value.bool true) h_2)
theorem e160 (g0_1 : Value) (p1_1 : Value) (h : Heap) (K : Value → Heap → Prop) : wpA Try.prog 20 (anOf [(26, [9])]) (bodyOf Try.f160) 1 (fun A h => resA Try.prog A h K [.tmp 4]) (fun _ _ _ => False) (fun A h => resA Try.prog A h K [.tmp 4]) (aargs [g0_1, p1_1] 0) h = t160 Try.prog g0_1 p1_1 h K := by kernel_rfl
theorem c160 (g0_1 : Value) (p1_1 : Value) (h : Heap) (K : Value → Heap → Prop) (H : t160 Try.prog g0_1 p1_1 h K) : callM Try.prog 160 #[g0_1, p1_1] h K :=
  callM_of_wpA mixed (fn := Try.f160) Try.func160 (c := bodyOf Try.f160) rfl (of_decide_eq_true (by kernel_rfl)) (anOf [(26, [9])]) 18 20 (by kernel_rfl) rfl [.tmp 4] (by kernel_rfl) (args := [g0_1, p1_1]) (by rw [e160]; exact H)

/-! impl.has$1 -/
def t161 (P : Program) (p0_1 : Value) (t1_1 : Value) (h : Heap) (K : Value → Heap → Prop) : Prop :=
  pop P (Instr.fieldAt 32 t1_1 0) fun t5_1 =>
  rop P (Instr.loadAt 22 t5_1) h fun t6_1 =>
  pop P (lenS 22 3 t6_1) fun t7_1 =>
  pop P (binA .sub 3 t7_1 (Value.int IntKind.i64 1)) fun t8_1 =>
  callM P 113 #[p0_1, (Value.int IntKind.i64 0), t8_1] h fun t9_1 h_1 =>
  pop P (Op.unary .not t9_1) fun t10_1 =>
  K t10_1 h_1
theorem e161 (p0_1 : Value) (t1_1 : Value) (h : Heap) (K : Value → Heap → Prop) : wpA Try.prog 11 (anOf []) (bodyOf Try.f161) 1 (fun A h => resA Try.prog A h K [.tmp 3]) (fun _ _ _ => False) (fun A h => resA Try.prog A h K [.tmp 3]) (aargs [p0_1, t1_1] 0) h = t161 Try.prog p0_1 t1_1 h K := by kernel_rfl
theorem c161 (p0_1 : Value) (t1_1 : Value) (h : Heap) (K : Value → Heap → Prop) (H : t161 Try.prog p0_1 t1_1 h K) : callM Try.prog 161 #[p0_1, t1_1] h K :=
  callM_of_wpA mixed (fn := Try.f161) Try.func161 (c := bodyOf Try.f161) rfl (of_decide_eq_true (by kernel_rfl)) (anOf []) 9 11 (by kernel_rfl) rfl [.tmp 3] (by kernel_rfl) (args := [p0_1, t1_1]) (by rw [e161]; exact H)

/-! spec.grLeads -/
def t162 (P : Program) (g0_1 : Value) (p1_1 : Value) (h : Heap) (K : Value → Heap → Prop) : Prop :=
  eop P (Instr.box 32 g0_1) h fun g2_1 h_1 =>
  pop P (Instr.fieldAt 32 g2_1 0) fun t6_1 =>
  rop P (Instr.loadAt 22 t6_1) h_1 fun t7_1 =>
  pop P (lenS 22 3 t7_1) fun t8_1 =>
  ∃ (I_1 : List Value → Heap → Prop) (μ_1 : List Value → Heap → Nat), I_1 [(Value.int IntKind.i64 0)] h_1 ∧
  ∀ (junk_1 : Nat → Value) (t9_1 : Value) (h_2 : Heap), I_1 [t9_1] h_2 →
  pop P (binA .lss 3 t9_1 t8_1) fun t10_1 =>
  condM t10_1
  (rop P (Instr.loadAt 32 g2_1) h_2 fun t12_1 =>
  callM P 186 #[t12_1, t9_1] h_2 fun t14_1 h_3 =>
  pop P (Instr.indexAt 25 t14_1 p1_1) fun t16_1 =>
  rop P (Instr.loadAt 3 t16_1) h_3 fun t17_1 =>
  pop P (binA .lss 3 t17_1 (Value.int IntKind.i64 0)) fun t18_1 =>
  condM t18_1
  (K (Value.bool false) h_3)
  (pop P (binA .add 3 t9_1 (Value.int IntKind.i64 1)) fun t19_1 =>
  I_1 [t19_1] h_3 ∧ μ_1 [t19_1] h_3 < μ_1 [t9_1] h_2))
  (K (Value.bool true) h_2)
theorem e162 (g0_1 : Value) (p1_1 : Value) (h : Heap) (K : Value → Heap → Prop) : wpA Try.prog 20 (anOf [(26, [9])]) (bodyOf Try.f162) 1 (fun A h => resA Try.prog A h K [.tmp 4]) (fun _ _ _ => False) (fun A h => resA Try.prog A h K [.tmp 4]) (aargs [g0_1, p1_1] 0) h = t162 Try.prog g0_1 p1_1 h K := by kernel_rfl
theorem c162 (g0_1 : Value) (p1_1 : Value) (h : Heap) (K : Value → Heap → Prop) (H : t162 Try.prog g0_1 p1_1 h K) : callM Try.prog 162 #[g0_1, p1_1] h K :=
  callM_of_wpA mixed (fn := Try.f162) Try.func162 (c := bodyOf Try.f162) rfl (of_decide_eq_true (by kernel_rfl)) (anOf [(26, [9])]) 18 20 (by kernel_rfl) rfl [.tmp 4] (by kernel_rfl) (args := [g0_1, p1_1]) (by rw [e162]; exact H)

/-! (*spec.l1Cur).sureGraph -/
def t163 (P : Program) (c0_1 : Value) (most1_1 : Value) (h : Heap) (K : Value → Heap → Prop) : Prop :=
  eop P (Instr.alloc 32 true (.tuple #[])) h fun t4_1 h_1 =>
  callM P 100 #[c0_1, most1_1] h_1 fun t13_1 h_2 =>
  pop P (binA .add 3 (Value.int IntKind.i64 1) t13_1) fun t14_1 =>
  callM P 99 #[c0_1, (Value.int IntKind.i64 4)] h_2 fun t16_1 h_3 =>
  condM t16_1
  (callM P 99 #[c0_1, (Value.int IntKind.i64 2)] h_3 fun t19_1 h_4 =>
  callM P 124 #[t14_1, t19_1] h_4 fun t20_1 h_5 =>
  uop P (Instr.storeAt 32 t4_1 t20_1) h_5 fun u_1 h_6 =>
  rop P (Instr.loadAt 32 t4_1) h_6 fun r_1 =>
  K r_1 h_6)
  (pop P (Instr.build 32 #[]) fun t21_1 =>
  eop P (Instr.alloc 32 true (.tuple #[])) h_3 fun g6_1 h_7 =>
  uop P (Instr.storeAt 32 g6_1 t21_1) h_7 fun u_2 h_8 =>
  ∃ (I_1 : List Value → Heap → Prop) (μ_1 : List Value → Heap → Nat), I_1 [(Value.int IntKind.i64 0)] h_8 ∧
  ∀ (junk_1 : Nat → Value) (p7_1 : Value) (h_9 : Heap), I_1 [p7_1] h_9 →
  pop P (binA .lss 3 p7_1 t14_1) fun t24_1 =>
  condM t24_1
  (callM P 100 #[c0_1, (Value.int IntKind.i64 3)] h_9 fun t28_1 h_10 =>
  pop P (binA .add 3 (Value.int IntKind.i64 1) t28_1) fun t29_1 =>
  ∃ (I_2 : List Value → Heap → Prop) (μ_2 : List Value → Heap → Nat), I_2 [(Value.slice none 0 0), t29_1] h_10 ∧
  ∀ (junk_2 : Nat → Value) (list8_1 : Value) (k9_1 : Value) (h_11 : Heap), I_2 [list8_1, k9_1] h_11 →
  pop P (binA .gtr 3 k9_1 (Value.int IntKind.i64 0)) fun t31_1 =>
  condM t31_1
  (callM P 100 #[c0_1, t14_1] h_11 fun t37_1 h_12 =>
  eop P (Instr.buildSlice 25 1 #[(0, t37_1)]) h_12 fun t38_1 h_13 =>
  eop P (appS 25 25 25 list8_1 t38_1) h_13 fun t39_1 h_14 =>
  pop P (binA .sub 3 k9_1 (Value.int IntKind.i64 1)) fun t33_1 =>
  I_2 [t39_1, t33_1] h_14 ∧ μ_2 [t39_1, t33_1] h_14 < μ_2 [list8_1, k9_1] h_11)
  (∃ J_1 : List Value → Heap → Prop, (callM P 99 #[c0_1, (Value.int IntKind.i64 8)] h_11 fun t41_1 h_15 =>
  condM t41_1
  (J_1 [(Value.slice none 0 0)] h_15)
  (J_1 [list8_1] h_15)) ∧
  ∀ (junk_3 : Nat → Value) (list8_2 : Value) (h_16 : Heap), J_1 [list8_2] h_16 →
  pop P (Instr.fieldAt 32 g6_1 0) fun t42_1 =>
  rop P (Instr.loadAt 22 t42_1) h_16 fun t43_1 =>
  eop P (Instr.buildSlice 22 1 #[(0, list8_2)]) h_16 fun t45_1 h_17 =>
  eop P (appS 22 22 22 t43_1 t45_1) h_17 fun t46_1 h_18 =>
  pop P (Instr.fieldAt 32 g6_1 0) fun t47_1 =>
  uop P (Instr.storeAt 22 t47_1 t46_1) h_18 fun u_3 h_19 =>
  pop P (binA .add 3 p7_1 (Value.int IntKind.i64 1)) fun t26_1 =>
  I_1 [t26_1] h_19 ∧ μ_1 [t26_1] h_19 < μ_1 [p7_1] h_9))
  (callM P 99 #[c0_1, (Value.int IntKind.i64 2)] h_9 fun t49_1 h_20 =>
  condM t49_1
  (pop P (Instr.fieldAt 32 g6_1 0) fun t50_1 =>
  rop P (Instr.loadAt 22 t50_1) h_20 fun t51_1 =>
  pop P (lenS 22 3 t51_1) fun t52_1 =>
  ∃ (I_3 : List Value → Heap → Prop) (μ_3 : List Value → Heap → Nat), I_3 [(Value.int IntKind.i64 0)] h_20 ∧
  ∀ (junk_4 : Nat → Value) (t53_1 : Value) (h_21 : Heap), I_3 [t53_1] h_21 →
  pop P (binA .lss 3 t53_1 t52_1) fun t54_1 =>
  condM t54_1
  (pop P (Instr.fieldAt 32 g6_1 0) fun t56_1 =>
  rop P (Instr.loadAt 22 t56_1) h_21 fun t57_1 =>
  pop P (Instr.fieldAt 32 g6_1 0) fun t59_1 =>
  rop P (Instr.loadAt 22 t59_1) h_21 fun t60_1 =>
  pop P (Instr.indexAt 22 t60_1 t53_1) fun t62_1 =>
  rop P (Instr.loadAt 25 t62_1) h_21 fun t63_1 =>
  pop P (binA .add 3 t53_1 (Value.int IntKind.i64 1)) fun t65_1 =>
  pop P (binA .rem 3 t65_1 t14_1) fun t67_1 =>
  eop P (Instr.buildSlice 25 1 #[(0, t67_1)]) h_21 fun t68_1 h_22 =>
  (∀ w : World, w.heap = h_22 → (Instr.loadAt 25 t62_1).run P w = .ok t63_1 w) ∧
  (∀ w : World, w.heap = h_22 → (Instr.loadAt 22 t59_1).run P w = .ok t60_1 w) ∧
  (∀ w : World, w.heap = h_22 → (Instr.loadAt 22 t56_1).run P w = .ok t57_1 w) ∧
  eop P (appS 25 25 25 t63_1 t68_1) h_22 fun t69_1 h_23 =>
  (∀ w : World, w.heap = h_23 → (Instr.loadAt 22 t59_1).run P w = .ok t60_1 w) ∧
  (∀ w : World, w.heap = h_23 → (Instr.loadAt 22 t56_1).run P w = .ok t57_1 w) ∧
  pop P (Instr.indexAt 22 t57_1 t53_1) fun t70_1 =>
  uop P (Instr.storeAt 25 t70_1 t69_1) h_23 fun u_4 h_24 =>
  pop P (binA .add 3 t53_1 (Value.int IntKind.i64 1)) fun t71_1 =>
  I_3 [t71_1] h_24 ∧ μ_3 [t71_1] h_24 < μ_3 [t53_1] h_21)
  (rop P (Instr.loadAt 32 g6_1) h_21 fun t72_1 =>
  uop P (Instr.storeAt 32 t4_1 t72_1) h_21 fun u_5 h_25 =>
  rop P (Instr.loadAt 32 t4_1) h_25 fun r_2 =>
  K r_2 h_25))
  (rop P (Instr.loadAt 32 g6_1) h_20 fun t72_2 =>
  uop P (Instr.storeAt 32 t4_1 t72_2) h_20 fun u_6 h_26 =>
  rop P (Instr.loadAt 32 t4_1) h_26 fun r_3 =>
  K r_3 h_26)))
theorem e163 (c0_1 : Value) (most1_1 : Value) (h : Heap) (K : Value → Heap → Prop) : wpA Try.prog 73 (anOf [(250, [7]), (2026, [53]), (16019, [8]), (64074, [8, 9])]) (bodyOf Try.f163) 1 (fun A h => resA Try.prog A h K [.cell 4 32]) (fun _ _ _ => False) (fun A h => resA Try.prog A h K [.cell 4 32]) (aargs [c0_1, most1_1] 0) h = t163 Try.prog c0_1 most1_1 h K := by kernel_rfl
theorem c163 (c0_1 : Value) (most1_1 : Value) (h : Heap) (K : Value → Heap → Prop) (H : t163 Try.prog c0_1 most1_1 h K) : callM Try.prog 163 #[c0_1, most1_1] h K :=
  callM_of_wpA mixed (fn := Try.f163) Try.func163 (c := bodyOf Try.f163) rfl (of_decide_eq_true (by kernel_rfl)) (anOf [(250, [7]), (2026, [53]), (16019, [8]), (64074, [8, 9])]) 71 73 (by kernel_rfl) rfl [.cell 4 32] (by kernel_rfl) (args := [c0_1, most1_1]) (by rw [e163]; exact H)

/-! spec.grGood -/
def t165 (P : Program) (g0_1 : Value) (h : Heap) (K : Value → Heap → Prop) : Prop :=
  eop P (Instr.box 32 g0_1) h fun g1_1 h_1 =>
  pop P (Instr.fieldAt 32 g1_1 0) fun t6_1 =>
  rop P (Instr.loadAt 22 t6_1) h_1 fun t7_1 =>
  pop P (lenS 22 3 t7_1) fun t8_1 =>
  callM P 117 #[t8_1, (Value.int IntKind.i64 1), (Value.int IntKind.i64 8)] h_1 fun t10_1 h_2 =>
  pop P (Op.unary .not t10_1) fun t11_1 =>
  condM t11_1
  (K (Value.bool false) h_2)
  (pop P (Instr.fieldAt 32 g1_1 0) fun t12_1 =>
  rop P (Instr.loadAt 22 t12_1) h_2 fun t13_1 =>
  pop P (lenS 22 3 t13_1) fun t14_1 =>
  ∃ (I_1 : List Value → Heap → Prop) (μ_1 : List Value → Heap → Nat), I_1 [(Value.int IntKind.i64 0)] h_2 ∧
  ∀ (junk_1 : Nat → Value) (t15_1 : Value) (h_3 : Heap), I_1 [t15_1] h_3 →
  pop P (binA .lss 3 t15_1 t14_1) fun t16_1 =>
  condM t16_1
  (pop P (Instr.indexAt 22 t13_1 t15_1) fun t17_1 =>
  rop P (Instr.loadAt 25 t17_1) h_3 fun t18_1 =>
  pop P (lenS 25 3 t18_1) fun t20_1 =>
  pop P (binA .gtr 3 t20_1 (Value.int IntKind.i64 5)) fun t21_1 =>
  guardM (asG t21_1 false) false (fun k_1 => k_1 t18_1 h_3) h_3 fun t23_1 h_4 =>
  guardM (asG t21_1 false) false (fun k_2 => k_2 t8_1 h_4) h_4 fun t24_1 h_5 =>
  guardM (asG t21_1 false) false (fun k_3 => pop P (binA .sub 3 t24_1 (Value.int IntKind.i64 1)) fun t25_1 =>
  k_3 t25_1 h_5) h_5 fun t25_2 h_6 =>
  guardM (asG t21_1 false) false (fun k_4 => callM P 104 #[t23_1, (Value.int IntKind.i64 0), t25_2] h_6 fun t26_1 h_7 =>
  k_4 t26_1 h_7) h_6 fun t26_2 h_8 =>
  guardM (asG t21_1 false) false (fun k_5 => pop P (Op.unary .not t26_2) fun t27_1 =>
  k_5 t27_1 h_8) h_8 fun t27_2 h_9 =>
  pop P (pickS t21_1 (Value.bool true) t27_2) fun t28_1 =>
  condM t28_1
  (K (Value.bool false) h_9)
  (pop P (binA .add 3 t15_1 (Value.int IntKind.i64 1)) fun t29_1 =>
  I_1 [t29_1] h_9 ∧ μ_1 [t29_1] h_9 < μ_1 [t15_1] h_3))
  (K (Value.bool true) h_3))
theorem e165 (g0_1 : Value) (h : Heap) (K : Value → Heap → Prop) : wpA Try.prog 30 (anOf [(122, [15])]) (bodyOf Try.f165) 1 (fun A h => resA Try.prog A h K [.tmp 2]) (fun _ _ _ => False) (fun A h => resA Try.prog A h K [.tmp 2]) (aargs [g0_1] 0) h = t165 Try.prog g0_1 h K := by kernel_rfl
theorem c165 (g0_1 : Value) (h : Heap) (K : Value → Heap → Prop) (H : t165 Try.prog g0_1 h K) : callM Try.prog 165 #[g0_1] h K :=
  callM_of_wpA mixed (fn := Try.f165) Try.func165 (c := bodyOf Try.f165) rfl (of_decide_eq_true (by kernel_rfl)) (anOf [(122, [15])]) 29 30 (by kernel_rfl) rfl [.tmp 2] (by kernel_rfl) (args := [g0_1]) (by rw [e165]; exact H)

/-! spec.l1Most -/
def t173 (P : Program) (a0_1 : Value) (b1_1 : Value) (h : Heap) (K : Value → Heap → Prop) : Prop :=
  pop P (binA .gtr 3 a0_1 b1_1) fun t7_1 =>
  condM t7_1
  (K a0_1 h)
  (K b1_1 h)
theorem e173 (a0_1 : Value) (b1_1 : Value) (h : Heap) (K : Value → Heap → Prop) : wpA Try.prog 10 (anOf []) (bodyOf Try.f173) 1 (fun A h => resA Try.prog A h K [.tmp 4]) (fun _ _ _ => False) (fun A h => resA Try.prog A h K [.tmp 4]) (aargs [a0_1, b1_1] 0) h = t173 Try.prog a0_1 b1_1 h K := by kernel_rfl
theorem c173 (a0_1 : Value) (b1_1 : Value) (h : Heap) (K : Value → Heap → Prop) (H : t173 Try.prog a0_1 b1_1 h K) : callM Try.prog 173 #[a0_1, b1_1] h K :=
  callM_of_wpA mixed (fn := Try.f173) Try.func173 (c := bodyOf Try.f173) rfl (of_decide_eq_true (by kernel_rfl)) (anOf []) 8 10 (by kernel_rfl) rfl [.tmp 4] (by kernel_rfl) (args := [a0_1, b1_1]) (by rw [e173]; exact H)

/-! impl.isWalk -/
def t174 (P : Program) (g0_1 : Value) (w1_1 : Value) (h : Heap) (K : Value → Heap → Prop) : Prop :=
  eop P (Instr.box 32 g0_1) h fun g2_1 h_1 =>
  eop P (Instr.box 132 w1_1) h_1 fun w3_1 h_2 =>
  rop P (Instr.loadAt 32 g2_1) h_2 fun t7_1 =>
  pop P (Instr.fieldAt 132 w3_1 1) fun t8_1 =>
  rop P (Instr.loadAt 3 t8_1) h_2 fun t9_1 =>
  eop P (Instr.buildSlice 25 1 #[(0, t9_1)]) h_2 fun t10_1 h_3 =>
  callM P 107 #[t7_1, t10_1] h_3 fun t11_1 h_4 =>
  pop P (Op.unary .not t11_1) fun t12_1 =>
  guardM (asG t12_1 false) false (fun k_1 => pop P (Instr.fieldAt 132 w3_1 0) fun t14_1 =>
  k_1 t14_1 h_4) h_4 fun t14_2 h_5 =>
  guardM (asG t12_1 false) false (fun k_2 => rop P (Instr.loadAt 25 t14_2) h_5 fun t15_1 =>
  k_2 t15_1 h_5) h_5 fun t15_2 h_6 =>
  guardM (asG t12_1 false) false (fun k_3 => pop P (lenS 25 3 t15_2) fun t16_1 =>
  k_3 t16_1 h_6) h_6 fun t16_2 h_7 =>
  guardM (asG t12_1 false) false (fun k_4 => pop P (Instr.fieldAt 32 g2_1 0) fun t17_1 =>
  k_4 t17_1 h_7) h_7 fun t17_2 h_8 =>
  guardM (asG t12_1 false) false (fun k_5 => rop P (Instr.loadAt 22 t17_2) h_8 fun t18_1 =>
  k_5 t18_1 h_8) h_8 fun t18_2 h_9 =>
  guardM (asG t12_1 false) false (fun k_6 => pop P (lenS 22 3 t18_2) fun t19_1 =>
  k_6 t19_1 h_9) h_9 fun t19_2 h_10 =>
  guardM (asG t12_1 false) false (fun k_7 => pop P (binE .neq 3 (.tmp 16) (.tmp 19) t16_2 t19_2) fun t20_1 =>
  k_7 t20_1 h_10) h_10 fun t20_2 h_11 =>
  pop P (pickS t12_1 (Value.bool true) t20_2) fun t21_1 =>
  condM t21_1
  (K (Value.bool false) h_11)
  (pop P (Instr.fieldAt 132 w3_1 0) fun t22_1 =>
  rop P (Instr.loadAt 25 t22_1) h_11 fun t23_1 =>
  pop P (lenS 25 3 t23_1) fun t24_1 =>
  ∃ (I_1 : List Value → Heap → Prop) (μ_1 : List Value → Heap → Nat), I_1 [(Value.int IntKind.i64 0)] h_11 ∧
  ∀ (junk_1 : Nat → Value) (t25_1 : Value) (h_12 : Heap), I_1 [t25_1] h_12 →
  pop P (binA .lss 3 t25_1 t24_1) fun t26_1 =>
  condM t26_1
  (pop P (Instr.indexAt 25 t23_1 t25_1) fun t28_1 =>
  rop P (Instr.loadAt 3 t28_1) h_12 fun t29_1 =>
  pop P (Instr.fieldAt 32 g2_1 0) fun t31_1 =>
  rop P (Instr.loadAt 22 t31_1) h_12 fun t32_1 =>
  pop P (Instr.indexAt 22 t32_1 t25_1) fun t34_1 =>
  rop P (Instr.loadAt 25 t34_1) h_12 fun t35_1 =>
  pop P (lenS 25 3 t35_1) fun t36_1 =>
  pop P (binA .sub 3 t36_1 (Value.int IntKind.i64 1)) fun t37_1 =>
  pop P (Builtin.max_ #[3, 3] 3 #[t37_1, (Value.int IntKind.i64 0)]) fun t38_1 =>
  callM P 113 #[t29_1, (Value.int IntKind.i64 0), t38_1] h_12 fun t39_1 h_13 =>
  pop P (Op.unary .not t39_1) fun t40_1 =>
  condM t40_1
  (K (Value.bool false) h_13)
  (pop P (binA .add 3 t25_1 (Value.int IntKind.i64 1)) fun t41_1 =>
  I_1 [t41_1] h_13 ∧ μ_1 [t41_1] h_13 < μ_1 [t25_1] h_12))
  (K (Value.bool true) h_12))
theorem e174 (g0_1 : Value) (w1_1 : Value) (h : Heap) (K : Value → Heap → Prop) : wpA Try.prog 42 (anOf [(58, [25])]) (bodyOf Try.f174) 1 (fun A h => resA Try.prog A h K [.tmp 4]) (fun _ _ _ => False) (fun A h => resA Try.prog A h K [.tmp 4]) (aargs [g0_1, w1_1] 0) h = t174 Try.prog g0_1 w1_1 h K := by kernel_rfl
theorem c174 (g0_1 : Value) (w1_1 : Value) (h : Heap) (K : Value → Heap → Prop) (H : t174 Try.prog g0_1 w1_1 h K) : callM Try.prog 174 #[g0_1, w1_1] h K :=
  callM_of_wpA mixed (fn := Try.f174) Try.func174 (c := bodyOf Try.f174) rfl (of_decide_eq_true (by kernel_rfl)) (anOf [(58, [25])]) 40 42 (by kernel_rfl) rfl [.tmp 4] (by kernel_rfl) (args := [g0_1, w1_1]) (by rw [e174]; exact H)

/-! impl.areChips$1 -/
def t175 (P : Program) (n0_1 : Value) (h : Heap) (K : Value → Heap → Prop) : Prop :=
  callM P 113 #[n0_1, (Value.int IntKind.i64 0), (Value.int IntKind.i64 20)] h fun t4_1 h_1 =>
  pop P (Op.unary .not t4_1) fun t5_1 =>
  K t5_1 h_1
theorem e175 (n0_1 : Value) (h : Heap) (K : Value → Heap → Prop) : wpA Try.prog 6 (anOf []) (bodyOf Try.f175) 1 (fun A h => resA Try.prog A h K [.tmp 2]) (fun _ _ _ => False) (fun A h => resA Try.prog A h K [.tmp 2]) (aargs [n0_1] 0) h = t175 Try.prog n0_1 h K := by kernel_rfl
theorem c175 (n0_1 : Value) (h : Heap) (K : Value → Heap → Prop) (H : t175 Try.prog n0_1 h K) : callM Try.prog 175 #[n0_1] h K :=
  callM_of_wpA mixed (fn := Try.f175) Try.func175 (c := bodyOf Try.f175) rfl (of_decide_eq_true (by kernel_rfl)) (anOf []) 5 6 (by kernel_rfl) rfl [.tmp 2] (by kernel_rfl) (args := [n0_1]) (by rw [e175]; exact H)

/-! (impl.Graph).step -/
def t176 (P : Program) (g0_1 : Value) (w1_1 : Value) (h : Heap) (K : Value → Heap → Prop) : Prop :=
  eop P (Instr.box 32 g0_1) h fun g2_1 h_1 =>
  pop P (Instr.fieldAt 32 g2_1 0) fun t6_1 =>
  rop P (Instr.loadAt 22 t6_1) h_1 fun t7_1 =>
  pop P (nilS w1_1) fun t9_1 =>
  pop P (Instr.fieldAt 132 t9_1 1) fun t10_1 =>
  rop P (Instr.loadAt 3 t10_1) h_1 fun t11_1 =>
  pop P (Instr.indexAt 22 t7_1 t11_1) fun t12_1 =>
  rop P (Instr.loadAt 25 t12_1) h_1 fun t13_1 =>
  pop P (lenS 25 3 t13_1) fun t15_1 =>
  pop P (binE .eql 3 (.tmp 15) (.const (Value.int IntKind.i64 0)) t15_1 (Value.int IntKind.i64 0)) fun t16_1 =>
  condM t16_1
  (K (Value.bool false) h_1)
  (pop P (nilS w1_1) fun t18_1 =>
  pop P (Instr.fieldAt 132 t18_1 0) fun t19_1 =>
  rop P (Instr.loadAt 25 t19_1) h_1 fun t20_1 =>
  pop P (nilS w1_1) fun t22_1 =>
  pop P (Instr.fieldAt 132 t22_1 1) fun t23_1 =>
  rop P (Instr.loadAt 3 t23_1) h_1 fun t24_1 =>
  pop P (nilS w1_1) fun t26_1 =>
  pop P (Instr.fieldAt 132 t26_1 0) fun t27_1 =>
  rop P (Instr.loadAt 25 t27_1) h_1 fun t28_1 =>
  pop P (nilS w1_1) fun t30_1 =>
  pop P (Instr.fieldAt 132 t30_1 1) fun t31_1 =>
  rop P (Instr.loadAt 3 t31_1) h_1 fun t32_1 =>
  pop P (Instr.indexAt 25 t28_1 t32_1) fun t33_1 =>
  rop P (Instr.loadAt 3 t33_1) h_1 fun t34_1 =>
  pop P (binA .add 3 t34_1 (Value.int IntKind.i64 1)) fun t35_1 =>
  pop P (lenS 25 3 t13_1) fun t37_1 =>
  pop P (binA .rem 3 t35_1 t37_1) fun t38_1 =>
  pop P (Instr.indexAt 25 t20_1 t24_1) fun t39_1 =>
  uop P (Instr.storeAt 3 t39_1 t38_1) h_1 fun u_1 h_2 =>
  pop P (nilS w1_1) fun t43_1 =>
  pop P (Instr.fieldAt 132 t43_1 0) fun t44_1 =>
  rop P (Instr.loadAt 25 t44_1) h_2 fun t45_1 =>
  pop P (nilS w1_1) fun t47_1 =>
  pop P (Instr.fieldAt 132 t47_1 1) fun t48_1 =>
  rop P (Instr.loadAt 3 t48_1) h_2 fun t49_1 =>
  pop P (Instr.indexAt 25 t45_1 t49_1) fun t50_1 =>
  rop P (Instr.loadAt 3 t50_1) h_2 fun t51_1 =>
  pop P (Instr.indexAt 25 t13_1 t51_1) fun t52_1 =>
  rop P (Instr.loadAt 3 t52_1) h_2 fun t53_1 =>
  pop P (nilS w1_1) fun t54_1 =>
  pop P (Instr.fieldAt 132 t54_1 1) fun t55_1 =>
  uop P (Instr.storeAt 3 t55_1 t53_1) h_2 fun u_2 h_3 =>
  K (Value.bool true) h_3)
theorem e176 (g0_1 : Value) (w1_1 : Value) (h : Heap) (K : Value → Heap → Prop) : wpA Try.prog 56 (anOf []) (bodyOf Try.f176) 1 (fun A h => resA Try.prog A h K [.tmp 4]) (fun _ _ _ => False) (fun A h => resA Try.prog A h K [.tmp 4]) (aargs [g0_1, w1_1] 0) h = t176 Try.prog g0_1 w1_1 h K := by kernel_rfl
theorem c176 (g0_1 : Value) (w1_1 : Value) (h : Heap) (K : Value → Heap → Prop) (H : t176 Try.prog g0_1 w1_1 h K) : callM Try.prog 176 #[g0_1, w1_1] h K :=
  callM_of_wpA mixed (fn := Try.f176) Try.func176 (c := bodyOf Try.f176) rfl (of_decide_eq_true (by kernel_rfl)) (anOf []) 54 56 (by kernel_rfl) rfl [.tmp 4] (by kernel_rfl) (args := [g0_1, w1_1]) (by rw [e176]; exact H)

/-! spec.grFar -/
def t186 (P : Program) (g0_1 : Value) (p1_1 : Value) (h : Heap) (K : Value → Heap → Prop) : Prop :=
  eop P (Instr.box 32 g0_1) h fun g2_1 h_1 =>
  pop P (Instr.fieldAt 32 g2_1 0) fun t11_1 =>
  rop P (Instr.loadAt 22 t11_1) h_1 fun t12_1 =>
  pop P (lenS 22 3 t12_1) fun t13_1 =>
  eop P (Instr.makeSlice 25 t13_1 t13_1) h_1 fun t14_1 h_2 =>
  pop P (lenS 25 3 t14_1) fun t16_1 =>
  ∃ (I_1 : List Value → Heap → Prop) (μ_1 : List Value → Heap → Nat), I_1 [(Value.int IntKind.i64 0)] h_2 ∧
  ∀ (junk_1 : Nat → Value) (t17_1 : Value) (h_3 : Heap), I_1 [t17_1] h_3 →
  pop P (binA .lss 3 t17_1 t16_1) fun t18_1 =>
  condM t18_1
  (pop P (Instr.indexAt 25 t14_1 t17_1) fun t22_1 =>
  uop P (Instr.storeAt 3 t22_1 (Value.int IntKind.i64 (-1))) h_3 fun u_1 h_4 =>
  pop P (binA .add 3 t17_1 (Value.int IntKind.i64 1)) fun t23_1 =>
  I_1 [t23_1] h_4 ∧ μ_1 [t23_1] h_4 < μ_1 [t17_1] h_3)
  (pop P (Instr.indexAt 25 t14_1 p1_1) fun t26_1 =>
  uop P (Instr.storeAt 3 t26_1 (Value.int IntKind.i64 0)) h_3 fun u_2 h_5 =>
  eop P (Instr.buildSlice 25 1 #[(0, p1_1)]) h_5 fun t28_1 h_6 =>
  ∃ (I_2 : List Value → Heap → Prop) (μ_2 : List Value → Heap → Nat), I_2 [t28_1, (Value.int IntKind.i64 0)] h_6 ∧
  ∀ (junk_2 : Nat → Value) (queue7_1 : Value) (k8_1 : Value) (h_7 : Heap), I_2 [queue7_1, k8_1] h_7 →
  pop P (lenS 25 3 queue7_1) fun t31_1 =>
  pop P (binA .lss 3 k8_1 t31_1) fun t32_1 =>
  condM t32_1
  (pop P (Instr.fieldAt 32 g2_1 0) fun t35_1 =>
  rop P (Instr.loadAt 22 t35_1) h_7 fun t36_1 =>
  pop P (Instr.indexAt 25 queue7_1 k8_1) fun t39_1 =>
  rop P (Instr.loadAt 3 t39_1) h_7 fun t40_1 =>
  pop P (Instr.indexAt 22 t36_1 t40_1) fun t41_1 =>
  rop P (Instr.loadAt 25 t41_1) h_7 fun t42_1 =>
  pop P (lenS 25 3 t42_1) fun t43_1 =>
  ∃ (I_3 : List Value → Heap → Prop) (μ_3 : List Value → Heap → Nat), I_3 [queue7_1, (Value.int IntKind.i64 0)] h_7 ∧
  ∀ (junk_3 : Nat → Value) (queue7_2 : Value) (t44_1 : Value) (h_8 : Heap), I_3 [queue7_2, t44_1] h_8 →
  pop P (binA .lss 3 t44_1 t43_1) fun t45_1 =>
  condM t45_1
  (pop P (Instr.indexAt 25 t42_1 t44_1) fun t46_1 =>
  rop P (Instr.loadAt 3 t46_1) h_8 fun t47_1 =>
  pop P (Instr.indexAt 25 t14_1 t47_1) fun t50_1 =>
  rop P (Instr.loadAt 3 t50_1) h_8 fun t51_1 =>
  pop P (binA .lss 3 t51_1 (Value.int IntKind.i64 0)) fun t52_1 =>
  condM t52_1
  (pop P (Instr.indexAt 25 queue7_2 k8_1) fun t58_1 =>
  rop P (Instr.loadAt 3 t58_1) h_8 fun t59_1 =>
  pop P (Instr.indexAt 25 t14_1 t59_1) fun t60_1 =>
  rop P (Instr.loadAt 3 t60_1) h_8 fun t61_1 =>
  pop P (binA .add 3 t61_1 (Value.int IntKind.i64 1)) fun t62_1 =>
  pop P (Instr.indexAt 25 t14_1 t47_1) fun t63_1 =>
  uop P (Instr.storeAt 3 t63_1 t62_1) h_8 fun u_3 h_9 =>
  eop P (Instr.buildSlice 25 1 #[(0, t47_1)]) h_9 fun t66_1 h_10 =>
  eop P (appS 25 25 25 queue7_2 t66_1) h_10 fun t67_1 h_11 =>
  pop P (binA .add 3 t44_1 (Value.int IntKind.i64 1)) fun t68_1 =>
  I_3 [t67_1, t68_1] h_11 ∧ μ_3 [t67_1, t68_1] h_11 < μ_3 [queue7_2, t44_1] h_8)
  (pop P (binA .add 3 t44_1 (Value.int IntKind.i64 1)) fun t68_2 =>
  I_3 [queue7_2, t68_2] h_8 ∧ μ_3 [queue7_2, t68_2] h_8 < μ_3 [queue7_2, t44_1] h_8))
  (pop P (binA .add 3 k8_1 (Value.int IntKind.i64 1)) fun t34_1 =>
  I_2 [queue7_2, t34_1] h_8 ∧ μ_2 [queue7_2, t34_1] h_8 < μ_2 [queue7_1, k8_1] h_7))
  (K t14_1 h_7))
theorem e186 (g0_1 : Value) (p1_1 : Value) (h : Heap) (K : Value → Heap → Prop) : wpA Try.prog 70 (anOf [(58, [17]), (506, [7, 8]), (32402, [7, 44])]) (bodyOf Try.f186) 1 (fun A h => resA Try.prog A h K [.tmp 4]) (fun _ _ _ => False) (fun A h => resA Try.prog A h K [.tmp 4]) (aargs [g0_1, p1_1] 0) h = t186 Try.prog g0_1 p1_1 h K := by kernel_rfl
theorem c186 (g0_1 : Value) (p1_1 : Value) (h : Heap) (K : Value → Heap → Prop) (H : t186 Try.prog g0_1 p1_1 h K) : callM Try.prog 186 #[g0_1, p1_1] h K :=
  callM_of_wpA mixed (fn := Try.f186) Try.func186 (c := bodyOf Try.f186) rfl (of_decide_eq_true (by kernel_rfl)) (anOf [(58, [17]), (506, [7, 8]), (32402, [7, 44])]) 68 70 (by kernel_rfl) rfl [.tmp 4] (by kernel_rfl) (args := [g0_1, p1_1]) (by rw [e186]; exact H)

/-! (impl.Graph).lengths -/
def t187 (P : Program) (g0_1 : Value) (p1_1 : Value) (h : Heap) (K : Value → Heap → Prop) : Prop :=
  eop P (Instr.box 32 g0_1) h fun g2_1 h_1 =>
  eop P (Instr.buildSlice 25 1 #[(0, (Value.int IntKind.i64 (-1)))]) h_1 fun t9_1 h_2 =>
  pop P (Instr.fieldAt 32 g2_1 0) fun t10_1 =>
  rop P (Instr.loadAt 22 t10_1) h_2 fun t11_1 =>
  pop P (lenS 22 3 t11_1) fun t12_1 =>
  callM P 197 #[t9_1, t12_1] h_2 fun t13_1 h_3 =>
  pop P (Instr.indexAt 25 t13_1 p1_1) fun t16_1 =>
  uop P (Instr.storeAt 3 t16_1 (Value.int IntKind.i64 0)) h_3 fun u_1 h_4 =>
  eop P (Instr.buildSlice 25 1 #[(0, p1_1)]) h_4 fun t18_1 h_5 =>
  ∃ (I_1 : List Value → Heap → Prop) (μ_1 : List Value → Heap → Nat), I_1 [t18_1] h_5 ∧
  ∀ (junk_1 : Nat → Value) (list6_1 : Value) (h_6 : Heap), I_1 [list6_1] h_6 →
  pop P (lenS 25 3 list6_1) fun t20_1 =>
  pop P (binA .gtr 3 t20_1 (Value.int IntKind.i64 0)) fun t21_1 =>
  condM t21_1
  (pop P (Instr.fieldAt 32 g2_1 0) fun t24_1 =>
  rop P (Instr.loadAt 22 t24_1) h_6 fun t25_1 =>
  pop P (Instr.indexAt 25 list6_1 (Value.int IntKind.i64 0)) fun t27_1 =>
  rop P (Instr.loadAt 3 t27_1) h_6 fun t28_1 =>
  pop P (Instr.indexAt 22 t25_1 t28_1) fun t29_1 =>
  rop P (Instr.loadAt 25 t29_1) h_6 fun t30_1 =>
  pop P (lenS 25 3 t30_1) fun t31_1 =>
  ∃ (I_2 : List Value → Heap → Prop) (μ_2 : List Value → Heap → Nat), I_2 [list6_1, (Value.int IntKind.i64 0)] h_6 ∧
  ∀ (junk_2 : Nat → Value) (list6_2 : Value) (t32_1 : Value) (h_7 : Heap), I_2 [list6_2, t32_1] h_7 →
  pop P (binA .lss 3 t32_1 t31_1) fun t33_1 =>
  condM t33_1
  (pop P (Instr.indexAt 25 t30_1 t32_1) fun t34_1 =>
  rop P (Instr.loadAt 3 t34_1) h_7 fun t35_1 =>
  pop P (Instr.indexAt 25 t13_1 t35_1) fun t38_1 =>
  rop P (Instr.loadAt 3 t38_1) h_7 fun t39_1 =>
  pop P (binA .lss 3 t39_1 (Value.int IntKind.i64 0)) fun t40_1 =>
  condM t40_1
  (pop P (Instr.indexAt 25 list6_2 (Value.int IntKind.i64 0)) fun t45_1 =>
  rop P (Instr.loadAt 3 t45_1) h_7 fun t46_1 =>
  pop P (Instr.indexAt 25 t13_1 t46_1) fun t47_1 =>
  rop P (Instr.loadAt 3 t47_1) h_7 fun t48_1 =>
  pop P (binA .add 3 t48_1 (Value.int IntKind.i64 1)) fun t49_1 =>
  pop P (Instr.indexAt 25 t13_1 t35_1) fun t50_1 =>
  uop P (Instr.storeAt 3 t50_1 t49_1) h_7 fun u_2 h_8 =>
  eop P (Instr.buildSlice 25 1 #[(0, t35_1)]) h_8 fun t53_1 h_9 =>
  eop P (appS 25 25 25 list6_2 t53_1) h_9 fun t54_1 h_10 =>
  pop P (binA .add 3 t32_1 (Value.int IntKind.i64 1)) fun t55_1 =>
  I_2 [t54_1, t55_1] h_10 ∧ μ_2 [t54_1, t55_1] h_10 < μ_2 [list6_2, t32_1] h_7)
  (pop P (binA .add 3 t32_1 (Value.int IntKind.i64 1)) fun t55_2 =>
  I_2 [list6_2, t55_2] h_7 ∧ μ_2 [list6_2, t55_2] h_7 < μ_2 [list6_2, t32_1] h_7))
  (pop P (Instr.sliceAt 25 list6_2 (some (Value.int IntKind.i64 1)) none none) fun t23_1 =>
  I_1 [t23_1] h_7 ∧ μ_1 [t23_1] h_7 < μ_1 [list6_1] h_6))
  (K t13_1 h_6)
theorem e187 (g0_1 : Value) (p1_1 : Value) (h : Heap) (K : Value → Heap → Prop) : wpA Try.prog 57 (anOf [(122, [6]), (7826, [6, 32])]) (bodyOf Try.f187) 1 (fun A h => resA Try.prog A h K [.tmp 4]) (fun _ _ _ => False) (fun A h => resA Try.prog A h K [.tmp 4]) (aargs [g0_1, p1_1] 0) h = t187 Try.prog g0_1 p1_1 h K := by kernel_rfl
theorem c187 (g0_1 : Value) (p1_1 : Value) (h : Heap) (K : Value → Heap → Prop) (H : t187 Try.prog g0_1 p1_1 h K) : callM Try.prog 187 #[g0_1, p1_1] h K :=
  callM_of_wpA mixed (fn := Try.f187) Try.func187 (c := bodyOf Try.f187) rfl (of_decide_eq_true (by kernel_rfl)) (anOf [(122, [6]), (7826, [6, 32])]) 55 57 (by kernel_rfl) rfl [.tmp 4] (by kernel_rfl) (args := [g0_1, p1_1]) (by rw [e187]; exact H)

/-! slices.Repeat[[]int,int] -/
def t197 (P : Program) (x0_1 : Value) (count1_1 : Value) (h : Heap) (K : Value → Heap → Prop) : Prop :=
  ∃ J_1 : List Value → Heap → Prop, (pop P (binA .lss 3 count1_1 (Value.int IntKind.i64 0)) fun t10_1 =>
  condM t10_1
  (pop P (Instr.makeInterface 9 (Value.string { data := #[99, 97, 110, 110, 111, 116, 32, 98, 101, 32, 110, 101, 103, 97, 116, 105, 118, 101] })) fun t11_1 =>
  False)
  (J_1 [] h)) ∧
  ∀ (junk_1 : Nat → Value) (h_1 : Heap), J_1 [] h_1 →
  pop P (lenS 25 3 x0_1) fun t14_1 =>
  rop P (convert 3 170 t14_1) h_1 fun t15_1 =>
  rop P (convert 3 170 count1_1) h_1 fun t17_1 =>
  callM P 211 #[t15_1, t17_1] h_1 fun t18_1 h_2 =>
  pop P (Instr.extract t18_1 0) fun t19_1 =>
  pop P (Instr.extract t18_1 1) fun t20_1 =>
  ∃ J_2 : List Value → Heap → Prop, (pop P (binA .gtr 170 t19_1 (Value.int IntKind.u64 0)) fun t22_1 =>
  guardM (asG t22_1 false) false (fun k_1 => k_1 t20_1 h_2) h_2 fun t24_1 h_3 =>
  guardM (asG t22_1 false) false (fun k_2 => pop P (binA .gtr 170 t24_1 (Value.int IntKind.u64 9223372036854775807)) fun t25_1 =>
  k_2 t25_1 h_3) h_3 fun t25_2 h_4 =>
  pop P (pickS t22_1 (Value.bool true) t25_2) fun t26_1 =>
  condM t26_1
  (pop P (Instr.makeInterface 9 (Value.string { data := #[116, 104, 101, 32, 114, 101, 115, 117, 108, 116, 32, 111, 102, 32, 40, 108, 101, 110, 40, 120, 41, 32, 42, 32, 99, 111, 117, 110, 116, 41, 32, 111, 118, 101, 114, 102, 108, 111, 119, 115] })) fun t27_1 =>
  False)
  (J_2 [] h_4)) ∧
  ∀ (junk_2 : Nat → Value) (h_5 : Heap), J_2 [] h_5 →
  rop P (convert 170 3 t20_1) h_5 fun t29_1 =>
  eop P (Instr.makeSlice 25 t29_1 t29_1) h_5 fun t30_1 h_6 =>
  eop P (Builtin.copy_ #[25, 25] 3 #[t30_1, x0_1]) h_6 fun t33_1 h_7 =>
  ∃ (I_1 : List Value → Heap → Prop) (μ_1 : List Value → Heap → Nat), I_1 [t33_1] h_7 ∧
  ∀ (junk_3 : Nat → Value) (n8_1 : Value) (h_8 : Heap), I_1 [n8_1] h_8 →
  pop P (lenS 25 3 t30_1) fun t36_1 =>
  pop P (binA .lss 3 n8_1 t36_1) fun t37_1 =>
  condM t37_1
  (pop P (Instr.sliceAt 25 t30_1 (some n8_1) none none) fun t41_1 =>
  pop P (Instr.sliceAt 25 t30_1 none (some n8_1) none) fun t44_1 =>
  eop P (Builtin.copy_ #[25, 25] 3 #[t41_1, t44_1]) h_8 fun t45_1 h_9 =>
  pop P (binA .add 3 n8_1 t45_1) fun t46_1 =>
  I_1 [t46_1] h_9 ∧ μ_1 [t46_1] h_9 < μ_1 [n8_1] h_8)
  (K t30_1 h_8)
theorem e197 (x0_1 : Value) (count1_1 : Value) (h : Heap) (K : Value → Heap → Prop) : wpA Try.prog 48 (anOf [(3, []), (15, []), (508, [8])]) (bodyOf Try.f197) 1 (fun A h => resA Try.prog A h K [.tmp 4]) (fun _ _ _ => False) (fun A h => resA Try.prog A h K [.tmp 4]) (aargs [x0_1, count1_1] 0) h = t197 Try.prog x0_1 count1_1 h K := by kernel_rfl
theorem c197 (x0_1 : Value) (count1_1 : Value) (h : Heap) (K : Value → Heap → Prop) (H : t197 Try.prog x0_1 count1_1 h K) : callM Try.prog 197 #[x0_1, count1_1] h K :=
  callM_of_wpA mixed (fn := Try.f197) Try.func197 (c := bodyOf Try.f197) rfl (of_decide_eq_true (by kernel_rfl)) (anOf [(3, []), (15, []), (508, [8])]) 46 48 (by kernel_rfl) rfl [.tmp 4] (by kernel_rfl) (args := [x0_1, count1_1]) (by rw [e197]; exact H)

/-! math/bits.Mul -/
def t211 (P : Program) (x0_1 : Value) (y1_1 : Value) (h : Heap) (K : Value → Heap → Prop) : Prop :=
  condM (Value.bool false)
  (rop P (convert 170 184 x0_1) h fun t12_1 =>
  rop P (convert 170 184 y1_1) h fun t14_1 =>
  callM P 218 #[t12_1, t14_1] h fun t15_1 h_1 =>
  pop P (Instr.extract t15_1 0) fun t16_1 =>
  pop P (Instr.extract t15_1 1) fun t17_1 =>
  rop P (convert 184 170 t16_1) h_1 fun t19_1 =>
  rop P (convert 184 170 t17_1) h_1 fun t21_1 =>
  K (.tuple #[t19_1, t21_1]) h_1)
  (callM P 219 #[x0_1, y1_1] h fun t25_1 h_2 =>
  pop P (Instr.extract t25_1 0) fun t26_1 =>
  pop P (Instr.extract t25_1 1) fun t27_1 =>
  K (.tuple #[t26_1, t27_1]) h_2)
theorem e211 (x0_1 : Value) (y1_1 : Value) (h : Heap) (K : Value → Heap → Prop) : wpA Try.prog 30 (anOf []) (bodyOf Try.f211) 1 (fun A h => resA Try.prog A h K [.tmp 4, .tmp 5]) (fun _ _ _ => False) (fun A h => resA Try.prog A h K [.tmp 4, .tmp 5]) (aargs [x0_1, y1_1] 0) h = t211 Try.prog x0_1 y1_1 h K := by kernel_rfl
theorem c211 (x0_1 : Value) (y1_1 : Value) (h : Heap) (K : Value → Heap → Prop) (H : t211 Try.prog x0_1 y1_1 h K) : callM Try.prog 211 #[x0_1, y1_1] h K :=
  callM_of_wpA mixed (fn := Try.f211) Try.func211 (c := bodyOf Try.f211) rfl (of_decide_eq_true (by kernel_rfl)) (anOf []) 28 30 (by kernel_rfl) rfl [.tmp 4, .tmp 5] (by kernel_rfl) (args := [x0_1, y1_1]) (by rw [e211]; exact H)

/-! math/bits.Mul32 -/
def t218 (P : Program) (x0_1 : Value) (y1_1 : Value) (h : Heap) (K : Value → Heap → Prop) : Prop :=
  rop P (convert 184 107 x0_1) h fun t8_1 =>
  rop P (convert 184 107 y1_1) h fun t10_1 =>
  pop P (binA .mul 107 t8_1 t10_1) fun t11_1 =>
  pop P (binA .shr 107 t11_1 (Value.int IntKind.u64 32)) fun t13_1 =>
  rop P (convert 107 184 t13_1) h fun t14_1 =>
  rop P (convert 107 184 t11_1) h fun t16_1 =>
  K (.tuple #[t14_1, t16_1]) h
theorem e218 (x0_1 : Value) (y1_1 : Value) (h : Heap) (K : Value → Heap → Prop) : wpA Try.prog 17 (anOf []) (bodyOf Try.f218) 1 (fun A h => resA Try.prog A h K [.tmp 4, .tmp 5]) (fun _ _ _ => False) (fun A h => resA Try.prog A h K [.tmp 4, .tmp 5]) (aargs [x0_1, y1_1] 0) h = t218 Try.prog x0_1 y1_1 h K := by kernel_rfl
theorem c218 (x0_1 : Value) (y1_1 : Value) (h : Heap) (K : Value → Heap → Prop) (H : t218 Try.prog x0_1 y1_1 h K) : callM Try.prog 218 #[x0_1, y1_1] h K :=
  callM_of_wpA mixed (fn := Try.f218) Try.func218 (c := bodyOf Try.f218) rfl (of_decide_eq_true (by kernel_rfl)) (anOf []) 15 17 (by kernel_rfl) rfl [.tmp 4, .tmp 5] (by kernel_rfl) (args := [x0_1, y1_1]) (by rw [e218]; exact H)

/-! math/bits.Mul64 -/
def t219 (P : Program) (x0_1 : Value) (y1_1 : Value) (h : Heap) (K : Value → Heap → Prop) : Prop :=
  pop P (binA .and 107 x0_1 (Value.int IntKind.u64 4294967295)) fun t15_1 =>
  pop P (binA .shr 107 x0_1 (Value.int IntKind.u64 32)) fun t17_1 =>
  pop P (binA .and 107 y1_1 (Value.int IntKind.u64 4294967295)) fun t19_1 =>
  pop P (binA .shr 107 y1_1 (Value.int IntKind.u64 32)) fun t21_1 =>
  pop P (binA .mul 107 t15_1 t19_1) fun t24_1 =>
  pop P (binA .mul 107 t17_1 t19_1) fun t27_1 =>
  pop P (binA .shr 107 t24_1 (Value.int IntKind.u64 32)) fun t29_1 =>
  pop P (binA .add 107 t27_1 t29_1) fun t30_1 =>
  pop P (binA .and 107 t30_1 (Value.int IntKind.u64 4294967295)) fun t32_1 =>
  pop P (binA .shr 107 t30_1 (Value.int IntKind.u64 32)) fun t34_1 =>
  pop P (binA .mul 107 t15_1 t21_1) fun t38_1 =>
  pop P (binA .add 107 t32_1 t38_1) fun t39_1 =>
  pop P (binA .mul 107 t17_1 t21_1) fun t42_1 =>
  pop P (binA .add 107 t42_1 t34_1) fun t44_1 =>
  pop P (binA .shr 107 t39_1 (Value.int IntKind.u64 32)) fun t46_1 =>
  pop P (binA .add 107 t44_1 t46_1) fun t47_1 =>
  pop P (binA .mul 107 x0_1 y1_1) fun t50_1 =>
  K (.tuple #[t47_1, t50_1]) h
theorem e219 (x0_1 : Value) (y1_1 : Value) (h : Heap) (K : Value → Heap → Prop) : wpA Try.prog 51 (anOf []) (bodyOf Try.f219) 1 (fun A h => resA Try.prog A h K [.tmp 4, .tmp 5]) (fun _ _ _ => False) (fun A h => resA Try.prog A h K [.tmp 4, .tmp 5]) (aargs [x0_1, y1_1] 0) h = t219 Try.prog x0_1 y1_1 h K := by kernel_rfl
theorem c219 (x0_1 : Value) (y1_1 : Value) (h : Heap) (K : Value → Heap → Prop) (H : t219 Try.prog x0_1 y1_1 h K) : callM Try.prog 219 #[x0_1, y1_1] h K :=
  callM_of_wpA mixed (fn := Try.f219) Try.func219 (c := bodyOf Try.f219) rfl (of_decide_eq_true (by kernel_rfl)) (anOf []) 49 51 (by kernel_rfl) rfl [.tmp 4, .tmp 5] (by kernel_rfl) (args := [x0_1, y1_1]) (by rw [e219]; exact H)

end Go.Proofs.Ytbhnecochpehdaa
