import Derived.Test.YtkjkfjkapbpgiaaGreatProg
import Derived.Test.YtkjkfjkapbpgiaaGreatM1
set_option linter.unusedVariables false
namespace Go.Proofs.YtkjkfjkapbpgiaaGreat
open Go Go.Mx
theorem mixed : Tryz.prog.follows .mixedOrders = true := by kernel_rfl
def t3 (P : Program) (code0_1 : Value) (more1_1 : Value) (h : Heap) (K : Value → Heap → Prop) : Prop :=
  callM P 5 #[code0_1, more1_1] h fun t53_1 h_1 =>
  condM t53_1
  (K (Value.bool true) h_1)
  (callM P 6 #[code0_1] h_1 fun t56_1 h_2 =>
  pop P (Instr.extract t56_1 0) fun t57_1 =>
  pop P (Instr.extract t56_1 1) fun t58_1 =>
  pop P (Instr.extract t56_1 2) fun t59_1 =>
  pop P (Instr.extract t56_1 3) fun t60_1 =>
  eop P (Instr.alloc 26 true (.tuple #[])) h_2 fun g5_1 h_3 =>
  eop P (Instr.alloc 28 true (.tuple #[])) h_3 fun s7_1 h_4 =>
  uop P (Instr.storeAt 26 g5_1 t57_1) h_4 fun u_1 h_5 =>
  uop P (Instr.storeAt 28 s7_1 t59_1) h_5 fun u_2 h_6 =>
  rop P (Instr.loadAt 26 g5_1) h_6 fun t62_1 =>
  rop P (Instr.loadAt 28 s7_1) h_6 fun t64_1 =>
  callM P 7 #[t62_1, t58_1, t64_1, t60_1] h_6 fun t66_1 h_7 =>
  pop P (Instr.extract t66_1 0) fun t67_1 =>
  pop P (Instr.extract t66_1 1) fun t68_1 =>
  eop P (Instr.alloc 28 true (.tuple #[])) h_7 fun end9_1 h_8 =>
  uop P (Instr.storeAt 28 end9_1 t67_1) h_8 fun u_3 h_9 =>
  rop P (Instr.loadAt 26 g5_1) h_9 fun t70_1 =>
  rop P (Instr.loadAt 28 s7_1) h_9 fun t72_1 =>
  callM P 8 #[t70_1, t58_1, t72_1, t60_1] h_9 fun t74_1 h_10 =>
  pop P (Instr.extract t74_1 0) fun t75_1 =>
  pop P (Instr.extract t74_1 1) fun t76_1 =>
  eop P (Instr.alloc 28 true (.tuple #[])) h_10 fun right11_1 h_11 =>
  uop P (Instr.storeAt 28 right11_1 t75_1) h_11 fun u_4 h_12 =>
  rop P (Instr.loadAt 26 g5_1) h_12 fun t78_1 =>
  rop P (Instr.loadAt 28 s7_1) h_12 fun t80_1 =>
  callM P 7 #[t78_1, t58_1, t80_1, (Value.slice none 0 0)] h_12 fun t81_1 h_13 =>
  pop P (Instr.extract t81_1 0) fun t82_1 =>
  pop P (Instr.extract t81_1 1) fun t83_1 =>
  eop P (Instr.alloc 28 true (.tuple #[])) h_13 fun first13_1 h_14 =>
  uop P (Instr.storeAt 28 first13_1 t82_1) h_14 fun u_5 h_15 =>
  rop P (Instr.loadAt 26 g5_1) h_15 fun t85_1 =>
  rop P (Instr.loadAt 28 s7_1) h_15 fun t87_1 =>
  callM P 9 #[t85_1, t58_1, t87_1] h_15 fun t88_1 h_16 =>
  pop P (Instr.extract t88_1 0) fun t89_1 =>
  pop P (Instr.extract t88_1 1) fun t90_1 =>
  rop P (Instr.loadAt 26 g5_1) h_16 fun t92_1 =>
  rop P (Instr.loadAt 28 s7_1) h_16 fun t94_1 =>
  callM P 10 #[t92_1, t58_1, t94_1] h_16 fun t95_1 h_17 =>
  pop P (Instr.extract t95_1 0) fun t96_1 =>
  pop P (Instr.extract t95_1 1) fun t97_1 =>
  rop P (Instr.loadAt 26 g5_1) h_17 fun t99_1 =>
  rop P (Instr.loadAt 28 s7_1) h_17 fun t101_1 =>
  callM P 11 #[t99_1, t58_1, t101_1] h_17 fun t102_1 h_18 =>
  pop P (Instr.extract t102_1 0) fun t103_1 =>
  pop P (Instr.extract t102_1 1) fun t104_1 =>
  rop P (Instr.loadAt 26 g5_1) h_18 fun t106_1 =>
  rop P (Instr.loadAt 28 s7_1) h_18 fun t108_1 =>
  callM P 12 #[t106_1, t58_1, t108_1] h_18 fun t109_1 h_19 =>
  pop P (Instr.extract t109_1 0) fun t110_1 =>
  pop P (Instr.extract t109_1 1) fun t111_1 =>
  rop P (Instr.loadAt 26 g5_1) h_19 fun t113_1 =>
  rop P (Instr.loadAt 28 s7_1) h_19 fun t115_1 =>
  callM P 13 #[t113_1, t58_1, t115_1] h_19 fun t116_1 h_20 =>
  pop P (Instr.extract t116_1 0) fun t117_1 =>
  pop P (Instr.extract t116_1 1) fun t118_1 =>
  rop P (Instr.loadAt 26 g5_1) h_20 fun t120_1 =>
  rop P (Instr.loadAt 28 s7_1) h_20 fun t122_1 =>
  callM P 14 #[t120_1, t58_1, t122_1] h_20 fun t123_1 h_21 =>
  pop P (Instr.extract t123_1 0) fun t124_1 =>
  pop P (Instr.extract t123_1 1) fun t125_1 =>
  pop P (binE .neq 4 (.tmp 126) (.tmp 127) t68_1 t76_1) fun t128_1 =>
  guardM (asG t128_1 false) false (fun k_1 => rop P (Instr.loadAt 28 end9_1) h_21 fun t130_1 =>
  k_1 t130_1 h_21) h_21 fun t130_2 h_22 =>
  guardM (asG t128_1 false) false (fun k_2 => rop P (Instr.loadAt 28 right11_1) h_22 fun t131_1 =>
  k_2 t131_1 h_22) h_22 fun t131_2 h_23 =>
  guardM (asG t128_1 false) false (fun k_3 => callM P 15 #[t130_2, t131_2] h_23 fun t132_1 h_24 =>
  k_3 t132_1 h_24) h_23 fun t132_2 h_25 =>
  guardM (asG t128_1 false) false (fun k_4 => pop P (Op.unary .not t132_2) fun t133_1 =>
  k_4 t133_1 h_25) h_25 fun t133_2 h_26 =>
  pop P (pickS t128_1 (Value.bool true) t133_2) fun t134_1 =>
  guardM (asG t134_1 false) false (fun k_5 => k_5 t90_1 h_26) h_26 fun t136_1 h_27 =>
  guardM (asG t134_1 false) false (fun k_6 => k_6 t97_1 h_27) h_27 fun t137_1 h_28 =>
  guardM (asG t134_1 false) false (fun k_7 => pop P (binE .neq 4 (.tmp 136) (.tmp 137) t136_1 t137_1) fun t138_1 =>
  k_7 t138_1 h_28) h_28 fun t138_2 h_29 =>
  pop P (pickS t134_1 (Value.bool true) t138_2) fun t139_1 =>
  guardM (asG t139_1 false) false (fun k_8 => k_8 t89_1 h_29) h_29 fun t141_1 h_30 =>
  guardM (asG t139_1 false) false (fun k_9 => k_9 t96_1 h_30) h_30 fun t142_1 h_31 =>
  guardM (asG t139_1 false) false (fun k_10 => callM P 16 #[t141_1, t142_1] h_31 fun t143_1 h_32 =>
  k_10 t143_1 h_32) h_31 fun t143_2 h_33 =>
  guardM (asG t139_1 false) false (fun k_11 => pop P (Op.unary .not t143_2) fun t144_1 =>
  k_11 t144_1 h_33) h_33 fun t144_2 h_34 =>
  pop P (pickS t139_1 (Value.bool true) t144_2) fun t145_1 =>
  guardM (asG t145_1 false) false (fun k_12 => k_12 t104_1 h_34) h_34 fun t147_1 h_35 =>
  guardM (asG t145_1 false) false (fun k_13 => k_13 t111_1 h_35) h_35 fun t148_1 h_36 =>
  guardM (asG t145_1 false) false (fun k_14 => pop P (binE .neq 4 (.tmp 147) (.tmp 148) t147_1 t148_1) fun t149_1 =>
  k_14 t149_1 h_36) h_36 fun t149_2 h_37 =>
  pop P (pickS t145_1 (Value.bool true) t149_2) fun t150_1 =>
  guardM (asG t150_1 false) false (fun k_15 => k_15 t103_1 h_37) h_37 fun t152_1 h_38 =>
  guardM (asG t150_1 false) false (fun k_16 => k_16 t110_1 h_38) h_38 fun t153_1 h_39 =>
  guardM (asG t150_1 false) false (fun k_17 => pop P (binE .neq 3 (.tmp 152) (.tmp 153) t152_1 t153_1) fun t154_1 =>
  k_17 t154_1 h_39) h_39 fun t154_2 h_40 =>
  pop P (pickS t150_1 (Value.bool true) t154_2) fun t155_1 =>
  guardM (asG t155_1 false) false (fun k_18 => k_18 t118_1 h_40) h_40 fun t157_1 h_41 =>
  guardM (asG t155_1 false) false (fun k_19 => k_19 t125_1 h_41) h_41 fun t158_1 h_42 =>
  guardM (asG t155_1 false) false (fun k_20 => pop P (binE .neq 4 (.tmp 157) (.tmp 158) t157_1 t158_1) fun t159_1 =>
  k_20 t159_1 h_42) h_42 fun t159_2 h_43 =>
  pop P (pickS t155_1 (Value.bool true) t159_2) fun t160_1 =>
  guardM (asG t160_1 false) false (fun k_21 => k_21 t117_1 h_43) h_43 fun t162_1 h_44 =>
  guardM (asG t160_1 false) false (fun k_22 => k_22 t124_1 h_44) h_44 fun t163_1 h_45 =>
  guardM (asG t160_1 false) false (fun k_23 => callM P 16 #[t162_1, t163_1] h_45 fun t164_1 h_46 =>
  k_23 t164_1 h_46) h_45 fun t164_2 h_47 =>
  guardM (asG t160_1 false) false (fun k_24 => pop P (Op.unary .not t164_2) fun t165_1 =>
  k_24 t165_1 h_47) h_47 fun t165_2 h_48 =>
  pop P (pickS t160_1 (Value.bool true) t165_2) fun t166_1 =>
  guardM (asG t166_1 false) false (fun k_25 => k_25 t83_1 h_48) h_48 fun t168_1 h_49 =>
  guardM (asG t166_1 false) false (fun k_26 => k_26 t90_1 h_49) h_49 fun t169_1 h_50 =>
  guardM (asG t166_1 false) false (fun k_27 => pop P (binE .neq 4 (.tmp 168) (.tmp 169) t168_1 t169_1) fun t170_1 =>
  k_27 t170_1 h_50) h_50 fun t170_2 h_51 =>
  pop P (pickS t166_1 (Value.bool true) t170_2) fun t171_1 =>
  guardM (asG t171_1 false) false (fun k_28 => k_28 t104_1 h_51) h_51 fun t173_1 h_52 =>
  guardM (asG t171_1 false) false (fun k_29 => k_29 t90_1 h_52) h_52 fun t174_1 h_53 =>
  guardM (asG t171_1 false) false (fun k_30 => pop P (binE .neq 4 (.tmp 173) (.tmp 174) t173_1 t174_1) fun t175_1 =>
  k_30 t175_1 h_53) h_53 fun t175_2 h_54 =>
  pop P (pickS t171_1 (Value.bool true) t175_2) fun t176_1 =>
  guardM (asG t176_1 false) false (fun k_31 => k_31 t118_1 h_54) h_54 fun t178_1 h_55 =>
  guardM (asG t176_1 false) false (fun k_32 => k_32 t90_1 h_55) h_55 fun t179_1 h_56 =>
  guardM (asG t176_1 false) false (fun k_33 => pop P (binE .neq 4 (.tmp 178) (.tmp 179) t178_1 t179_1) fun t180_1 =>
  k_33 t180_1 h_56) h_56 fun t180_2 h_57 =>
  pop P (pickS t176_1 (Value.bool true) t180_2) fun t181_1 =>
  guardM (asG t181_1 false) false (fun k_34 => k_34 t68_1 h_57) h_57 fun t183_1 h_58 =>
  guardM (asG t181_1 false) false (fun k_35 => k_35 t183_1 h_58) h_58 fun t184_1 h_59 =>
  guardM (asG t184_1 true) true (fun k_36 => k_36 t83_1 h_59) h_59 fun t185_1 h_60 =>
  guardM (asG t184_1 true) true (fun k_37 => pop P (Op.unary .not t185_1) fun t186_1 =>
  k_37 t186_1 h_60) h_60 fun t186_2 h_61 =>
  guardM (asG t181_1 false) false (fun k_38 => pop P (pickS t184_1 t186_2 (Value.bool false)) fun t187_1 =>
  k_38 t187_1 h_61) h_61 fun t187_2 h_62 =>
  pop P (pickS t181_1 (Value.bool true) t187_2) fun t188_1 =>
  condM t188_1
  (K (Value.bool false) h_62)
  (∃ J_1 : List Value → Heap → Prop, (condM t68_1
  (rop P (Instr.loadAt 28 end9_1) h_62 fun t190_1 =>
  rop P (Instr.loadAt 28 first13_1) h_62 fun t191_1 =>
  callM P 15 #[t190_1, t191_1] h_62 fun t192_1 h_63 =>
  pop P (Op.unary .not t192_1) fun t193_1 =>
  guardM (asG t193_1 false) false (fun k_39 => k_39 t89_1 h_63) h_63 fun t195_1 h_64 =>
  guardM (asG t193_1 false) false (fun k_40 => pop P (lenS 29 3 t195_1) fun t196_1 =>
  k_40 t196_1 h_64) h_64 fun t196_2 h_65 =>
  guardM (asG t193_1 false) false (fun k_41 => pop P (Instr.fieldAt 26 g5_1 0) fun t197_1 =>
  k_41 t197_1 h_65) h_65 fun t197_2 h_66 =>
  guardM (asG t193_1 false) false (fun k_42 => rop P (Instr.loadAt 24 t197_2) h_66 fun t198_1 =>
  k_42 t198_1 h_66) h_66 fun t198_2 h_67 =>
  guardM (asG t193_1 false) false (fun k_43 => pop P (lenS 24 3 t198_2) fun t199_1 =>
  k_43 t199_1 h_67) h_67 fun t199_2 h_68 =>
  guardM (asG t193_1 false) false (fun k_44 => pop P (binE .neq 3 (.tmp 196) (.tmp 199) t196_2 t199_2) fun t200_1 =>
  k_44 t200_1 h_68) h_68 fun t200_2 h_69 =>
  pop P (pickS t193_1 (Value.bool true) t200_2) fun t201_1 =>
  guardM (asG t201_1 false) false (fun k_45 => k_45 t89_1 h_69) h_69 fun t203_1 h_70 =>
  guardM (asG t201_1 false) false (fun k_46 => k_46 t58_1 h_70) h_70 fun t204_1 h_71 =>
  guardM (asG t201_1 false) false (fun k_47 => pop P (Instr.indexAt 29 t203_1 t204_1) fun t205_1 =>
  k_47 t205_1 h_71) h_71 fun t205_2 h_72 =>
  guardM (asG t201_1 false) false (fun k_48 => rop P (Instr.loadAt 3 t205_2) h_72 fun t206_1 =>
  k_48 t206_1 h_72) h_72 fun t206_2 h_73 =>
  guardM (asG t201_1 false) false (fun k_49 => pop P (binE .neq 3 (.tmp 206) (.const (Value.int IntKind.i64 0)) t206_2 (Value.int IntKind.i64 0)) fun t207_1 =>
  k_49 t207_1 h_73) h_73 fun t207_2 h_74 =>
  pop P (pickS t201_1 (Value.bool true) t207_2) fun t208_1 =>
  condM t208_1
  (K (Value.bool false) h_74)
  (pop P (lenS 29 3 t89_1) fun t210_1 =>
  ∃ (I_1 : List Value → Heap → Prop) (μ_1 : List Value → Heap → Nat), I_1 [(Value.int IntKind.i64 0)] h_74 ∧
  ∀ (junk_1 : Nat → Value) (t211_1 : Value) (h_75 : Heap), I_1 [t211_1] h_75 →
  pop P (binA .lss 3 t211_1 t210_1) fun t212_1 =>
  condM t212_1
  (pop P (Instr.indexAt 29 t89_1 t211_1) fun t214_1 =>
  rop P (Instr.loadAt 3 t214_1) h_75 fun t215_1 =>
  pop P (Instr.fieldAt 28 end9_1 0) fun t216_1 =>
  rop P (Instr.loadAt 24 t216_1) h_75 fun t217_1 =>
  pop P (Instr.indexAt 24 t217_1 t211_1) fun t219_1 =>
  rop P (Instr.loadAt 29 t219_1) h_75 fun t220_1 =>
  pop P (lenS 29 3 t220_1) fun t221_1 =>
  pop P (Instr.fieldAt 28 s7_1 0) fun t222_1 =>
  rop P (Instr.loadAt 24 t222_1) h_75 fun t223_1 =>
  pop P (Instr.indexAt 24 t223_1 t211_1) fun t225_1 =>
  rop P (Instr.loadAt 29 t225_1) h_75 fun t226_1 =>
  pop P (lenS 29 3 t226_1) fun t227_1 =>
  pop P (binA .sub 3 t227_1 t215_1) fun t229_1 =>
  pop P (binE .neq 3 (.tmp 221) (.tmp 229) t221_1 t229_1) fun t230_1 =>
  guardM (asG t230_1 false) false (fun k_50 => pop P (Instr.fieldAt 28 end9_1 0) fun t232_1 =>
  k_50 t232_1 h_75) h_75 fun t232_2 h_76 =>
  guardM (asG t230_1 false) false (fun k_51 => rop P (Instr.loadAt 24 t232_2) h_76 fun t233_1 =>
  k_51 t233_1 h_76) h_76 fun t233_2 h_77 =>
  guardM (asG t230_1 false) false (fun k_52 => k_52 t211_1 h_77) h_77 fun t234_1 h_78 =>
  guardM (asG t230_1 false) false (fun k_53 => pop P (Instr.indexAt 24 t233_2 t234_1) fun t235_1 =>
  k_53 t235_1 h_78) h_78 fun t235_2 h_79 =>
  guardM (asG t230_1 false) false (fun k_54 => rop P (Instr.loadAt 29 t235_2) h_79 fun t236_1 =>
  k_54 t236_1 h_79) h_79 fun t236_2 h_80 =>
  guardM (asG t230_1 false) false (fun k_55 => pop P (Instr.fieldAt 28 s7_1 0) fun t237_1 =>
  k_55 t237_1 h_80) h_80 fun t237_2 h_81 =>
  guardM (asG t230_1 false) false (fun k_56 => rop P (Instr.loadAt 24 t237_2) h_81 fun t238_1 =>
  k_56 t238_1 h_81) h_81 fun t238_2 h_82 =>
  guardM (asG t230_1 false) false (fun k_57 => k_57 t211_1 h_82) h_82 fun t239_1 h_83 =>
  guardM (asG t230_1 false) false (fun k_58 => pop P (Instr.indexAt 24 t238_2 t239_1) fun t240_1 =>
  k_58 t240_1 h_83) h_83 fun t240_2 h_84 =>
  guardM (asG t230_1 false) false (fun k_59 => rop P (Instr.loadAt 29 t240_2) h_84 fun t241_1 =>
  k_59 t241_1 h_84) h_84 fun t241_2 h_85 =>
  guardM (asG t230_1 false) false (fun k_60 => k_60 t215_1 h_85) h_85 fun t242_1 h_86 =>
  guardM (asG t230_1 false) false (fun k_61 => pop P (Instr.sliceAt 29 t241_2 (some t242_1) none none) fun t243_1 =>
  k_61 t243_1 h_86) h_86 fun t243_2 h_87 =>
  guardM (asG t230_1 false) false (fun k_62 => callM P 16 #[t236_2, t243_2] h_87 fun t244_1 h_88 =>
  k_62 t244_1 h_88) h_87 fun t244_2 h_89 =>
  (∃ b_3 : Bool, asG t230_1 false = .bool b_3 ∧ (b_3 = false → ∀ w : World, w.heap = h_89 → (Instr.loadAt 29 t240_2).run P w = .ok t241_2 w) ∧ (b_3 ≠ false → t241_2 = undef)) ∧
  (∃ b_2 : Bool, asG t230_1 false = .bool b_2 ∧ (b_2 = false → ∀ w : World, w.heap = h_89 → (Instr.loadAt 24 t237_2).run P w = .ok t238_2 w) ∧ (b_2 ≠ false → t238_2 = undef)) ∧
  (∃ b_1 : Bool, asG t230_1 false = .bool b_1 ∧ (b_1 = false → ∀ w : World, w.heap = h_89 → (Instr.loadAt 24 t232_2).run P w = .ok t233_2 w) ∧ (b_1 ≠ false → t233_2 = undef)) ∧
  (∀ w : World, w.heap = h_89 → (Instr.loadAt 29 t225_1).run P w = .ok t226_1 w) ∧
  (∀ w : World, w.heap = h_89 → (Instr.loadAt 24 t222_1).run P w = .ok t223_1 w) ∧
  (∀ w : World, w.heap = h_89 → (Instr.loadAt 29 t219_1).run P w = .ok t220_1 w) ∧
  (∀ w : World, w.heap = h_89 → (Instr.loadAt 24 t216_1).run P w = .ok t217_1 w) ∧
  guardM (asG t230_1 false) false (fun k_63 => pop P (Op.unary .not t244_2) fun t245_1 =>
  k_63 t245_1 h_89) h_89 fun t245_2 h_90 =>
  pop P (pickS t230_1 (Value.bool true) t245_2) fun t246_1 =>
  condM t246_1
  (K (Value.bool false) h_90)
  (pop P (binA .add 3 t211_1 (Value.int IntKind.i64 1)) fun t247_1 =>
  I_1 [t247_1] h_90 ∧ μ_1 [t247_1] h_90 < μ_1 [t211_1] h_75))
  (rop P (Instr.loadAt 26 g5_1) h_75 fun t249_1 =>
  callM P 17 #[t249_1, t58_1, t117_1] h_75 fun t252_1 h_91 =>
  pop P (Instr.extract t252_1 0) fun t253_1 =>
  pop P (Instr.extract t252_1 1) fun t254_1 =>
  rop P (Instr.loadAt 26 g5_1) h_91 fun t256_1 =>
  rop P (Instr.loadAt 28 end9_1) h_91 fun t258_1 =>
  callM P 18 #[t256_1, t58_1, t258_1] h_91 fun t259_1 h_92 =>
  pop P (Instr.extract t259_1 0) fun t260_1 =>
  pop P (Instr.extract t259_1 1) fun t261_1 =>
  rop P (Instr.loadAt 26 g5_1) h_92 fun t263_1 =>
  rop P (Instr.loadAt 28 end9_1) h_92 fun t265_1 =>
  callM P 19 #[t263_1, t58_1, t265_1] h_92 fun t266_1 h_93 =>
  pop P (Instr.extract t266_1 0) fun t267_1 =>
  pop P (Instr.extract t266_1 1) fun t268_1 =>
  pop P (Op.unary .not t254_1) fun t270_1 =>
  guardM (asG t270_1 false) false (fun k_64 => k_64 t253_1 h_93) h_93 fun t272_1 h_94 =>
  guardM (asG t270_1 false) false (fun k_65 => pop P (Op.unary .not t272_1) fun t273_1 =>
  k_65 t273_1 h_94) h_94 fun t273_2 h_95 =>
  pop P (pickS t270_1 (Value.bool true) t273_2) fun t274_1 =>
  guardM (asG t274_1 false) false (fun k_66 => k_66 t261_1 h_95) h_95 fun t276_1 h_96 =>
  guardM (asG t274_1 false) false (fun k_67 => pop P (Op.unary .not t276_1) fun t277_1 =>
  k_67 t277_1 h_96) h_96 fun t277_2 h_97 =>
  pop P (pickS t274_1 (Value.bool true) t277_2) fun t278_1 =>
  guardM (asG t278_1 false) false (fun k_68 => k_68 t260_1 h_97) h_97 fun t280_1 h_98 =>
  guardM (asG t278_1 false) false (fun k_69 => k_69 t117_1 h_98) h_98 fun t281_1 h_99 =>
  guardM (asG t278_1 false) false (fun k_70 => callM P 16 #[t280_1, t281_1] h_99 fun t282_1 h_100 =>
  k_70 t282_1 h_100) h_99 fun t282_2 h_101 =>
  guardM (asG t278_1 false) false (fun k_71 => pop P (Op.unary .not t282_2) fun t283_1 =>
  k_71 t283_1 h_101) h_101 fun t283_2 h_102 =>
  pop P (pickS t278_1 (Value.bool true) t283_2) fun t284_1 =>
  guardM (asG t284_1 false) false (fun k_72 => k_72 t268_1 h_102) h_102 fun t286_1 h_103 =>
  guardM (asG t284_1 false) false (fun k_73 => pop P (Op.unary .not t286_1) fun t287_1 =>
  k_73 t287_1 h_103) h_103 fun t287_2 h_104 =>
  pop P (pickS t284_1 (Value.bool true) t287_2) fun t288_1 =>
  guardM (asG t288_1 false) false (fun k_74 => k_74 t267_1 h_104) h_104 fun t290_1 h_105 =>
  guardM (asG t288_1 false) false (fun k_75 => pop P (lenS 24 3 t290_1) fun t291_1 =>
  k_75 t291_1 h_105) h_105 fun t291_2 h_106 =>
  guardM (asG t288_1 false) false (fun k_76 => pop P (binE .neq 3 (.tmp 291) (.const (Value.int IntKind.i64 0)) t291_2 (Value.int IntKind.i64 0)) fun t292_1 =>
  k_76 t292_1 h_106) h_106 fun t292_2 h_107 =>
  pop P (pickS t288_1 (Value.bool true) t292_2) fun t293_1 =>
  guardM (asG t293_1 false) false (fun k_77 => k_77 t103_1 h_107) h_107 fun t295_1 h_108 =>
  guardM (asG t293_1 false) false (fun k_78 => pop P (binE .eql 3 (.tmp 295) (.const (Value.int IntKind.i64 0)) t295_1 (Value.int IntKind.i64 0)) fun t296_1 =>
  k_78 t296_1 h_108) h_108 fun t296_2 h_109 =>
  guardM (asG t293_1 false) false (fun k_79 => k_79 t89_1 h_109) h_109 fun t297_1 h_110 =>
  guardM (asG t293_1 false) false (fun k_80 => callM P 20 #[t297_1] h_110 fun t298_1 h_111 =>
  k_80 t298_1 h_111) h_110 fun t298_2 h_112 =>
  guardM (asG t293_1 false) false (fun k_81 => pop P (binE .eql 3 (.tmp 298) (.const (Value.int IntKind.i64 0)) t298_2 (Value.int IntKind.i64 0)) fun t299_1 =>
  k_81 t299_1 h_112) h_112 fun t299_2 h_113 =>
  guardM (asG t293_1 false) false (fun k_82 => pop P (binE .neq 4 (.tmp 296) (.tmp 299) t296_2 t299_2) fun t300_1 =>
  k_82 t300_1 h_113) h_113 fun t300_2 h_114 =>
  pop P (pickS t293_1 (Value.bool true) t300_2) fun t301_1 =>
  guardM (asG t301_1 false) false (fun k_83 => k_83 t103_1 h_114) h_114 fun t303_1 h_115 =>
  guardM (asG t301_1 false) false (fun k_84 => k_84 t89_1 h_115) h_115 fun t304_1 h_116 =>
  guardM (asG t301_1 false) false (fun k_85 => callM P 20 #[t304_1] h_116 fun t305_1 h_117 =>
  k_85 t305_1 h_117) h_116 fun t305_2 h_118 =>
  guardM (asG t301_1 false) false (fun k_86 => pop P (binA .gtr 3 t303_1 t305_2) fun t306_1 =>
  k_86 t306_1 h_118) h_118 fun t306_2 h_119 =>
  pop P (pickS t301_1 (Value.bool true) t306_2) fun t307_1 =>
  condM t307_1
  (K (Value.bool false) h_119)
  (J_1 [] h_119))))
  (J_1 [] h_62)) ∧
  ∀ (junk_2 : Nat → Value) (h_120 : Heap), J_1 [] h_120 →
  callM P 21 #[more1_1] h_120 fun t310_1 h_121 =>
  pop P (Instr.extract t310_1 0) fun t311_1 =>
  pop P (Instr.extract t310_1 1) fun t312_1 =>
  pop P (Instr.extract t310_1 2) fun t313_1 =>
  pop P (Instr.extract t310_1 3) fun t314_1 =>
  eop P (Instr.alloc 26 true (.tuple #[])) h_121 fun x35_1 h_122 =>
  eop P (Instr.alloc 28 true (.tuple #[])) h_122 fun u37_1 h_123 =>
  uop P (Instr.storeAt 26 x35_1 t311_1) h_123 fun u_6 h_124 =>
  uop P (Instr.storeAt 28 u37_1 t313_1) h_124 fun u_7 h_125 =>
  rop P (Instr.loadAt 26 x35_1) h_125 fun t316_1 =>
  rop P (Instr.loadAt 28 u37_1) h_125 fun t318_1 =>
  callM P 22 #[t316_1, t312_1, t318_1, t314_1] h_125 fun t320_1 h_126 =>
  pop P (Instr.extract t320_1 0) fun t321_1 =>
  pop P (Instr.extract t320_1 1) fun t322_1 =>
  rop P (Instr.loadAt 26 x35_1) h_126 fun t324_1 =>
  rop P (Instr.loadAt 28 u37_1) h_126 fun t326_1 =>
  callM P 23 #[t324_1, t312_1, t326_1, t314_1] h_126 fun t328_1 h_127 =>
  pop P (Instr.extract t328_1 0) fun t329_1 =>
  pop P (Instr.extract t328_1 1) fun t330_1 =>
  rop P (Instr.loadAt 26 x35_1) h_127 fun t332_1 =>
  rop P (Instr.loadAt 28 u37_1) h_127 fun t334_1 =>
  callM P 24 #[t332_1, t312_1, t334_1, t314_1] h_127 fun t336_1 h_128 =>
  pop P (Instr.extract t336_1 0) fun t337_1 =>
  pop P (Instr.extract t336_1 1) fun t338_1 =>
  rop P (Instr.loadAt 26 x35_1) h_128 fun t340_1 =>
  rop P (Instr.loadAt 28 u37_1) h_128 fun t342_1 =>
  callM P 25 #[t340_1, t312_1, t342_1, t314_1] h_128 fun t344_1 h_129 =>
  pop P (Instr.extract t344_1 0) fun t345_1 =>
  pop P (Instr.extract t344_1 1) fun t346_1 =>
  pop P (binE .neq 4 (.tmp 347) (.tmp 348) t322_1 t330_1) fun t349_1 =>
  guardM (asG t349_1 false) false (fun k_87 => k_87 t321_1 h_129) h_129 fun t351_1 h_130 =>
  guardM (asG t349_1 false) false (fun k_88 => k_88 t329_1 h_130) h_130 fun t352_1 h_131 =>
  guardM (asG t349_1 false) false (fun k_89 => callM P 16 #[t351_1, t352_1] h_131 fun t353_1 h_132 =>
  k_89 t353_1 h_132) h_131 fun t353_2 h_133 =>
  guardM (asG t349_1 false) false (fun k_90 => pop P (Op.unary .not t353_2) fun t354_1 =>
  k_90 t354_1 h_133) h_133 fun t354_2 h_134 =>
  pop P (pickS t349_1 (Value.bool true) t354_2) fun t355_1 =>
  guardM (asG t355_1 false) false (fun k_91 => k_91 t338_1 h_134) h_134 fun t357_1 h_135 =>
  guardM (asG t355_1 false) false (fun k_92 => k_92 t346_1 h_135) h_135 fun t358_1 h_136 =>
  guardM (asG t355_1 false) false (fun k_93 => pop P (binE .neq 4 (.tmp 357) (.tmp 358) t357_1 t358_1) fun t359_1 =>
  k_93 t359_1 h_136) h_136 fun t359_2 h_137 =>
  pop P (pickS t355_1 (Value.bool true) t359_2) fun t360_1 =>
  guardM (asG t360_1 false) false (fun k_94 => k_94 t337_1 h_137) h_137 fun t362_1 h_138 =>
  guardM (asG t360_1 false) false (fun k_95 => k_95 t345_1 h_138) h_138 fun t363_1 h_139 =>
  guardM (asG t360_1 false) false (fun k_96 => pop P (binE .neq 3 (.tmp 362) (.tmp 363) t362_1 t363_1) fun t364_1 =>
  k_96 t364_1 h_139) h_139 fun t364_2 h_140 =>
  pop P (pickS t360_1 (Value.bool true) t364_2) fun t365_1 =>
  guardM (asG t365_1 false) false (fun k_97 => k_97 t338_1 h_140) h_140 fun t367_1 h_141 =>
  guardM (asG t365_1 false) false (fun k_98 => k_98 t322_1 h_141) h_141 fun t368_1 h_142 =>
  guardM (asG t365_1 false) false (fun k_99 => pop P (binE .neq 4 (.tmp 367) (.tmp 368) t367_1 t368_1) fun t369_1 =>
  k_99 t369_1 h_142) h_142 fun t369_2 h_143 =>
  pop P (pickS t365_1 (Value.bool true) t369_2) fun t370_1 =>
  condM t370_1
  (K (Value.bool false) h_143)
  (condM t322_1
  (rop P (Instr.loadAt 26 x35_1) h_143 fun t373_1 =>
  rop P (Instr.loadAt 28 u37_1) h_143 fun t375_1 =>
  callM P 13 #[t373_1, t312_1, t375_1] h_143 fun t376_1 h_144 =>
  pop P (Instr.extract t376_1 0) fun t377_1 =>
  pop P (Instr.extract t376_1 1) fun t378_1 =>
  rop P (Instr.loadAt 26 x35_1) h_144 fun t380_1 =>
  rop P (Instr.loadAt 28 u37_1) h_144 fun t382_1 =>
  callM P 9 #[t380_1, t312_1, t382_1] h_144 fun t383_1 h_145 =>
  pop P (Instr.extract t383_1 0) fun t384_1 =>
  pop P (Instr.extract t383_1 1) fun t385_1 =>
  guardM (asG t378_1 true) true (fun k_100 => k_100 t377_1 h_145) h_145 fun t388_1 h_146 =>
  guardM (asG t378_1 true) true (fun k_101 => k_101 t321_1 h_146) h_146 fun t389_1 h_147 =>
  guardM (asG t378_1 true) true (fun k_102 => callM P 16 #[t388_1, t389_1] h_147 fun t390_1 h_148 =>
  k_102 t390_1 h_148) h_147 fun t390_2 h_149 =>
  pop P (pickS t378_1 t390_2 (Value.bool false)) fun t391_1 =>
  guardM (asG t391_1 true) true (fun k_103 => k_103 t385_1 h_149) h_149 fun t393_1 h_150 =>
  pop P (pickS t391_1 t393_1 (Value.bool false)) fun t394_1 =>
  guardM (asG t394_1 true) true (fun k_104 => k_104 t337_1 h_150) h_150 fun t396_1 h_151 =>
  guardM (asG t394_1 true) true (fun k_105 => k_105 t384_1 h_151) h_151 fun t397_1 h_152 =>
  guardM (asG t394_1 true) true (fun k_106 => pop P (Instr.fieldAt 26 x35_1 0) fun t399_1 =>
  k_106 t399_1 h_152) h_152 fun t399_2 h_153 =>
  guardM (asG t394_1 true) true (fun k_107 => rop P (Instr.loadAt 24 t399_2) h_153 fun t400_1 =>
  k_107 t400_1 h_153) h_153 fun t400_2 h_154 =>
  guardM (asG t394_1 true) true (fun k_108 => pop P (lenS 24 3 t400_2) fun t401_1 =>
  k_108 t401_1 h_154) h_154 fun t401_2 h_155 =>
  guardM (asG t394_1 true) true (fun k_109 => callM P 20 #[t397_1] h_155 fun t398_1 h_156 =>
  k_109 t398_1 h_156) h_155 fun t398_2 h_157 =>
  (∃ b_4 : Bool, asG t394_1 true = .bool b_4 ∧ (b_4 = true → ∀ w : World, w.heap = h_157 → (Instr.loadAt 24 t399_2).run P w = .ok t400_2 w) ∧ (b_4 ≠ true → t400_2 = undef)) ∧
  guardM (asG t394_1 true) true (fun k_110 => pop P (binA .add 3 t398_2 t401_2) fun t402_1 =>
  k_110 t402_1 h_157) h_157 fun t402_2 h_158 =>
  guardM (asG t394_1 true) true (fun k_111 => pop P (binA .sub 3 t402_2 (Value.int IntKind.i64 1)) fun t403_1 =>
  k_111 t403_1 h_158) h_158 fun t403_2 h_159 =>
  guardM (asG t394_1 true) true (fun k_112 => pop P (binE .eql 3 (.tmp 396) (.tmp 403) t396_1 t403_2) fun t404_1 =>
  k_112 t404_1 h_159) h_159 fun t404_2 h_160 =>
  pop P (pickS t394_1 t404_2 (Value.bool false)) fun t405_1 =>
  K t405_1 h_160)
  (K (Value.bool true) h_143))))
theorem e3 (code0_1 : Value) (more1_1 : Value) (h : Heap) (K : Value → Heap → Prop) : wpA Tryz.prog 406 (anOf [(16383, []), (2097066, [211])]) (bodyOf Tryz.f3) 1 (fun A h => resA Tryz.prog A h K [.tmp 4]) (fun _ _ _ => False) (fun A h => resA Tryz.prog A h K [.tmp 4]) (aargs [code0_1, more1_1] 0) h = t3 Tryz.prog code0_1 more1_1 h K := by kernel_rfl
theorem c3 (code0_1 : Value) (more1_1 : Value) (h : Heap) (K : Value → Heap → Prop) (H : t3 Tryz.prog code0_1 more1_1 h K) : callM Tryz.prog 3 #[code0_1, more1_1] h K :=
  callM_of_wpA mixed (fn := Tryz.f3) Tryz.func3 (c := bodyOf Tryz.f3) rfl (of_decide_eq_true (by kernel_rfl)) (anOf [(16383, []), (2097066, [211])]) 404 406 (by kernel_rfl) rfl [.tmp 4] (by kernel_rfl) (args := [code0_1, more1_1]) (by rw [e3]; exact H)
def t5 (P : Program) (code0_1 : Value) (more1_1 : Value) (h : Heap) (K : Value → Heap → Prop) : Prop :=
  pop P (lenS 22 3 code0_1) fun t6_1 =>
  pop P (binA .gtr 3 t6_1 (Value.int IntKind.i64 1048576)) fun t7_1 =>
  guardM (asG t7_1 false) false (fun k_1 => k_1 more1_1 h) h fun t9_1 h_1 =>
  guardM (asG t7_1 false) false (fun k_2 => pop P (lenS 22 3 t9_1) fun t10_1 =>
  k_2 t10_1 h_1) h_1 fun t10_2 h_2 =>
  guardM (asG t7_1 false) false (fun k_3 => k_3 code0_1 h_2) h_2 fun t11_1 h_3 =>
  guardM (asG t7_1 false) false (fun k_4 => pop P (lenS 22 3 t11_1) fun t12_1 =>
  k_4 t12_1 h_3) h_3 fun t12_2 h_4 =>
  guardM (asG t7_1 false) false (fun k_5 => pop P (binA .sub 3 (Value.int IntKind.i64 1048576) t12_2) fun t13_1 =>
  k_5 t13_1 h_4) h_4 fun t13_2 h_5 =>
  guardM (asG t7_1 false) false (fun k_6 => pop P (binA .gtr 3 t10_2 t13_2) fun t14_1 =>
  k_6 t14_1 h_5) h_5 fun t14_2 h_6 =>
  pop P (pickS t7_1 (Value.bool true) t14_2) fun t15_1 =>
  K t15_1 h_6
theorem e5 (code0_1 : Value) (more1_1 : Value) (h : Heap) (K : Value → Heap → Prop) : wpA Tryz.prog 16 (anOf []) (bodyOf Tryz.f5) 1 (fun A h => resA Tryz.prog A h K [.tmp 4]) (fun _ _ _ => False) (fun A h => resA Tryz.prog A h K [.tmp 4]) (aargs [code0_1, more1_1] 0) h = t5 Tryz.prog code0_1 more1_1 h K := by kernel_rfl
theorem c5 (code0_1 : Value) (more1_1 : Value) (h : Heap) (K : Value → Heap → Prop) (H : t5 Tryz.prog code0_1 more1_1 h K) : callM Tryz.prog 5 #[code0_1, more1_1] h K :=
  callM_of_wpA mixed (fn := Tryz.f5) Tryz.func5 (c := bodyOf Tryz.f5) rfl (of_decide_eq_true (by kernel_rfl)) (anOf []) 14 16 (by kernel_rfl) rfl [.tmp 4] (by kernel_rfl) (args := [code0_1, more1_1]) (by rw [e5]; exact H)
def t6 (P : Program) (code0_1 : Value) (h : Heap) (K : Value → Heap → Prop) : Prop :=
  eop P (Instr.alloc 26 true (.tuple #[])) h fun t2_1 h_1 =>
  eop P (Instr.alloc 28 true (.tuple #[])) h_1 fun t4_1 h_2 =>
  pop P (Instr.build 74 #[(0, code0_1)]) fun t13_1 =>
  eop P (Instr.box 74 t13_1) h_2 fun t14_1 h_3 =>
  callM P 51 #[t14_1] h_3 fun t17_1 h_4 =>
  pop P (Instr.extract t17_1 0) fun t18_1 =>
  pop P (Instr.extract t17_1 1) fun t19_1 =>
  pop P (Instr.extract t17_1 2) fun t20_1 =>
  eop P (Instr.alloc 26 true (.tuple #[])) h_4 fun g7_1 h_5 =>
  eop P (Instr.alloc 28 true (.tuple #[])) h_5 fun s9_1 h_6 =>
  uop P (Instr.storeAt 26 g7_1 t18_1) h_6 fun u_1 h_7 =>
  uop P (Instr.storeAt 28 s9_1 t20_1) h_7 fun u_2 h_8 =>
  callM P 52 #[t14_1, (Value.int IntKind.i64 12)] h_8 fun t22_1 h_9 =>
  ∃ (I_1 : List Value → Heap → Prop) (μ_1 : List Value → Heap → Nat), I_1 [(Value.slice none 0 0), t22_1] h_9 ∧
  ∀ (junk_1 : Nat → Value) (choices10_1 : Value) (k11_1 : Value) (h_10 : Heap), I_1 [choices10_1, k11_1] h_10 →
  pop P (binA .gtr 3 k11_1 (Value.int IntKind.i64 0)) fun t24_1 =>
  condM t24_1
  (callM P 52 #[t14_1, (Value.int IntKind.i64 100)] h_10 fun t29_1 h_11 =>
  eop P (Instr.buildSlice 29 1 #[(0, t29_1)]) h_11 fun t30_1 h_12 =>
  eop P (appS 29 29 29 choices10_1 t30_1) h_12 fun t31_1 h_13 =>
  pop P (binA .sub 3 k11_1 (Value.int IntKind.i64 1)) fun t26_1 =>
  I_1 [t31_1, t26_1] h_13 ∧ μ_1 [t31_1, t26_1] h_13 < μ_1 [choices10_1, k11_1] h_10)
  (∃ J_1 : List Value → Heap → Prop, (callM P 52 #[t14_1, (Value.int IntKind.i64 12)] h_10 fun t33_1 h_14 =>
  pop P (binE .eql 3 (.tmp 33) (.const (Value.int IntKind.i64 0)) t33_1 (Value.int IntKind.i64 0)) fun t35_1 =>
  condM t35_1
  (callM P 52 #[t14_1, (Value.int IntKind.i64 2)] h_14 fun t37_1 h_15 =>
  pop P (binA .add 3 (Value.int IntKind.i64 100) t37_1) fun t38_1 =>
  eop P (Instr.makeSlice 29 t38_1 t38_1) h_15 fun t39_1 h_16 =>
  J_1 [t39_1] h_16)
  (pop P (binE .eql 3 (.tmp 33) (.const (Value.int IntKind.i64 1)) t33_1 (Value.int IntKind.i64 1)) fun t41_1 =>
  condM t41_1
  (eop P (Instr.buildSlice 29 2 #[(0, (Value.int IntKind.i64 (-1))), (1, (Value.int IntKind.i64 4611686018427387904))]) h_14 fun t44_1 h_17 =>
  callM P 53 #[t14_1, t44_1] h_17 fun t45_1 h_18 =>
  eop P (Instr.buildSlice 29 1 #[(0, t45_1)]) h_18 fun t46_1 h_19 =>
  eop P (appS 29 29 29 choices10_1 t46_1) h_19 fun t47_1 h_20 =>
  J_1 [t47_1] h_20)
  (J_1 [choices10_1] h_14))) ∧
  ∀ (junk_2 : Nat → Value) (choices10_2 : Value) (h_21 : Heap), J_1 [choices10_2] h_21 →
  rop P (Instr.loadAt 26 g7_1) h_21 fun t48_1 =>
  rop P (Instr.loadAt 28 s9_1) h_21 fun t50_1 =>
  uop P (Instr.storeAt 26 t2_1 t48_1) h_21 fun u_3 h_22 =>
  (∀ w : World, w.heap = h_22 → (Instr.loadAt 28 s9_1).run P w = .ok t50_1 w) ∧
  uop P (Instr.storeAt 28 t4_1 t50_1) h_22 fun u_4 h_23 =>
  rop P (Instr.loadAt 26 t2_1) h_23 fun r_1 =>
  rop P (Instr.loadAt 28 t4_1) h_23 fun r_2 =>
  K (.tuple #[r_1, t19_1, r_2, choices10_2]) h_23)
theorem e6 (code0_1 : Value) (h : Heap) (K : Value → Heap → Prop) : wpA Tryz.prog 52 (anOf [(63, [10]), (250, [10, 11])]) (bodyOf Tryz.f6) 1 (fun A h => resA Tryz.prog A h K [.cell 2 26, .tmp 3, .cell 4 28, .tmp 5]) (fun _ _ _ => False) (fun A h => resA Tryz.prog A h K [.cell 2 26, .tmp 3, .cell 4 28, .tmp 5]) (aargs [code0_1] 0) h = t6 Tryz.prog code0_1 h K := by kernel_rfl
theorem c6 (code0_1 : Value) (h : Heap) (K : Value → Heap → Prop) (H : t6 Tryz.prog code0_1 h K) : callM Tryz.prog 6 #[code0_1] h K :=
  callM_of_wpA mixed (fn := Tryz.f6) Tryz.func6 (c := bodyOf Tryz.f6) rfl (of_decide_eq_true (by kernel_rfl)) (anOf [(63, [10]), (250, [10, 11])]) 51 52 (by kernel_rfl) rfl [.cell 2 26, .tmp 3, .cell 4 28, .tmp 5] (by kernel_rfl) (args := [code0_1]) (by rw [e6]; exact H)
def t7 (P : Program) (g0_1 : Value) (sink1_1 : Value) (s2_1 : Value) (choices3_1 : Value) (h : Heap) (K : Value → Heap → Prop) : Prop :=
  eop P (Instr.box 26 g0_1) h fun g4_1 h_1 =>
  eop P (Instr.box 28 s2_1) h_1 fun s6_1 h_2 =>
  eop P (Instr.alloc 28 true (.tuple #[])) h_2 fun t8_1 h_3 =>
  rop P (Instr.loadAt 26 g4_1) h_3 fun t14_1 =>
  rop P (Instr.loadAt 28 s6_1) h_3 fun t16_1 =>
  callM P 54 #[t14_1, sink1_1, t16_1, choices3_1] h_3 fun t18_1 h_4 =>
  pop P (Instr.extract t18_1 0) fun t19_1 =>
  pop P (Instr.extract t18_1 1) fun t20_1 =>
  pop P (Instr.extract t18_1 2) fun t21_1 =>
  eop P (Instr.alloc 28 true (.tuple #[])) h_4 fun out10_1 h_5 =>
  uop P (Instr.storeAt 28 out10_1 t19_1) h_5 fun u_1 h_6 =>
  rop P (Instr.loadAt 28 out10_1) h_6 fun t22_1 =>
  uop P (Instr.storeAt 28 t8_1 t22_1) h_6 fun u_2 h_7 =>
  rop P (Instr.loadAt 28 t8_1) h_7 fun r_1 =>
  K (.tuple #[r_1, t21_1]) h_7
theorem e7 (g0_1 : Value) (sink1_1 : Value) (s2_1 : Value) (choices3_1 : Value) (h : Heap) (K : Value → Heap → Prop) : wpA Tryz.prog 24 (anOf []) (bodyOf Tryz.f7) 1 (fun A h => resA Tryz.prog A h K [.cell 8 28, .tmp 9]) (fun _ _ _ => False) (fun A h => resA Tryz.prog A h K [.cell 8 28, .tmp 9]) (aargs [g0_1, sink1_1, s2_1, choices3_1] 0) h = t7 Tryz.prog g0_1 sink1_1 s2_1 choices3_1 h K := by kernel_rfl
theorem c7 (g0_1 : Value) (sink1_1 : Value) (s2_1 : Value) (choices3_1 : Value) (h : Heap) (K : Value → Heap → Prop) (H : t7 Tryz.prog g0_1 sink1_1 s2_1 choices3_1 h K) : callM Tryz.prog 7 #[g0_1, sink1_1, s2_1, choices3_1] h K :=
  callM_of_wpA mixed (fn := Tryz.f7) Tryz.func7 (c := bodyOf Tryz.f7) rfl (of_decide_eq_true (by kernel_rfl)) (anOf []) 20 24 (by kernel_rfl) rfl [.cell 8 28, .tmp 9] (by kernel_rfl) (args := [g0_1, sink1_1, s2_1, choices3_1]) (by rw [e7]; exact H)
def t8 (P : Program) (g0_1 : Value) (sink1_1 : Value) (s2_1 : Value) (choices3_1 : Value) (h : Heap) (K : Value → Heap → Prop) : Prop :=
  eop P (Instr.box 26 g0_1) h fun g4_1 h_1 =>
  eop P (Instr.box 28 s2_1) h_1 fun s6_1 h_2 =>
  eop P (Instr.alloc 28 true (.tuple #[])) h_2 fun t8_1 h_3 =>
  rop P (Instr.loadAt 26 g4_1) h_3 fun t13_1 =>
  rop P (Instr.loadAt 28 s6_1) h_3 fun t15_1 =>
  callM P 55 #[t13_1, sink1_1, t15_1] h_3 fun t16_1 h_4 =>
  pop P (Op.unary .not t16_1) fun t17_1 =>
  guardM (asG t17_1 false) false (fun k_1 => k_1 choices3_1 h_4) h_4 fun t19_1 h_5 =>
  guardM (asG t17_1 false) false (fun k_2 => pop P (lenS 29 3 t19_1) fun t20_1 =>
  k_2 t20_1 h_5) h_5 fun t20_2 h_6 =>
  guardM (asG t17_1 false) false (fun k_3 => pop P (binA .gtr 3 t20_2 (Value.int IntKind.i64 100)) fun t21_1 =>
  k_3 t21_1 h_6) h_6 fun t21_2 h_7 =>
  pop P (pickS t17_1 (Value.bool true) t21_2) fun t22_1 =>
  guardM (asG t22_1 false) false (fun k_4 => k_4 choices3_1 h_7) h_7 fun t24_1 h_8 =>
  guardM (asG t22_1 false) false (fun k_5 => callM P 56 #[t24_1, (Value.int IntKind.i64 0), (Value.int IntKind.i64 9223372036854775807)] h_8 fun t25_1 h_9 =>
  k_5 t25_1 h_9) h_8 fun t25_2 h_10 =>
  guardM (asG t22_1 false) false (fun k_6 => pop P (Op.unary .not t25_2) fun t26_1 =>
  k_6 t26_1 h_10) h_10 fun t26_2 h_11 =>
  pop P (pickS t22_1 (Value.bool true) t26_2) fun t27_1 =>
  condM t27_1
  (pop P (Instr.build 28 #[]) fun t28_1 =>
  uop P (Instr.storeAt 28 t8_1 t28_1) h_11 fun u_1 h_12 =>
  rop P (Instr.loadAt 28 t8_1) h_12 fun r_1 =>
  K (.tuple #[r_1, (Value.bool false)]) h_12)
  (rop P (Instr.loadAt 26 g4_1) h_11 fun t30_1 =>
  rop P (Instr.loadAt 28 s6_1) h_11 fun t32_1 =>
  callM P 57 #[t30_1, sink1_1, t32_1, choices3_1] h_11 fun t34_1 h_13 =>
  pop P (Instr.extract t34_1 0) fun t35_1 =>
  pop P (Instr.extract t34_1 1) fun t36_1 =>
  pop P (Instr.extract t34_1 2) fun t37_1 =>
  eop P (Instr.alloc 28 true (.tuple #[])) h_13 fun out10_1 h_14 =>
  uop P (Instr.storeAt 28 out10_1 t35_1) h_14 fun u_2 h_15 =>
  pop P (Op.unary .not t37_1) fun t39_1 =>
  condM t39_1
  (pop P (Instr.build 28 #[]) fun t40_1 =>
  uop P (Instr.storeAt 28 t8_1 t40_1) h_15 fun u_3 h_16 =>
  rop P (Instr.loadAt 28 t8_1) h_16 fun r_2 =>
  K (.tuple #[r_2, (Value.bool false)]) h_16)
  (rop P (Instr.loadAt 28 out10_1) h_15 fun t41_1 =>
  callM P 58 #[t41_1, (Value.slice none 0 0)] h_15 fun t42_1 h_17 =>
  uop P (Instr.storeAt 28 t8_1 t42_1) h_17 fun u_4 h_18 =>
  rop P (Instr.loadAt 28 t8_1) h_18 fun r_3 =>
  K (.tuple #[r_3, (Value.bool true)]) h_18))
theorem e8 (g0_1 : Value) (sink1_1 : Value) (s2_1 : Value) (choices3_1 : Value) (h : Heap) (K : Value → Heap → Prop) : wpA Tryz.prog 43 (anOf []) (bodyOf Tryz.f8) 1 (fun A h => resA Tryz.prog A h K [.cell 8 28, .tmp 9]) (fun _ _ _ => False) (fun A h => resA Tryz.prog A h K [.cell 8 28, .tmp 9]) (aargs [g0_1, sink1_1, s2_1, choices3_1] 0) h = t8 Tryz.prog g0_1 sink1_1 s2_1 choices3_1 h K := by kernel_rfl
theorem c8 (g0_1 : Value) (sink1_1 : Value) (s2_1 : Value) (choices3_1 : Value) (h : Heap) (K : Value → Heap → Prop) (H : t8 Tryz.prog g0_1 sink1_1 s2_1 choices3_1 h K) : callM Tryz.prog 8 #[g0_1, sink1_1, s2_1, choices3_1] h K :=
  callM_of_wpA mixed (fn := Tryz.f8) Tryz.func8 (c := bodyOf Tryz.f8) rfl (of_decide_eq_true (by kernel_rfl)) (anOf []) 39 43 (by kernel_rfl) rfl [.cell 8 28, .tmp 9] (by kernel_rfl) (args := [g0_1, sink1_1, s2_1, choices3_1]) (by rw [e8]; exact H)
def t9 (P : Program) (g0_1 : Value) (sink1_1 : Value) (s2_1 : Value) (h : Heap) (K : Value → Heap → Prop) : Prop :=
  eop P (Instr.box 26 g0_1) h fun g3_1 h_1 =>
  eop P (Instr.box 28 s2_1) h_1 fun s5_1 h_2 =>
  rop P (Instr.loadAt 26 g3_1) h_2 fun t15_1 =>
  rop P (Instr.loadAt 28 s5_1) h_2 fun t17_1 =>
  callM P 54 #[t15_1, sink1_1, t17_1, (Value.slice none 0 0)] h_2 fun t18_1 h_3 =>
  pop P (Instr.extract t18_1 0) fun t19_1 =>
  pop P (Instr.extract t18_1 1) fun t20_1 =>
  pop P (Instr.extract t18_1 2) fun t21_1 =>
  eop P (Instr.alloc 28 true (.tuple #[])) h_3 fun end8_1 h_4 =>
  uop P (Instr.storeAt 28 end8_1 t19_1) h_4 fun u_1 h_5 =>
  pop P (Op.unary .not t21_1) fun t23_1 =>
  condM t23_1
  (K (.tuple #[(Value.slice none 0 0), (Value.bool false)]) h_5)
  (eop P (Instr.buildSlice 29 0 #[]) h_5 fun t24_1 h_6 =>
  pop P (Instr.fieldAt 28 s5_1 0) fun t25_1 =>
  rop P (Instr.loadAt 24 t25_1) h_6 fun t26_1 =>
  pop P (lenS 24 3 t26_1) fun t27_1 =>
  ∃ (I_1 : List Value → Heap → Prop) (μ_1 : List Value → Heap → Nat), I_1 [t24_1, (Value.int IntKind.i64 0)] h_6 ∧
  ∀ (junk_1 : Nat → Value) (out11_1 : Value) (t28_1 : Value) (h_7 : Heap), I_1 [out11_1, t28_1] h_7 →
  pop P (binA .lss 3 t28_1 t27_1) fun t29_1 =>
  condM t29_1
  (pop P (Instr.indexAt 24 t26_1 t28_1) fun t31_1 =>
  rop P (Instr.loadAt 29 t31_1) h_7 fun t32_1 =>
  pop P (lenS 29 3 t32_1) fun t35_1 =>
  pop P (Instr.fieldAt 28 end8_1 0) fun t36_1 =>
  rop P (Instr.loadAt 24 t36_1) h_7 fun t37_1 =>
  pop P (Instr.indexAt 24 t37_1 t28_1) fun t39_1 =>
  rop P (Instr.loadAt 29 t39_1) h_7 fun t40_1 =>
  pop P (lenS 29 3 t40_1) fun t41_1 =>
  pop P (binA .sub 3 t35_1 t41_1) fun t42_1 =>
  eop P (Instr.buildSlice 29 1 #[(0, t42_1)]) h_7 fun t43_1 h_8 =>
  eop P (appS 29 29 29 out11_1 t43_1) h_8 fun t44_1 h_9 =>
  pop P (binA .add 3 t28_1 (Value.int IntKind.i64 1)) fun t45_1 =>
  I_1 [t44_1, t45_1] h_9 ∧ μ_1 [t44_1, t45_1] h_9 < μ_1 [out11_1, t28_1] h_7)
  (K (.tuple #[out11_1, (Value.bool true)]) h_7))
theorem e9 (g0_1 : Value) (sink1_1 : Value) (s2_1 : Value) (h : Heap) (K : Value → Heap → Prop) : wpA Tryz.prog 47 (anOf [(250, [11, 28])]) (bodyOf Tryz.f9) 1 (fun A h => resA Tryz.prog A h K [.tmp 6, .tmp 7]) (fun _ _ _ => False) (fun A h => resA Tryz.prog A h K [.tmp 6, .tmp 7]) (aargs [g0_1, sink1_1, s2_1] 0) h = t9 Tryz.prog g0_1 sink1_1 s2_1 h K := by kernel_rfl
theorem c9 (g0_1 : Value) (sink1_1 : Value) (s2_1 : Value) (h : Heap) (K : Value → Heap → Prop) (H : t9 Tryz.prog g0_1 sink1_1 s2_1 h K) : callM Tryz.prog 9 #[g0_1, sink1_1, s2_1] h K :=
  callM_of_wpA mixed (fn := Tryz.f9) Tryz.func9 (c := bodyOf Tryz.f9) rfl (of_decide_eq_true (by kernel_rfl)) (anOf [(250, [11, 28])]) 44 47 (by kernel_rfl) rfl [.tmp 6, .tmp 7] (by kernel_rfl) (args := [g0_1, sink1_1, s2_1]) (by rw [e9]; exact H)
def t10 (P : Program) (g0_1 : Value) (sink1_1 : Value) (s2_1 : Value) (h : Heap) (K : Value → Heap → Prop) : Prop :=
  eop P (Instr.box 26 g0_1) h fun g3_1 h_1 =>
  eop P (Instr.box 28 s2_1) h_1 fun s5_1 h_2 =>
  rop P (Instr.loadAt 26 g3_1) h_2 fun t14_1 =>
  rop P (Instr.loadAt 28 s5_1) h_2 fun t16_1 =>
  callM P 55 #[t14_1, sink1_1, t16_1] h_2 fun t17_1 h_3 =>
  pop P (Op.unary .not t17_1) fun t18_1 =>
  condM t18_1
  (K (.tuple #[(Value.slice none 0 0), (Value.bool false)]) h_3)
  (rop P (Instr.loadAt 26 g3_1) h_3 fun t20_1 =>
  rop P (Instr.loadAt 28 s5_1) h_3 fun t22_1 =>
  callM P 57 #[t20_1, sink1_1, t22_1, (Value.slice none 0 0)] h_3 fun t23_1 h_4 =>
  pop P (Instr.extract t23_1 0) fun t24_1 =>
  pop P (Instr.extract t23_1 1) fun t25_1 =>
  pop P (Instr.extract t23_1 2) fun t26_1 =>
  eop P (Instr.alloc 28 true (.tuple #[])) h_4 fun end8_1 h_5 =>
  uop P (Instr.storeAt 28 end8_1 t24_1) h_5 fun u_1 h_6 =>
  pop P (Op.unary .not t26_1) fun t28_1 =>
  condM t28_1
  (K (.tuple #[(Value.slice none 0 0), (Value.bool false)]) h_6)
  (pop P (Instr.fieldAt 28 s5_1 0) fun t29_1 =>
  rop P (Instr.loadAt 24 t29_1) h_6 fun t30_1 =>
  pop P (lenS 24 3 t30_1) fun t31_1 =>
  ∃ (I_1 : List Value → Heap → Prop) (μ_1 : List Value → Heap → Nat), I_1 [(Value.slice none 0 0), (Value.int IntKind.i64 0)] h_6 ∧
  ∀ (junk_1 : Nat → Value) (out11_1 : Value) (t32_1 : Value) (h_7 : Heap), I_1 [out11_1, t32_1] h_7 →
  pop P (binA .lss 3 t32_1 t31_1) fun t33_1 =>
  condM t33_1
  (pop P (Instr.indexAt 24 t30_1 t32_1) fun t35_1 =>
  rop P (Instr.loadAt 29 t35_1) h_7 fun t36_1 =>
  pop P (lenS 29 3 t36_1) fun t39_1 =>
  pop P (Instr.fieldAt 28 end8_1 0) fun t40_1 =>
  rop P (Instr.loadAt 24 t40_1) h_7 fun t41_1 =>
  pop P (Instr.indexAt 24 t41_1 t32_1) fun t43_1 =>
  rop P (Instr.loadAt 29 t43_1) h_7 fun t44_1 =>
  pop P (lenS 29 3 t44_1) fun t45_1 =>
  pop P (binA .sub 3 t39_1 t45_1) fun t46_1 =>
  eop P (Instr.buildSlice 29 1 #[(0, t46_1)]) h_7 fun t47_1 h_8 =>
  eop P (appS 29 29 29 out11_1 t47_1) h_8 fun t48_1 h_9 =>
  pop P (binA .add 3 t32_1 (Value.int IntKind.i64 1)) fun t49_1 =>
  I_1 [t48_1, t49_1] h_9 ∧ μ_1 [t48_1, t49_1] h_9 < μ_1 [out11_1, t32_1] h_7)
  (K (.tuple #[out11_1, (Value.bool true)]) h_7)))
theorem e10 (g0_1 : Value) (sink1_1 : Value) (s2_1 : Value) (h : Heap) (K : Value → Heap → Prop) : wpA Tryz.prog 51 (anOf [(506, [11, 32])]) (bodyOf Tryz.f10) 1 (fun A h => resA Tryz.prog A h K [.tmp 6, .tmp 7]) (fun _ _ _ => False) (fun A h => resA Tryz.prog A h K [.tmp 6, .tmp 7]) (aargs [g0_1, sink1_1, s2_1] 0) h = t10 Tryz.prog g0_1 sink1_1 s2_1 h K := by kernel_rfl
theorem c10 (g0_1 : Value) (sink1_1 : Value) (s2_1 : Value) (h : Heap) (K : Value → Heap → Prop) (H : t10 Tryz.prog g0_1 sink1_1 s2_1 h K) : callM Tryz.prog 10 #[g0_1, sink1_1, s2_1] h K :=
  callM_of_wpA mixed (fn := Tryz.f10) Tryz.func10 (c := bodyOf Tryz.f10) rfl (of_decide_eq_true (by kernel_rfl)) (anOf [(506, [11, 32])]) 48 51 (by kernel_rfl) rfl [.tmp 6, .tmp 7] (by kernel_rfl) (args := [g0_1, sink1_1, s2_1]) (by rw [e10]; exact H)
def t11 (P : Program) (g0_1 : Value) (sink1_1 : Value) (s2_1 : Value) (h : Heap) (K : Value → Heap → Prop) : Prop :=
  eop P (Instr.box 26 g0_1) h fun g3_1 h_1 =>
  eop P (Instr.box 28 s2_1) h_1 fun s5_1 h_2 =>
  rop P (Instr.loadAt 26 g3_1) h_2 fun t12_1 =>
  rop P (Instr.loadAt 28 s5_1) h_2 fun t14_1 =>
  callM P 54 #[t12_1, sink1_1, t14_1, (Value.slice none 0 0)] h_2 fun t15_1 h_3 =>
  pop P (Instr.extract t15_1 0) fun t16_1 =>
  pop P (Instr.extract t15_1 1) fun t17_1 =>
  pop P (Instr.extract t15_1 2) fun t18_1 =>
  eop P (Instr.alloc 28 true (.tuple #[])) h_3 fun _8_1 h_4 =>
  uop P (Instr.storeAt 28 _8_1 t16_1) h_4 fun u_1 h_5 =>
  K (.tuple #[t17_1, t18_1]) h_5
theorem e11 (g0_1 : Value) (sink1_1 : Value) (s2_1 : Value) (h : Heap) (K : Value → Heap → Prop) : wpA Tryz.prog 21 (anOf []) (bodyOf Tryz.f11) 1 (fun A h => resA Tryz.prog A h K [.tmp 6, .tmp 7]) (fun _ _ _ => False) (fun A h => resA Tryz.prog A h K [.tmp 6, .tmp 7]) (aargs [g0_1, sink1_1, s2_1] 0) h = t11 Tryz.prog g0_1 sink1_1 s2_1 h K := by kernel_rfl
theorem c11 (g0_1 : Value) (sink1_1 : Value) (s2_1 : Value) (h : Heap) (K : Value → Heap → Prop) (H : t11 Tryz.prog g0_1 sink1_1 s2_1 h K) : callM Tryz.prog 11 #[g0_1, sink1_1, s2_1] h K :=
  callM_of_wpA mixed (fn := Tryz.f11) Tryz.func11 (c := bodyOf Tryz.f11) rfl (of_decide_eq_true (by kernel_rfl)) (anOf []) 18 21 (by kernel_rfl) rfl [.tmp 6, .tmp 7] (by kernel_rfl) (args := [g0_1, sink1_1, s2_1]) (by rw [e11]; exact H)
def t12 (P : Program) (g0_1 : Value) (sink1_1 : Value) (s2_1 : Value) (h : Heap) (K : Value → Heap → Prop) : Prop :=
  eop P (Instr.box 26 g0_1) h fun g3_1 h_1 =>
  eop P (Instr.box 28 s2_1) h_1 fun s5_1 h_2 =>
  rop P (Instr.loadAt 26 g3_1) h_2 fun t11_1 =>
  rop P (Instr.loadAt 28 s5_1) h_2 fun t13_1 =>
  callM P 55 #[t11_1, sink1_1, t13_1] h_2 fun t14_1 h_3 =>
  pop P (Op.unary .not t14_1) fun t15_1 =>
  condM t15_1
  (K (.tuple #[(Value.int IntKind.i64 0), (Value.bool false)]) h_3)
  (rop P (Instr.loadAt 26 g3_1) h_3 fun t17_1 =>
  rop P (Instr.loadAt 28 s5_1) h_3 fun t19_1 =>
  callM P 57 #[t17_1, sink1_1, t19_1, (Value.slice none 0 0)] h_3 fun t20_1 h_4 =>
  pop P (Instr.extract t20_1 0) fun t21_1 =>
  pop P (Instr.extract t20_1 1) fun t22_1 =>
  pop P (Instr.extract t20_1 2) fun t23_1 =>
  eop P (Instr.alloc 28 true (.tuple #[])) h_4 fun _8_1 h_5 =>
  uop P (Instr.storeAt 28 _8_1 t21_1) h_5 fun u_1 h_6 =>
  pop P (Op.unary .not t23_1) fun t25_1 =>
  condM t25_1
  (K (.tuple #[(Value.int IntKind.i64 0), (Value.bool false)]) h_6)
  (K (.tuple #[t22_1, (Value.bool true)]) h_6))
theorem e12 (g0_1 : Value) (sink1_1 : Value) (s2_1 : Value) (h : Heap) (K : Value → Heap → Prop) : wpA Tryz.prog 27 (anOf []) (bodyOf Tryz.f12) 1 (fun A h => resA Tryz.prog A h K [.tmp 6, .tmp 7]) (fun _ _ _ => False) (fun A h => resA Tryz.prog A h K [.tmp 6, .tmp 7]) (aargs [g0_1, sink1_1, s2_1] 0) h = t12 Tryz.prog g0_1 sink1_1 s2_1 h K := by kernel_rfl
theorem c12 (g0_1 : Value) (sink1_1 : Value) (s2_1 : Value) (h : Heap) (K : Value → Heap → Prop) (H : t12 Tryz.prog g0_1 sink1_1 s2_1 h K) : callM Tryz.prog 12 #[g0_1, sink1_1, s2_1] h K :=
  callM_of_wpA mixed (fn := Tryz.f12) Tryz.func12 (c := bodyOf Tryz.f12) rfl (of_decide_eq_true (by kernel_rfl)) (anOf []) 24 27 (by kernel_rfl) rfl [.tmp 6, .tmp 7] (by kernel_rfl) (args := [g0_1, sink1_1, s2_1]) (by rw [e12]; exact H)
def t13 (P : Program) (g0_1 : Value) (sink1_1 : Value) (s2_1 : Value) (h : Heap) (K : Value → Heap → Prop) : Prop :=
  eop P (Instr.box 26 g0_1) h fun g3_1 h_1 =>
  eop P (Instr.box 28 s2_1) h_1 fun s5_1 h_2 =>
  rop P (Instr.loadAt 26 g3_1) h_2 fun t12_1 =>
  rop P (Instr.loadAt 28 s5_1) h_2 fun t14_1 =>
  callM P 54 #[t12_1, sink1_1, t14_1, (Value.slice none 0 0)] h_2 fun t15_1 h_3 =>
  pop P (Instr.extract t15_1 0) fun t16_1 =>
  pop P (Instr.extract t15_1 1) fun t17_1 =>
  pop P (Instr.extract t15_1 2) fun t18_1 =>
  eop P (Instr.alloc 28 true (.tuple #[])) h_3 fun end8_1 h_4 =>
  uop P (Instr.storeAt 28 end8_1 t16_1) h_4 fun u_1 h_5 =>
  pop P (Op.unary .not t18_1) fun t20_1 =>
  condM t20_1
  (K (.tuple #[(Value.slice none 0 0), (Value.bool false)]) h_5)
  (rop P (Instr.loadAt 28 end8_1) h_5 fun t21_1 =>
  callM P 59 #[t21_1, sink1_1] h_5 fun t23_1 h_6 =>
  pop P (Instr.extract t23_1 0) fun t24_1 =>
  pop P (Instr.extract t23_1 1) fun t25_1 =>
  K (.tuple #[t24_1, t25_1]) h_6)
theorem e13 (g0_1 : Value) (sink1_1 : Value) (s2_1 : Value) (h : Heap) (K : Value → Heap → Prop) : wpA Tryz.prog 26 (anOf []) (bodyOf Tryz.f13) 1 (fun A h => resA Tryz.prog A h K [.tmp 6, .tmp 7]) (fun _ _ _ => False) (fun A h => resA Tryz.prog A h K [.tmp 6, .tmp 7]) (aargs [g0_1, sink1_1, s2_1] 0) h = t13 Tryz.prog g0_1 sink1_1 s2_1 h K := by kernel_rfl
theorem c13 (g0_1 : Value) (sink1_1 : Value) (s2_1 : Value) (h : Heap) (K : Value → Heap → Prop) (H : t13 Tryz.prog g0_1 sink1_1 s2_1 h K) : callM Tryz.prog 13 #[g0_1, sink1_1, s2_1] h K :=
  callM_of_wpA mixed (fn := Tryz.f13) Tryz.func13 (c := bodyOf Tryz.f13) rfl (of_decide_eq_true (by kernel_rfl)) (anOf []) 23 26 (by kernel_rfl) rfl [.tmp 6, .tmp 7] (by kernel_rfl) (args := [g0_1, sink1_1, s2_1]) (by rw [e13]; exact H)
def t14 (P : Program) (g0_1 : Value) (sink1_1 : Value) (s2_1 : Value) (h : Heap) (K : Value → Heap → Prop) : Prop :=
  eop P (Instr.box 26 g0_1) h fun g3_1 h_1 =>
  eop P (Instr.box 28 s2_1) h_1 fun s5_1 h_2 =>
  rop P (Instr.loadAt 26 g3_1) h_2 fun t11_1 =>
  rop P (Instr.loadAt 28 s5_1) h_2 fun t13_1 =>
  callM P 55 #[t11_1, sink1_1, t13_1] h_2 fun t14_1 h_3 =>
  pop P (Op.unary .not t14_1) fun t15_1 =>
  condM t15_1
  (K (.tuple #[(Value.slice none 0 0), (Value.bool false)]) h_3)
  (rop P (Instr.loadAt 26 g3_1) h_3 fun t17_1 =>
  rop P (Instr.loadAt 28 s5_1) h_3 fun t19_1 =>
  callM P 57 #[t17_1, sink1_1, t19_1, (Value.slice none 0 0)] h_3 fun t20_1 h_4 =>
  pop P (Instr.extract t20_1 0) fun t21_1 =>
  pop P (Instr.extract t20_1 1) fun t22_1 =>
  pop P (Instr.extract t20_1 2) fun t23_1 =>
  eop P (Instr.alloc 28 true (.tuple #[])) h_4 fun end8_1 h_5 =>
  uop P (Instr.storeAt 28 end8_1 t21_1) h_5 fun u_1 h_6 =>
  pop P (Op.unary .not t23_1) fun t25_1 =>
  condM t25_1
  (K (.tuple #[(Value.slice none 0 0), (Value.bool false)]) h_6)
  (rop P (Instr.loadAt 26 g3_1) h_6 fun t26_1 =>
  rop P (Instr.loadAt 28 end8_1) h_6 fun t28_1 =>
  callM P 60 #[t26_1, sink1_1, t28_1] h_6 fun t29_1 h_7 =>
  pop P (Instr.extract t29_1 0) fun t30_1 =>
  pop P (Instr.extract t29_1 1) fun t31_1 =>
  K (.tuple #[t30_1, t31_1]) h_7))
theorem e14 (g0_1 : Value) (sink1_1 : Value) (s2_1 : Value) (h : Heap) (K : Value → Heap → Prop) : wpA Tryz.prog 32 (anOf []) (bodyOf Tryz.f14) 1 (fun A h => resA Tryz.prog A h K [.tmp 6, .tmp 7]) (fun _ _ _ => False) (fun A h => resA Tryz.prog A h K [.tmp 6, .tmp 7]) (aargs [g0_1, sink1_1, s2_1] 0) h = t14 Tryz.prog g0_1 sink1_1 s2_1 h K := by kernel_rfl
theorem c14 (g0_1 : Value) (sink1_1 : Value) (s2_1 : Value) (h : Heap) (K : Value → Heap → Prop) (H : t14 Tryz.prog g0_1 sink1_1 s2_1 h K) : callM Tryz.prog 14 #[g0_1, sink1_1, s2_1] h K :=
  callM_of_wpA mixed (fn := Tryz.f14) Tryz.func14 (c := bodyOf Tryz.f14) rfl (of_decide_eq_true (by kernel_rfl)) (anOf []) 29 32 (by kernel_rfl) rfl [.tmp 6, .tmp 7] (by kernel_rfl) (args := [g0_1, sink1_1, s2_1]) (by rw [e14]; exact H)
def t15 (P : Program) (a0_1 : Value) (b1_1 : Value) (h : Heap) (K : Value → Heap → Prop) : Prop :=
  eop P (Instr.box 28 a0_1) h fun a2_1 h_1 =>
  eop P (Instr.box 28 b1_1) h_1 fun b3_1 h_2 =>
  pop P (Instr.fieldAt 28 a2_1 0) fun t5_1 =>
  rop P (Instr.loadAt 24 t5_1) h_2 fun t6_1 =>
  pop P (Instr.fieldAt 28 b3_1 0) fun t7_1 =>
  rop P (Instr.loadAt 24 t7_1) h_2 fun t8_1 =>
  callM P 61 #[t6_1, t8_1] h_2 fun t9_1 h_3 =>
  K t9_1 h_3
theorem e15 (a0_1 : Value) (b1_1 : Value) (h : Heap) (K : Value → Heap → Prop) : wpA Tryz.prog 10 (anOf []) (bodyOf Tryz.f15) 1 (fun A h => resA Tryz.prog A h K [.tmp 4]) (fun _ _ _ => False) (fun A h => resA Tryz.prog A h K [.tmp 4]) (aargs [a0_1, b1_1] 0) h = t15 Tryz.prog a0_1 b1_1 h K := by kernel_rfl
theorem c15 (a0_1 : Value) (b1_1 : Value) (h : Heap) (K : Value → Heap → Prop) (H : t15 Tryz.prog a0_1 b1_1 h K) : callM Tryz.prog 15 #[a0_1, b1_1] h K :=
  callM_of_wpA mixed (fn := Tryz.f15) Tryz.func15 (c := bodyOf Tryz.f15) rfl (of_decide_eq_true (by kernel_rfl)) (anOf []) 8 10 (by kernel_rfl) rfl [.tmp 4] (by kernel_rfl) (args := [a0_1, b1_1]) (by rw [e15]; exact H)
def t16 (P : Program) (a0_1 : Value) (b1_1 : Value) (h : Heap) (K : Value → Heap → Prop) : Prop :=
  pop P (lenS 29 3 a0_1) fun t7_1 =>
  pop P (lenS 29 3 b1_1) fun t9_1 =>
  pop P (binE .neq 3 (.tmp 7) (.tmp 9) t7_1 t9_1) fun t10_1 =>
  condM t10_1
  (K (Value.bool false) h)
  (pop P (lenS 29 3 a0_1) fun t12_1 =>
  ∃ (I_1 : List Value → Heap → Prop) (μ_1 : List Value → Heap → Nat), I_1 [(Value.int IntKind.i64 0)] h ∧
  ∀ (junk_1 : Nat → Value) (t13_1 : Value) (h_1 : Heap), I_1 [t13_1] h_1 →
  pop P (binA .lss 3 t13_1 t12_1) fun t14_1 =>
  condM t14_1
  (pop P (Instr.indexAt 29 a0_1 t13_1) fun t18_1 =>
  rop P (Instr.loadAt 3 t18_1) h_1 fun t19_1 =>
  pop P (Instr.indexAt 29 b1_1 t13_1) fun t22_1 =>
  rop P (Instr.loadAt 3 t22_1) h_1 fun t23_1 =>
  pop P (binE .neq 3 (.tmp 19) (.tmp 23) t19_1 t23_1) fun t24_1 =>
  condM t24_1
  (K (Value.bool false) h_1)
  (pop P (binA .add 3 t13_1 (Value.int IntKind.i64 1)) fun t25_1 =>
  I_1 [t25_1] h_1 ∧ μ_1 [t25_1] h_1 < μ_1 [t13_1] h_1))
  (K (Value.bool true) h_1))
theorem e16 (a0_1 : Value) (b1_1 : Value) (h : Heap) (K : Value → Heap → Prop) : wpA Tryz.prog 26 (anOf [(58, [13])]) (bodyOf Tryz.f16) 1 (fun A h => resA Tryz.prog A h K [.tmp 4]) (fun _ _ _ => False) (fun A h => resA Tryz.prog A h K [.tmp 4]) (aargs [a0_1, b1_1] 0) h = t16 Tryz.prog a0_1 b1_1 h K := by kernel_rfl
theorem c16 (a0_1 : Value) (b1_1 : Value) (h : Heap) (K : Value → Heap → Prop) (H : t16 Tryz.prog a0_1 b1_1 h K) : callM Tryz.prog 16 #[a0_1, b1_1] h K :=
  callM_of_wpA mixed (fn := Tryz.f16) Tryz.func16 (c := bodyOf Tryz.f16) rfl (of_decide_eq_true (by kernel_rfl)) (anOf [(58, [13])]) 24 26 (by kernel_rfl) rfl [.tmp 4] (by kernel_rfl) (args := [a0_1, b1_1]) (by rw [e16]; exact H)
def t17 (P : Program) (g0_1 : Value) (sink1_1 : Value) (rotors2_1 : Value) (h : Heap) (K : Value → Heap → Prop) : Prop :=
  eop P (Instr.box 26 g0_1) h fun g3_1 h_1 =>
  rop P (Instr.loadAt 26 g3_1) h_1 fun t8_1 =>
  callM P 62 #[t8_1, sink1_1, rotors2_1] h_1 fun t11_1 h_2 =>
  pop P (Op.unary .not t11_1) fun t12_1 =>
  condM t12_1
  (K (.tuple #[(Value.bool false), (Value.bool false)]) h_2)
  (rop P (Instr.loadAt 26 g3_1) h_2 fun t13_1 =>
  callM P 63 #[t13_1, sink1_1, rotors2_1] h_2 fun t16_1 h_3 =>
  K (.tuple #[t16_1, (Value.bool true)]) h_3)
theorem e17 (g0_1 : Value) (sink1_1 : Value) (rotors2_1 : Value) (h : Heap) (K : Value → Heap → Prop) : wpA Tryz.prog 17 (anOf []) (bodyOf Tryz.f17) 1 (fun A h => resA Tryz.prog A h K [.tmp 6, .tmp 7]) (fun _ _ _ => False) (fun A h => resA Tryz.prog A h K [.tmp 6, .tmp 7]) (aargs [g0_1, sink1_1, rotors2_1] 0) h = t17 Tryz.prog g0_1 sink1_1 rotors2_1 h K := by kernel_rfl
theorem c17 (g0_1 : Value) (sink1_1 : Value) (rotors2_1 : Value) (h : Heap) (K : Value → Heap → Prop) (H : t17 Tryz.prog g0_1 sink1_1 rotors2_1 h K) : callM Tryz.prog 17 #[g0_1, sink1_1, rotors2_1] h K :=
  callM_of_wpA mixed (fn := Tryz.f17) Tryz.func17 (c := bodyOf Tryz.f17) rfl (of_decide_eq_true (by kernel_rfl)) (anOf []) 14 17 (by kernel_rfl) rfl [.tmp 6, .tmp 7] (by kernel_rfl) (args := [g0_1, sink1_1, rotors2_1]) (by rw [e17]; exact H)
def t18 (P : Program) (g0_1 : Value) (sink1_1 : Value) (s2_1 : Value) (h : Heap) (K : Value → Heap → Prop) : Prop :=
  eop P (Instr.box 26 g0_1) h fun g3_1 h_1 =>
  eop P (Instr.box 28 s2_1) h_1 fun s5_1 h_2 =>
  rop P (Instr.loadAt 26 g3_1) h_2 fun t8_1 =>
  rop P (Instr.loadAt 28 s5_1) h_2 fun t10_1 =>
  callM P 64 #[t8_1, sink1_1, t10_1] h_2 fun t11_1 h_3 =>
  pop P (Op.unary .not t11_1) fun t12_1 =>
  condM t12_1
  (K (.tuple #[(Value.slice none 0 0), (Value.bool false)]) h_3)
  (rop P (Instr.loadAt 28 s5_1) h_3 fun t13_1 =>
  callM P 59 #[t13_1, sink1_1] h_3 fun t15_1 h_4 =>
  pop P (Instr.extract t15_1 0) fun t16_1 =>
  pop P (Instr.extract t15_1 1) fun t17_1 =>
  K (.tuple #[t16_1, t17_1]) h_4)
theorem e18 (g0_1 : Value) (sink1_1 : Value) (s2_1 : Value) (h : Heap) (K : Value → Heap → Prop) : wpA Tryz.prog 18 (anOf []) (bodyOf Tryz.f18) 1 (fun A h => resA Tryz.prog A h K [.tmp 6, .tmp 7]) (fun _ _ _ => False) (fun A h => resA Tryz.prog A h K [.tmp 6, .tmp 7]) (aargs [g0_1, sink1_1, s2_1] 0) h = t18 Tryz.prog g0_1 sink1_1 s2_1 h K := by kernel_rfl
theorem c18 (g0_1 : Value) (sink1_1 : Value) (s2_1 : Value) (h : Heap) (K : Value → Heap → Prop) (H : t18 Tryz.prog g0_1 sink1_1 s2_1 h K) : callM Tryz.prog 18 #[g0_1, sink1_1, s2_1] h K :=
  callM_of_wpA mixed (fn := Tryz.f18) Tryz.func18 (c := bodyOf Tryz.f18) rfl (of_decide_eq_true (by kernel_rfl)) (anOf []) 15 18 (by kernel_rfl) rfl [.tmp 6, .tmp 7] (by kernel_rfl) (args := [g0_1, sink1_1, s2_1]) (by rw [e18]; exact H)
def t19 (P : Program) (g0_1 : Value) (sink1_1 : Value) (s2_1 : Value) (h : Heap) (K : Value → Heap → Prop) : Prop :=
  eop P (Instr.box 26 g0_1) h fun g3_1 h_1 =>
  eop P (Instr.box 28 s2_1) h_1 fun s5_1 h_2 =>
  rop P (Instr.loadAt 26 g3_1) h_2 fun t8_1 =>
  rop P (Instr.loadAt 28 s5_1) h_2 fun t10_1 =>
  callM P 64 #[t8_1, sink1_1, t10_1] h_2 fun t11_1 h_3 =>
  pop P (Op.unary .not t11_1) fun t12_1 =>
  condM t12_1
  (K (.tuple #[(Value.slice none 0 0), (Value.bool false)]) h_3)
  (rop P (Instr.loadAt 28 s5_1) h_3 fun t13_1 =>
  rop P (Instr.loadAt 26 g3_1) h_3 fun t14_1 =>
  callM P 65 #[t13_1, t14_1] h_3 fun t15_1 h_4 =>
  K (.tuple #[t15_1, (Value.bool true)]) h_4)
theorem e19 (g0_1 : Value) (sink1_1 : Value) (s2_1 : Value) (h : Heap) (K : Value → Heap → Prop) : wpA Tryz.prog 16 (anOf []) (bodyOf Tryz.f19) 1 (fun A h => resA Tryz.prog A h K [.tmp 6, .tmp 7]) (fun _ _ _ => False) (fun A h => resA Tryz.prog A h K [.tmp 6, .tmp 7]) (aargs [g0_1, sink1_1, s2_1] 0) h = t19 Tryz.prog g0_1 sink1_1 s2_1 h K := by kernel_rfl
theorem c19 (g0_1 : Value) (sink1_1 : Value) (s2_1 : Value) (h : Heap) (K : Value → Heap → Prop) (H : t19 Tryz.prog g0_1 sink1_1 s2_1 h K) : callM Tryz.prog 19 #[g0_1, sink1_1, s2_1] h K :=
  callM_of_wpA mixed (fn := Tryz.f19) Tryz.func19 (c := bodyOf Tryz.f19) rfl (of_decide_eq_true (by kernel_rfl)) (anOf []) 13 16 (by kernel_rfl) rfl [.tmp 6, .tmp 7] (by kernel_rfl) (args := [g0_1, sink1_1, s2_1]) (by rw [e19]; exact H)
def t20 (P : Program) (a0_1 : Value) (h : Heap) (K : Value → Heap → Prop) : Prop :=
  pop P (lenS 29 3 a0_1) fun t7_1 =>
  ∃ (I_1 : List Value → Heap → Prop) (μ_1 : List Value → Heap → Nat), I_1 [(Value.int IntKind.i64 0), (Value.int IntKind.i64 0)] h ∧
  ∀ (junk_1 : Nat → Value) (n3_1 : Value) (t8_1 : Value) (h_1 : Heap), I_1 [n3_1, t8_1] h_1 →
  pop P (binA .lss 3 t8_1 t7_1) fun t9_1 =>
  condM t9_1
  (pop P (Instr.indexAt 29 a0_1 t8_1) fun t10_1 =>
  rop P (Instr.loadAt 3 t10_1) h_1 fun t11_1 =>
  pop P (binA .add 3 n3_1 t11_1) fun t14_1 =>
  pop P (binA .add 3 t8_1 (Value.int IntKind.i64 1)) fun t15_1 =>
  I_1 [t14_1, t15_1] h_1 ∧ μ_1 [t14_1, t15_1] h_1 < μ_1 [n3_1, t8_1] h_1)
  (K n3_1 h_1)
theorem e20 (a0_1 : Value) (h : Heap) (K : Value → Heap → Prop) : wpA Tryz.prog 17 (anOf [(58, [3, 8])]) (bodyOf Tryz.f20) 1 (fun A h => resA Tryz.prog A h K [.tmp 2]) (fun _ _ _ => False) (fun A h => resA Tryz.prog A h K [.tmp 2]) (aargs [a0_1] 0) h = t20 Tryz.prog a0_1 h K := by kernel_rfl
theorem c20 (a0_1 : Value) (h : Heap) (K : Value → Heap → Prop) (H : t20 Tryz.prog a0_1 h K) : callM Tryz.prog 20 #[a0_1] h K :=
  callM_of_wpA mixed (fn := Tryz.f20) Tryz.func20 (c := bodyOf Tryz.f20) rfl (of_decide_eq_true (by kernel_rfl)) (anOf [(58, [3, 8])]) 16 17 (by kernel_rfl) rfl [.tmp 2] (by kernel_rfl) (args := [a0_1]) (by rw [e20]; exact H)
def t21 (P : Program) (code0_1 : Value) (h : Heap) (K : Value → Heap → Prop) : Prop :=
  eop P (Instr.alloc 26 true (.tuple #[])) h fun t2_1 h_1 =>
  eop P (Instr.alloc 28 true (.tuple #[])) h_1 fun t4_1 h_2 =>
  pop P (Instr.build 74 #[(0, code0_1)]) fun t12_1 =>
  eop P (Instr.box 74 t12_1) h_2 fun t13_1 h_3 =>
  callM P 51 #[t13_1] h_3 fun t16_1 h_4 =>
  pop P (Instr.extract t16_1 0) fun t17_1 =>
  pop P (Instr.extract t16_1 1) fun t18_1 =>
  pop P (Instr.extract t16_1 2) fun t19_1 =>
  eop P (Instr.alloc 26 true (.tuple #[])) h_4 fun g7_1 h_5 =>
  eop P (Instr.alloc 28 true (.tuple #[])) h_5 fun s9_1 h_6 =>
  uop P (Instr.storeAt 26 g7_1 t17_1) h_6 fun u_1 h_7 =>
  uop P (Instr.storeAt 28 s9_1 t19_1) h_7 fun u_2 h_8 =>
  pop P (Instr.fieldAt 26 g7_1 0) fun t21_1 =>
  rop P (Instr.loadAt 24 t21_1) h_8 fun t22_1 =>
  pop P (lenS 24 3 t22_1) fun t23_1 =>
  callM P 66 #[t13_1, t23_1] h_8 fun t24_1 h_9 =>
  ∃ J_1 : List Value → Heap → Prop, (pop P (lenS 29 3 t24_1) fun t26_1 =>
  pop P (binA .gtr 3 t26_1 (Value.int IntKind.i64 0)) fun t27_1 =>
  guardM (asG t27_1 true) true (fun k_1 => k_1 t13_1 h_9) h_9 fun t29_1 h_10 =>
  guardM (asG t27_1 true) true (fun k_2 => callM P 67 #[t29_1, (Value.int IntKind.i64 10)] h_10 fun t30_1 h_11 =>
  k_2 t30_1 h_11) h_10 fun t30_2 h_12 =>
  pop P (pickS t27_1 t30_2 (Value.bool false)) fun t31_1 =>
  condM t31_1
  (eop P (Instr.buildSlice 29 3 #[(0, (Value.int IntKind.i64 (-1))), (1, (Value.int IntKind.i64 0)), (2, (Value.int IntKind.i64 1))]) h_12 fun t34_1 h_13 =>
  callM P 53 #[t13_1, t34_1] h_13 fun t35_1 h_14 =>
  pop P (Instr.indexAt 29 t24_1 (Value.int IntKind.i64 0)) fun t36_1 =>
  uop P (Instr.storeAt 3 t36_1 t35_1) h_14 fun u_3 h_15 =>
  J_1 [] h_15)
  (J_1 [] h_12)) ∧
  ∀ (junk_1 : Nat → Value) (h_16 : Heap), J_1 [] h_16 →
  rop P (Instr.loadAt 26 g7_1) h_16 fun t37_1 =>
  rop P (Instr.loadAt 28 s9_1) h_16 fun t39_1 =>
  uop P (Instr.storeAt 26 t2_1 t37_1) h_16 fun u_4 h_17 =>
  (∀ w : World, w.heap = h_17 → (Instr.loadAt 28 s9_1).run P w = .ok t39_1 w) ∧
  uop P (Instr.storeAt 28 t4_1 t39_1) h_17 fun u_5 h_18 =>
  rop P (Instr.loadAt 26 t2_1) h_18 fun r_1 =>
  rop P (Instr.loadAt 28 t4_1) h_18 fun r_2 =>
  K (.tuple #[r_1, t18_1, r_2, t24_1]) h_18
theorem e21 (code0_1 : Value) (h : Heap) (K : Value → Heap → Prop) : wpA Tryz.prog 41 (anOf [(31, [])]) (bodyOf Tryz.f21) 1 (fun A h => resA Tryz.prog A h K [.cell 2 26, .tmp 3, .cell 4 28, .tmp 5]) (fun _ _ _ => False) (fun A h => resA Tryz.prog A h K [.cell 2 26, .tmp 3, .cell 4 28, .tmp 5]) (aargs [code0_1] 0) h = t21 Tryz.prog code0_1 h K := by kernel_rfl
theorem c21 (code0_1 : Value) (h : Heap) (K : Value → Heap → Prop) (H : t21 Tryz.prog code0_1 h K) : callM Tryz.prog 21 #[code0_1] h K :=
  callM_of_wpA mixed (fn := Tryz.f21) Tryz.func21 (c := bodyOf Tryz.f21) rfl (of_decide_eq_true (by kernel_rfl)) (anOf [(31, [])]) 40 41 (by kernel_rfl) rfl [.cell 2 26, .tmp 3, .cell 4 28, .tmp 5] (by kernel_rfl) (args := [code0_1]) (by rw [e21]; exact H)
def t22 (P : Program) (g0_1 : Value) (sink1_1 : Value) (s2_1 : Value) (order3_1 : Value) (h : Heap) (K : Value → Heap → Prop) : Prop :=
  eop P (Instr.box 26 g0_1) h fun g4_1 h_1 =>
  eop P (Instr.box 28 s2_1) h_1 fun s6_1 h_2 =>
  rop P (Instr.loadAt 26 g4_1) h_2 fun t10_1 =>
  callM P 68 #[t10_1] h_2 fun t11_1 h_3 =>
  pop P (Op.unary .not t11_1) fun t12_1 =>
  guardM (asG t12_1 false) false (fun k_1 => rop P (Instr.loadAt 26 g4_1) h_3 fun t14_1 =>
  k_1 t14_1 h_3) h_3 fun t14_2 h_4 =>
  guardM (asG t12_1 false) false (fun k_2 => k_2 order3_1 h_4) h_4 fun t15_1 h_5 =>
  guardM (asG t12_1 false) false (fun k_3 => callM P 69 #[t14_2, t15_1] h_5 fun t16_1 h_6 =>
  k_3 t16_1 h_6) h_5 fun t16_2 h_7 =>
  guardM (asG t12_1 false) false (fun k_4 => pop P (Op.unary .not t16_2) fun t17_1 =>
  k_4 t17_1 h_7) h_7 fun t17_2 h_8 =>
  pop P (pickS t12_1 (Value.bool true) t17_2) fun t18_1 =>
  condM t18_1
  (K (.tuple #[(Value.slice none 0 0), (Value.bool false)]) h_8)
  (rop P (Instr.loadAt 26 g4_1) h_8 fun t19_1 =>
  rop P (Instr.loadAt 28 s6_1) h_8 fun t21_1 =>
  callM P 13 #[t19_1, sink1_1, t21_1] h_8 fun t22_1 h_9 =>
  pop P (Instr.extract t22_1 0) fun t23_1 =>
  pop P (Instr.extract t22_1 1) fun t24_1 =>
  K (.tuple #[t23_1, t24_1]) h_9)
theorem e22 (g0_1 : Value) (sink1_1 : Value) (s2_1 : Value) (order3_1 : Value) (h : Heap) (K : Value → Heap → Prop) : wpA Tryz.prog 25 (anOf []) (bodyOf Tryz.f22) 1 (fun A h => resA Tryz.prog A h K [.tmp 8, .tmp 9]) (fun _ _ _ => False) (fun A h => resA Tryz.prog A h K [.tmp 8, .tmp 9]) (aargs [g0_1, sink1_1, s2_1, order3_1] 0) h = t22 Tryz.prog g0_1 sink1_1 s2_1 order3_1 h K := by kernel_rfl
theorem c22 (g0_1 : Value) (sink1_1 : Value) (s2_1 : Value) (order3_1 : Value) (h : Heap) (K : Value → Heap → Prop) (H : t22 Tryz.prog g0_1 sink1_1 s2_1 order3_1 h K) : callM Tryz.prog 22 #[g0_1, sink1_1, s2_1, order3_1] h K :=
  callM_of_wpA mixed (fn := Tryz.f22) Tryz.func22 (c := bodyOf Tryz.f22) rfl (of_decide_eq_true (by kernel_rfl)) (anOf []) 21 25 (by kernel_rfl) rfl [.tmp 8, .tmp 9] (by kernel_rfl) (args := [g0_1, sink1_1, s2_1, order3_1]) (by rw [e22]; exact H)
def t23 (P : Program) (g0_1 : Value) (sink1_1 : Value) (s2_1 : Value) (order3_1 : Value) (h : Heap) (K : Value → Heap → Prop) : Prop :=
  eop P (Instr.box 26 g0_1) h fun g4_1 h_1 =>
  eop P (Instr.box 28 s2_1) h_1 fun s6_1 h_2 =>
  rop P (Instr.loadAt 26 g4_1) h_2 fun t16_1 =>
  rop P (Instr.loadAt 28 s6_1) h_2 fun t18_1 =>
  callM P 55 #[t16_1, sink1_1, t18_1] h_2 fun t19_1 h_3 =>
  pop P (Op.unary .not t19_1) fun t20_1 =>
  guardM (asG t20_1 false) false (fun k_1 => k_1 order3_1 h_3) h_3 fun t22_1 h_4 =>
  guardM (asG t20_1 false) false (fun k_2 => pop P (Instr.fieldAt 26 g4_1 0) fun t23_1 =>
  k_2 t23_1 h_4) h_4 fun t23_2 h_5 =>
  guardM (asG t20_1 false) false (fun k_3 => rop P (Instr.loadAt 24 t23_2) h_5 fun t24_1 =>
  k_3 t24_1 h_5) h_5 fun t24_2 h_6 =>
  guardM (asG t20_1 false) false (fun k_4 => pop P (lenS 24 3 t24_2) fun t25_1 =>
  k_4 t25_1 h_6) h_6 fun t25_2 h_7 =>
  guardM (asG t20_1 false) false (fun k_5 => callM P 70 #[t22_1, t25_2] h_7 fun t26_1 h_8 =>
  k_5 t26_1 h_8) h_7 fun t26_2 h_9 =>
  guardM (asG t20_1 false) false (fun k_6 => pop P (Op.unary .not t26_2) fun t27_1 =>
  k_6 t27_1 h_9) h_9 fun t27_2 h_10 =>
  pop P (pickS t20_1 (Value.bool true) t27_2) fun t28_1 =>
  condM t28_1
  (K (.tuple #[(Value.slice none 0 0), (Value.bool false)]) h_10)
  (rop P (Instr.loadAt 26 g4_1) h_10 fun t30_1 =>
  rop P (Instr.loadAt 28 s6_1) h_10 fun t32_1 =>
  callM P 57 #[t30_1, sink1_1, t32_1, (Value.slice none 0 0)] h_10 fun t33_1 h_11 =>
  pop P (Instr.extract t33_1 0) fun t34_1 =>
  pop P (Instr.extract t33_1 1) fun t35_1 =>
  pop P (Instr.extract t33_1 2) fun t36_1 =>
  eop P (Instr.alloc 28 true (.tuple #[])) h_11 fun _10_1 h_12 =>
  uop P (Instr.storeAt 28 _10_1 t34_1) h_12 fun u_1 h_13 =>
  pop P (Op.unary .not t36_1) fun t38_1 =>
  condM t38_1
  (K (.tuple #[(Value.slice none 0 0), (Value.bool false)]) h_13)
  (rop P (Instr.loadAt 26 g4_1) h_13 fun t40_1 =>
  rop P (Instr.loadAt 28 s6_1) h_13 fun t42_1 =>
  callM P 71 #[t40_1, sink1_1, t42_1, order3_1] h_13 fun t44_1 h_14 =>
  pop P (Instr.extract t44_1 0) fun t45_1 =>
  pop P (Instr.extract t44_1 1) fun t46_1 =>
  pop P (Instr.extract t44_1 2) fun t47_1 =>
  K (.tuple #[t45_1, t47_1]) h_14))
theorem e23 (g0_1 : Value) (sink1_1 : Value) (s2_1 : Value) (order3_1 : Value) (h : Heap) (K : Value → Heap → Prop) : wpA Tryz.prog 50 (anOf []) (bodyOf Tryz.f23) 1 (fun A h => resA Tryz.prog A h K [.tmp 8, .tmp 9]) (fun _ _ _ => False) (fun A h => resA Tryz.prog A h K [.tmp 8, .tmp 9]) (aargs [g0_1, sink1_1, s2_1, order3_1] 0) h = t23 Tryz.prog g0_1 sink1_1 s2_1 order3_1 h K := by kernel_rfl
theorem c23 (g0_1 : Value) (sink1_1 : Value) (s2_1 : Value) (order3_1 : Value) (h : Heap) (K : Value → Heap → Prop) (H : t23 Tryz.prog g0_1 sink1_1 s2_1 order3_1 h K) : callM Tryz.prog 23 #[g0_1, sink1_1, s2_1, order3_1] h K :=
  callM_of_wpA mixed (fn := Tryz.f23) Tryz.func23 (c := bodyOf Tryz.f23) rfl (of_decide_eq_true (by kernel_rfl)) (anOf []) 46 50 (by kernel_rfl) rfl [.tmp 8, .tmp 9] (by kernel_rfl) (args := [g0_1, sink1_1, s2_1, order3_1]) (by rw [e23]; exact H)
def t24 (P : Program) (g0_1 : Value) (sink1_1 : Value) (s2_1 : Value) (order3_1 : Value) (h : Heap) (K : Value → Heap → Prop) : Prop :=
  eop P (Instr.box 26 g0_1) h fun g4_1 h_1 =>
  eop P (Instr.box 28 s2_1) h_1 fun s6_1 h_2 =>
  rop P (Instr.loadAt 26 g4_1) h_2 fun t12_1 =>
  callM P 68 #[t12_1] h_2 fun t13_1 h_3 =>
  pop P (Op.unary .not t13_1) fun t14_1 =>
  guardM (asG t14_1 false) false (fun k_1 => rop P (Instr.loadAt 26 g4_1) h_3 fun t16_1 =>
  k_1 t16_1 h_3) h_3 fun t16_2 h_4 =>
  guardM (asG t14_1 false) false (fun k_2 => k_2 order3_1 h_4) h_4 fun t17_1 h_5 =>
  guardM (asG t14_1 false) false (fun k_3 => callM P 69 #[t16_2, t17_1] h_5 fun t18_1 h_6 =>
  k_3 t18_1 h_6) h_5 fun t18_2 h_7 =>
  guardM (asG t14_1 false) false (fun k_4 => pop P (Op.unary .not t18_2) fun t19_1 =>
  k_4 t19_1 h_7) h_7 fun t19_2 h_8 =>
  pop P (pickS t14_1 (Value.bool true) t19_2) fun t20_1 =>
  condM t20_1
  (K (.tuple #[(Value.int IntKind.i64 0), (Value.bool false)]) h_8)
  (rop P (Instr.loadAt 26 g4_1) h_8 fun t22_1 =>
  rop P (Instr.loadAt 28 s6_1) h_8 fun t24_1 =>
  callM P 9 #[t22_1, sink1_1, t24_1] h_8 fun t25_1 h_9 =>
  pop P (Instr.extract t25_1 0) fun t26_1 =>
  pop P (Instr.extract t25_1 1) fun t27_1 =>
  pop P (Op.unary .not t27_1) fun t29_1 =>
  condM t29_1
  (K (.tuple #[(Value.int IntKind.i64 0), (Value.bool false)]) h_9)
  (pop P (Instr.fieldAt 26 g4_1 0) fun t32_1 =>
  rop P (Instr.loadAt 24 t32_1) h_9 fun t33_1 =>
  pop P (lenS 24 3 t33_1) fun t34_1 =>
  callM P 72 #[t26_1] h_9 fun t31_1 h_10 =>
  (∀ w : World, w.heap = h_10 → (Instr.loadAt 24 t32_1).run P w = .ok t33_1 w) ∧
  pop P (binA .add 3 t31_1 t34_1) fun t35_1 =>
  pop P (binA .sub 3 t35_1 (Value.int IntKind.i64 1)) fun t36_1 =>
  K (.tuple #[t36_1, (Value.bool true)]) h_10))
theorem e24 (g0_1 : Value) (sink1_1 : Value) (s2_1 : Value) (order3_1 : Value) (h : Heap) (K : Value → Heap → Prop) : wpA Tryz.prog 37 (anOf []) (bodyOf Tryz.f24) 1 (fun A h => resA Tryz.prog A h K [.tmp 8, .tmp 9]) (fun _ _ _ => False) (fun A h => resA Tryz.prog A h K [.tmp 8, .tmp 9]) (aargs [g0_1, sink1_1, s2_1, order3_1] 0) h = t24 Tryz.prog g0_1 sink1_1 s2_1 order3_1 h K := by kernel_rfl
theorem c24 (g0_1 : Value) (sink1_1 : Value) (s2_1 : Value) (order3_1 : Value) (h : Heap) (K : Value → Heap → Prop) (H : t24 Tryz.prog g0_1 sink1_1 s2_1 order3_1 h K) : callM Tryz.prog 24 #[g0_1, sink1_1, s2_1, order3_1] h K :=
  callM_of_wpA mixed (fn := Tryz.f24) Tryz.func24 (c := bodyOf Tryz.f24) rfl (of_decide_eq_true (by kernel_rfl)) (anOf []) 33 37 (by kernel_rfl) rfl [.tmp 8, .tmp 9] (by kernel_rfl) (args := [g0_1, sink1_1, s2_1, order3_1]) (by rw [e24]; exact H)
def t25 (P : Program) (g0_1 : Value) (sink1_1 : Value) (s2_1 : Value) (order3_1 : Value) (h : Heap) (K : Value → Heap → Prop) : Prop :=
  eop P (Instr.box 26 g0_1) h fun g4_1 h_1 =>
  eop P (Instr.box 28 s2_1) h_1 fun s6_1 h_2 =>
  rop P (Instr.loadAt 26 g4_1) h_2 fun t16_1 =>
  rop P (Instr.loadAt 28 s6_1) h_2 fun t18_1 =>
  callM P 55 #[t16_1, sink1_1, t18_1] h_2 fun t19_1 h_3 =>
  pop P (Op.unary .not t19_1) fun t20_1 =>
  guardM (asG t20_1 false) false (fun k_1 => k_1 order3_1 h_3) h_3 fun t22_1 h_4 =>
  guardM (asG t20_1 false) false (fun k_2 => pop P (Instr.fieldAt 26 g4_1 0) fun t23_1 =>
  k_2 t23_1 h_4) h_4 fun t23_2 h_5 =>
  guardM (asG t20_1 false) false (fun k_3 => rop P (Instr.loadAt 24 t23_2) h_5 fun t24_1 =>
  k_3 t24_1 h_5) h_5 fun t24_2 h_6 =>
  guardM (asG t20_1 false) false (fun k_4 => pop P (lenS 24 3 t24_2) fun t25_1 =>
  k_4 t25_1 h_6) h_6 fun t25_2 h_7 =>
  guardM (asG t20_1 false) false (fun k_5 => callM P 70 #[t22_1, t25_2] h_7 fun t26_1 h_8 =>
  k_5 t26_1 h_8) h_7 fun t26_2 h_9 =>
  guardM (asG t20_1 false) false (fun k_6 => pop P (Op.unary .not t26_2) fun t27_1 =>
  k_6 t27_1 h_9) h_9 fun t27_2 h_10 =>
  pop P (pickS t20_1 (Value.bool true) t27_2) fun t28_1 =>
  condM t28_1
  (K (.tuple #[(Value.int IntKind.i64 0), (Value.bool false)]) h_10)
  (rop P (Instr.loadAt 26 g4_1) h_10 fun t30_1 =>
  rop P (Instr.loadAt 28 s6_1) h_10 fun t32_1 =>
  callM P 57 #[t30_1, sink1_1, t32_1, (Value.slice none 0 0)] h_10 fun t33_1 h_11 =>
  pop P (Instr.extract t33_1 0) fun t34_1 =>
  pop P (Instr.extract t33_1 1) fun t35_1 =>
  pop P (Instr.extract t33_1 2) fun t36_1 =>
  eop P (Instr.alloc 28 true (.tuple #[])) h_11 fun _10_1 h_12 =>
  uop P (Instr.storeAt 28 _10_1 t34_1) h_12 fun u_1 h_13 =>
  pop P (Op.unary .not t36_1) fun t38_1 =>
  condM t38_1
  (K (.tuple #[(Value.int IntKind.i64 0), (Value.bool false)]) h_13)
  (rop P (Instr.loadAt 26 g4_1) h_13 fun t40_1 =>
  rop P (Instr.loadAt 28 s6_1) h_13 fun t42_1 =>
  callM P 71 #[t40_1, sink1_1, t42_1, order3_1] h_13 fun t44_1 h_14 =>
  pop P (Instr.extract t44_1 0) fun t45_1 =>
  pop P (Instr.extract t44_1 1) fun t46_1 =>
  pop P (Instr.extract t44_1 2) fun t47_1 =>
  pop P (Op.unary .not t47_1) fun t49_1 =>
  condM t49_1
  (K (.tuple #[(Value.int IntKind.i64 0), (Value.bool false)]) h_14)
  (K (.tuple #[t46_1, (Value.bool true)]) h_14)))
theorem e25 (g0_1 : Value) (sink1_1 : Value) (s2_1 : Value) (order3_1 : Value) (h : Heap) (K : Value → Heap → Prop) : wpA Tryz.prog 51 (anOf []) (bodyOf Tryz.f25) 1 (fun A h => resA Tryz.prog A h K [.tmp 8, .tmp 9]) (fun _ _ _ => False) (fun A h => resA Tryz.prog A h K [.tmp 8, .tmp 9]) (aargs [g0_1, sink1_1, s2_1, order3_1] 0) h = t25 Tryz.prog g0_1 sink1_1 s2_1 order3_1 h K := by kernel_rfl
theorem c25 (g0_1 : Value) (sink1_1 : Value) (s2_1 : Value) (order3_1 : Value) (h : Heap) (K : Value → Heap → Prop) (H : t25 Tryz.prog g0_1 sink1_1 s2_1 order3_1 h K) : callM Tryz.prog 25 #[g0_1, sink1_1, s2_1, order3_1] h K :=
  callM_of_wpA mixed (fn := Tryz.f25) Tryz.func25 (c := bodyOf Tryz.f25) rfl (of_decide_eq_true (by kernel_rfl)) (anOf []) 47 51 (by kernel_rfl) rfl [.tmp 8, .tmp 9] (by kernel_rfl) (args := [g0_1, sink1_1, s2_1, order3_1]) (by rw [e25]; exact H)
def t51 (P : Program) (c0_1 : Value) (h : Heap) (K : Value → Heap → Prop) : Prop :=
  eop P (Instr.alloc 26 true (.tuple #[])) h fun t2_1 h_1 =>
  eop P (Instr.alloc 28 true (.tuple #[])) h_1 fun t4_1 h_2 =>
  callM P 105 #[c0_1] h_2 fun t16_1 h_3 =>
  pop P (Instr.extract t16_1 0) fun t17_1 =>
  pop P (Instr.extract t16_1 1) fun t18_1 =>
  eop P (Instr.alloc 26 true (.tuple #[])) h_3 fun g5_1 h_4 =>
  uop P (Instr.storeAt 26 g5_1 t17_1) h_4 fun u_1 h_5 =>
  pop P (Instr.build 28 #[]) fun t19_1 =>
  eop P (Instr.alloc 28 true (.tuple #[])) h_5 fun s7_1 h_6 =>
  uop P (Instr.storeAt 28 s7_1 t19_1) h_6 fun u_2 h_7 =>
  rop P (Instr.loadAt 26 g5_1) h_7 fun t20_1 =>
  callM P 98 #[t20_1, t18_1] h_7 fun t22_1 h_8 =>
  pop P (Op.unary .not t22_1) fun t23_1 =>
  condM t23_1
  (rop P (Instr.loadAt 26 g5_1) h_8 fun t24_1 =>
  rop P (Instr.loadAt 28 s7_1) h_8 fun t26_1 =>
  uop P (Instr.storeAt 26 t2_1 t24_1) h_8 fun u_3 h_9 =>
  (∀ w : World, w.heap = h_9 → (Instr.loadAt 28 s7_1).run P w = .ok t26_1 w) ∧
  uop P (Instr.storeAt 28 t4_1 t26_1) h_9 fun u_4 h_10 =>
  rop P (Instr.loadAt 26 t2_1) h_10 fun r_1 =>
  rop P (Instr.loadAt 28 t4_1) h_10 fun r_2 =>
  K (.tuple #[r_1, t18_1, r_2]) h_10)
  (pop P (Instr.fieldAt 26 g5_1 0) fun t27_1 =>
  rop P (Instr.loadAt 24 t27_1) h_8 fun t28_1 =>
  pop P (lenS 24 3 t28_1) fun t29_1 =>
  ∃ (I_1 : List Value → Heap → Prop) (μ_1 : List Value → Heap → Nat), I_1 [(Value.int IntKind.i64 0)] h_8 ∧
  ∀ (junk_1 : Nat → Value) (t30_1 : Value) (h_11 : Heap), I_1 [t30_1] h_11 →
  pop P (binA .lss 3 t30_1 t29_1) fun t31_1 =>
  condM t31_1
  (pop P (Instr.indexAt 24 t28_1 t30_1) fun t33_1 =>
  rop P (Instr.loadAt 29 t33_1) h_11 fun t34_1 =>
  callM P 52 #[c0_1, (Value.int IntKind.i64 9)] h_11 fun t36_1 h_12 =>
  pop P (binA .add 3 (Value.int IntKind.i64 3) t36_1) fun t37_1 =>
  ∃ (I_2 : List Value → Heap → Prop) (μ_2 : List Value → Heap → Nat), I_2 [(Value.slice none 0 0), t37_1] h_12 ∧
  ∀ (junk_2 : Nat → Value) (list10_1 : Value) (k11_1 : Value) (h_13 : Heap), I_2 [list10_1, k11_1] h_13 →
  pop P (binA .gtr 3 k11_1 (Value.int IntKind.i64 0)) fun t39_1 =>
  guardM (asG t39_1 true) true (fun k_1 => k_1 t30_1 h_13) h_13 fun t41_1 h_14 =>
  guardM (asG t39_1 true) true (fun k_2 => k_2 t18_1 h_14) h_14 fun t42_1 h_15 =>
  guardM (asG t39_1 true) true (fun k_3 => pop P (binE .neq 3 (.tmp 41) (.tmp 42) t41_1 t42_1) fun t43_1 =>
  k_3 t43_1 h_15) h_15 fun t43_2 h_16 =>
  pop P (pickS t39_1 t43_2 (Value.bool false)) fun t44_1 =>
  guardM (asG t44_1 true) true (fun k_4 => k_4 t34_1 h_16) h_16 fun t46_1 h_17 =>
  guardM (asG t44_1 true) true (fun k_5 => pop P (lenS 29 3 t46_1) fun t47_1 =>
  k_5 t47_1 h_17) h_17 fun t47_2 h_18 =>
  guardM (asG t44_1 true) true (fun k_6 => pop P (binA .gtr 3 t47_2 (Value.int IntKind.i64 0)) fun t48_1 =>
  k_6 t48_1 h_18) h_18 fun t48_2 h_19 =>
  pop P (pickS t44_1 t48_2 (Value.bool false)) fun t49_1 =>
  condM t49_1
  (pop P (lenS 29 3 t34_1) fun t55_1 =>
  callM P 52 #[c0_1, t55_1] h_19 fun t56_1 h_20 =>
  eop P (Instr.buildSlice 29 1 #[(0, t56_1)]) h_20 fun t57_1 h_21 =>
  eop P (appS 29 29 29 list10_1 t57_1) h_21 fun t58_1 h_22 =>
  pop P (binA .sub 3 k11_1 (Value.int IntKind.i64 1)) fun t51_1 =>
  I_2 [t58_1, t51_1] h_22 ∧ μ_2 [t58_1, t51_1] h_22 < μ_2 [list10_1, k11_1] h_13)
  (pop P (Instr.fieldAt 28 s7_1 0) fun t59_1 =>
  rop P (Instr.loadAt 24 t59_1) h_19 fun t60_1 =>
  eop P (Instr.buildSlice 24 1 #[(0, list10_1)]) h_19 fun t62_1 h_23 =>
  eop P (appS 24 24 24 t60_1 t62_1) h_23 fun t63_1 h_24 =>
  pop P (Instr.fieldAt 28 s7_1 0) fun t64_1 =>
  uop P (Instr.storeAt 24 t64_1 t63_1) h_24 fun u_5 h_25 =>
  pop P (binA .add 3 t30_1 (Value.int IntKind.i64 1)) fun t65_1 =>
  I_1 [t65_1] h_25 ∧ μ_1 [t65_1] h_25 < μ_1 [t30_1] h_11))
  (∃ J_1 : List Value → Heap → Prop, (callM P 52 #[c0_1, (Value.int IntKind.i64 16)] h_11 fun t67_1 h_26 =>
  pop P (binE .eql 3 (.tmp 67) (.const (Value.int IntKind.i64 0)) t67_1 (Value.int IntKind.i64 0)) fun t69_1 =>
  condM t69_1
  (pop P (Instr.fieldAt 28 s7_1 0) fun t70_1 =>
  rop P (Instr.loadAt 24 t70_1) h_26 fun t71_1 =>
  eop P (Instr.buildSlice 29 1 #[(0, (Value.int IntKind.i64 0))]) h_26 fun t73_1 h_27 =>
  pop P (Instr.indexAt 24 t71_1 t18_1) fun t74_1 =>
  uop P (Instr.storeAt 29 t74_1 t73_1) h_27 fun u_6 h_28 =>
  J_1 [] h_28)
  (pop P (binE .eql 3 (.tmp 67) (.const (Value.int IntKind.i64 1)) t67_1 (Value.int IntKind.i64 1)) fun t76_1 =>
  condM t76_1
  (pop P (Instr.fieldAt 28 s7_1 0) fun t78_1 =>
  rop P (Instr.loadAt 24 t78_1) h_26 fun t79_1 =>
  pop P (lenS 24 3 t79_1) fun t80_1 =>
  callM P 52 #[c0_1, t80_1] h_26 fun t81_1 h_29 =>
  pop P (Instr.fieldAt 28 s7_1 0) fun t82_1 =>
  rop P (Instr.loadAt 24 t82_1) h_29 fun t83_1 =>
  pop P (Instr.fieldAt 28 s7_1 0) fun t85_1 =>
  rop P (Instr.loadAt 24 t85_1) h_29 fun t86_1 =>
  pop P (Instr.indexAt 24 t86_1 t81_1) fun t88_1 =>
  rop P (Instr.loadAt 29 t88_1) h_29 fun t89_1 =>
  eop P (Instr.buildSlice 29 3 #[(0, (Value.int IntKind.i64 (-1))), (1, (Value.int IntKind.i64 4)), (2, (Value.int IntKind.i64 5))]) h_29 fun t91_1 h_30 =>
  (∀ w : World, w.heap = h_30 → (Instr.loadAt 29 t88_1).run P w = .ok t89_1 w) ∧
  (∀ w : World, w.heap = h_30 → (Instr.loadAt 24 t85_1).run P w = .ok t86_1 w) ∧
  (∀ w : World, w.heap = h_30 → (Instr.loadAt 24 t82_1).run P w = .ok t83_1 w) ∧
  callM P 53 #[c0_1, t91_1] h_30 fun t92_1 h_31 =>
  (∀ w : World, w.heap = h_31 → (Instr.loadAt 29 t88_1).run P w = .ok t89_1 w) ∧
  (∀ w : World, w.heap = h_31 → (Instr.loadAt 24 t85_1).run P w = .ok t86_1 w) ∧
  (∀ w : World, w.heap = h_31 → (Instr.loadAt 24 t82_1).run P w = .ok t83_1 w) ∧
  eop P (Instr.buildSlice 29 1 #[(0, t92_1)]) h_31 fun t93_1 h_32 =>
  (∀ w : World, w.heap = h_32 → (Instr.loadAt 29 t88_1).run P w = .ok t89_1 w) ∧
  (∀ w : World, w.heap = h_32 → (Instr.loadAt 24 t85_1).run P w = .ok t86_1 w) ∧
  (∀ w : World, w.heap = h_32 → (Instr.loadAt 24 t82_1).run P w = .ok t83_1 w) ∧
  eop P (appS 29 29 29 t89_1 t93_1) h_32 fun t94_1 h_33 =>
  (∀ w : World, w.heap = h_33 → (Instr.loadAt 24 t85_1).run P w = .ok t86_1 w) ∧
  (∀ w : World, w.heap = h_33 → (Instr.loadAt 24 t82_1).run P w = .ok t83_1 w) ∧
  pop P (Instr.indexAt 24 t83_1 t81_1) fun t95_1 =>
  uop P (Instr.storeAt 29 t95_1 t94_1) h_33 fun u_7 h_34 =>
  J_1 [] h_34)
  (pop P (binE .eql 3 (.tmp 67) (.const (Value.int IntKind.i64 2)) t67_1 (Value.int IntKind.i64 2)) fun t97_1 =>
  condM t97_1
  (pop P (Instr.fieldAt 28 s7_1 0) fun t99_1 =>
  rop P (Instr.loadAt 24 t99_1) h_26 fun t100_1 =>
  pop P (lenS 24 3 t100_1) fun t101_1 =>
  callM P 52 #[c0_1, t101_1] h_26 fun t102_1 h_35 =>
  pop P (Instr.fieldAt 28 s7_1 0) fun t103_1 =>
  rop P (Instr.loadAt 24 t103_1) h_35 fun t104_1 =>
  callM P 52 #[c0_1, (Value.int IntKind.i64 2)] h_35 fun t107_1 h_36 =>
  (∀ w : World, w.heap = h_36 → (Instr.loadAt 24 t103_1).run P w = .ok t104_1 w) ∧
  pop P (binA .add 3 (Value.int IntKind.i64 12) t107_1) fun t108_1 =>
  eop P (Instr.makeSlice 29 t108_1 t108_1) h_36 fun t109_1 h_37 =>
  (∀ w : World, w.heap = h_37 → (Instr.loadAt 24 t103_1).run P w = .ok t104_1 w) ∧
  pop P (Instr.indexAt 24 t104_1 t102_1) fun t110_1 =>
  uop P (Instr.storeAt 29 t110_1 t109_1) h_37 fun u_8 h_38 =>
  J_1 [] h_38)
  (pop P (binE .eql 3 (.tmp 67) (.const (Value.int IntKind.i64 3)) t67_1 (Value.int IntKind.i64 3)) fun t112_1 =>
  condM t112_1
  (pop P (Instr.fieldAt 28 s7_1 0) fun t113_1 =>
  rop P (Instr.loadAt 24 t113_1) h_26 fun t114_1 =>
  pop P (Instr.sliceAt 24 t114_1 (some (Value.int IntKind.i64 1)) none none) fun t115_1 =>
  pop P (Instr.fieldAt 28 s7_1 0) fun t116_1 =>
  uop P (Instr.storeAt 24 t116_1 t115_1) h_26 fun u_9 h_39 =>
  J_1 [] h_39)
  (J_1 [] h_26))))) ∧
  ∀ (junk_3 : Nat → Value) (h_40 : Heap), J_1 [] h_40 →
  rop P (Instr.loadAt 26 g5_1) h_40 fun t117_1 =>
  rop P (Instr.loadAt 28 s7_1) h_40 fun t119_1 =>
  uop P (Instr.storeAt 26 t2_1 t117_1) h_40 fun u_10 h_41 =>
  (∀ w : World, w.heap = h_41 → (Instr.loadAt 28 s7_1).run P w = .ok t119_1 w) ∧
  uop P (Instr.storeAt 28 t4_1 t119_1) h_41 fun u_11 h_42 =>
  rop P (Instr.loadAt 26 t2_1) h_42 fun r_3 =>
  rop P (Instr.loadAt 28 t4_1) h_42 fun r_4 =>
  K (.tuple #[r_3, t18_1, r_4]) h_42))
theorem e51 (c0_1 : Value) (h : Heap) (K : Value → Heap → Prop) : wpA Tryz.prog 120 (anOf [(63, []), (250, [30]), (256410, [10, 11])]) (bodyOf Tryz.f51) 1 (fun A h => resA Tryz.prog A h K [.cell 2 26, .tmp 3, .cell 4 28]) (fun _ _ _ => False) (fun A h => resA Tryz.prog A h K [.cell 2 26, .tmp 3, .cell 4 28]) (aargs [c0_1] 0) h = t51 Tryz.prog c0_1 h K := by kernel_rfl
theorem c51 (c0_1 : Value) (h : Heap) (K : Value → Heap → Prop) (H : t51 Tryz.prog c0_1 h K) : callM Tryz.prog 51 #[c0_1] h K :=
  callM_of_wpA mixed (fn := Tryz.f51) Tryz.func51 (c := bodyOf Tryz.f51) rfl (of_decide_eq_true (by kernel_rfl)) (anOf [(63, []), (250, [30]), (256410, [10, 11])]) 119 120 (by kernel_rfl) rfl [.cell 2 26, .tmp 3, .cell 4 28] (by kernel_rfl) (args := [c0_1]) (by rw [e51]; exact H)
def t52 (P : Program) (c0_1 : Value) (n1_1 : Value) (h : Heap) (K : Value → Heap → Prop) : Prop :=
  pop P (binA .leq 3 n1_1 (Value.int IntKind.i64 1)) fun t7_1 =>
  condM t7_1
  (K (Value.int IntKind.i64 0) h)
  (callM P 106 #[c0_1] h fun t9_1 h_1 =>
  ∃ J_1 : List Value → Heap → Prop, (pop P (binA .gtr 3 n1_1 (Value.int IntKind.i64 200)) fun t11_1 =>
  condM t11_1
  (pop P (binA .mul 3 t9_1 (Value.int IntKind.i64 256)) fun t13_1 =>
  callM P 106 #[c0_1] h_1 fun t15_1 h_2 =>
  pop P (binA .add 3 t13_1 t15_1) fun t16_1 =>
  J_1 [t16_1] h_2)
  (J_1 [t9_1] h_1)) ∧
  ∀ (junk_1 : Nat → Value) (x5_1 : Value) (h_3 : Heap), J_1 [x5_1] h_3 →
  pop P (binA .rem 3 x5_1 n1_1) fun t19_1 =>
  K t19_1 h_3)
theorem e52 (c0_1 : Value) (n1_1 : Value) (h : Heap) (K : Value → Heap → Prop) : wpA Tryz.prog 20 (anOf [(15, [5])]) (bodyOf Tryz.f52) 1 (fun A h => resA Tryz.prog A h K [.tmp 4]) (fun _ _ _ => False) (fun A h => resA Tryz.prog A h K [.tmp 4]) (aargs [c0_1, n1_1] 0) h = t52 Tryz.prog c0_1 n1_1 h K := by kernel_rfl
theorem c52 (c0_1 : Value) (n1_1 : Value) (h : Heap) (K : Value → Heap → Prop) (H : t52 Tryz.prog c0_1 n1_1 h K) : callM Tryz.prog 52 #[c0_1, n1_1] h K :=
  callM_of_wpA mixed (fn := Tryz.f52) Tryz.func52 (c := bodyOf Tryz.f52) rfl (of_decide_eq_true (by kernel_rfl)) (anOf [(15, [5])]) 18 20 (by kernel_rfl) rfl [.tmp 4] (by kernel_rfl) (args := [c0_1, n1_1]) (by rw [e52]; exact H)
def t53 (P : Program) (c0_1 : Value) (list1_1 : Value) (h : Heap) (K : Value → Heap → Prop) : Prop :=
  pop P (lenS 29 3 list1_1) fun t8_1 =>
  callM P 52 #[c0_1, t8_1] h fun t9_1 h_1 =>
  pop P (Instr.indexAt 29 list1_1 t9_1) fun t10_1 =>
  rop P (Instr.loadAt 3 t10_1) h_1 fun t11_1 =>
  K t11_1 h_1
theorem e53 (c0_1 : Value) (list1_1 : Value) (h : Heap) (K : Value → Heap → Prop) : wpA Tryz.prog 12 (anOf []) (bodyOf Tryz.f53) 1 (fun A h => resA Tryz.prog A h K [.tmp 4]) (fun _ _ _ => False) (fun A h => resA Tryz.prog A h K [.tmp 4]) (aargs [c0_1, list1_1] 0) h = t53 Tryz.prog c0_1 list1_1 h K := by kernel_rfl
theorem c53 (c0_1 : Value) (list1_1 : Value) (h : Heap) (K : Value → Heap → Prop) (H : t53 Tryz.prog c0_1 list1_1 h K) : callM Tryz.prog 53 #[c0_1, list1_1] h K :=
  callM_of_wpA mixed (fn := Tryz.f53) Tryz.func53 (c := bodyOf Tryz.f53) rfl (of_decide_eq_true (by kernel_rfl)) (anOf []) 10 12 (by kernel_rfl) rfl [.tmp 4] (by kernel_rfl) (args := [c0_1, list1_1]) (by rw [e53]; exact H)
def t54 (P : Program) (g0_1 : Value) (sink1_1 : Value) (s2_1 : Value) (choices3_1 : Value) (h : Heap) (K : Value → Heap → Prop) : Prop :=
  eop P (Instr.box 26 g0_1) h fun g4_1 h_1 =>
  eop P (Instr.box 28 s2_1) h_1 fun s6_1 h_2 =>
  eop P (Instr.alloc 28 true (.tuple #[])) h_2 fun t8_1 h_3 =>
  rop P (Instr.loadAt 26 g4_1) h_3 fun t17_1 =>
  rop P (Instr.loadAt 28 s6_1) h_3 fun t19_1 =>
  callM P 64 #[t17_1, sink1_1, t19_1] h_3 fun t20_1 h_4 =>
  pop P (Op.unary .not t20_1) fun t21_1 =>
  guardM (asG t21_1 false) false (fun k_1 => k_1 choices3_1 h_4) h_4 fun t23_1 h_5 =>
  guardM (asG t21_1 false) false (fun k_2 => pop P (lenS 29 3 t23_1) fun t24_1 =>
  k_2 t24_1 h_5) h_5 fun t24_2 h_6 =>
  guardM (asG t21_1 false) false (fun k_3 => pop P (binA .gtr 3 t24_2 (Value.int IntKind.i64 100)) fun t25_1 =>
  k_3 t25_1 h_6) h_6 fun t25_2 h_7 =>
  pop P (pickS t21_1 (Value.bool true) t25_2) fun t26_1 =>
  guardM (asG t26_1 false) false (fun k_4 => k_4 choices3_1 h_7) h_7 fun t28_1 h_8 =>
  guardM (asG t26_1 false) false (fun k_5 => callM P 107 #[t28_1, (.func (.func 108) #[] #[])] h_8 fun t29_1 h_9 =>
  k_5 t29_1 h_9) h_8 fun t29_2 h_10 =>
  pop P (pickS t26_1 (Value.bool true) t29_2) fun t30_1 =>
  condM t30_1
  (pop P (Instr.build 28 #[]) fun t31_1 =>
  uop P (Instr.storeAt 28 t8_1 t31_1) h_10 fun u_1 h_11 =>
  rop P (Instr.loadAt 28 t8_1) h_11 fun r_1 =>
  K (.tuple #[r_1, (Value.int IntKind.i64 0), (Value.bool false)]) h_11)
  (rop P (Instr.loadAt 28 s6_1) h_10 fun t32_1 =>
  callM P 109 #[t32_1] h_10 fun t33_1 h_12 =>
  eop P (Instr.alloc 28 true (.tuple #[])) h_12 fun out11_1 h_13 =>
  uop P (Instr.storeAt 28 out11_1 t33_1) h_13 fun u_2 h_14 =>
  ∃ (I_1 : List Value → Heap → Prop) (μ_1 : List Value → Heap → Nat), I_1 [(Value.int IntKind.i64 0)] h_14 ∧
  ∀ (junk_1 : Nat → Value) (many12_1 : Value) (h_15 : Heap), I_1 [many12_1] h_15 →
  rop P (Instr.loadAt 28 out11_1) h_15 fun t34_1 =>
  rop P (Instr.loadAt 26 g4_1) h_15 fun t35_1 =>
  callM P 65 #[t34_1, t35_1] h_15 fun t36_1 h_16 =>
  pop P (lenS 24 3 t36_1) fun t38_1 =>
  pop P (binE .eql 3 (.tmp 38) (.const (Value.int IntKind.i64 0)) t38_1 (Value.int IntKind.i64 0)) fun t39_1 =>
  condM t39_1
  (rop P (Instr.loadAt 28 out11_1) h_16 fun t63_1 =>
  callM P 59 #[t63_1, sink1_1] h_16 fun t65_1 h_17 =>
  pop P (Instr.extract t65_1 0) fun t66_1 =>
  pop P (Instr.extract t65_1 1) fun t67_1 =>
  pop P (Op.unary .not t67_1) fun t69_1 =>
  condM t69_1
  (pop P (Instr.build 28 #[]) fun t70_1 =>
  uop P (Instr.storeAt 28 t8_1 t70_1) h_17 fun u_3 h_18 =>
  rop P (Instr.loadAt 28 t8_1) h_18 fun r_2 =>
  K (.tuple #[r_2, (Value.int IntKind.i64 0), (Value.bool false)]) h_18)
  (rop P (Instr.loadAt 28 out11_1) h_17 fun t71_1 =>
  callM P 109 #[t71_1] h_17 fun t72_1 h_19 =>
  uop P (Instr.storeAt 28 t8_1 t72_1) h_19 fun u_4 h_20 =>
  rop P (Instr.loadAt 28 t8_1) h_20 fun r_3 =>
  K (.tuple #[r_3, many12_1, (Value.bool true)]) h_20))
  (pop P (binE .eql 3 (.tmp 40) (.const (Value.int IntKind.i64 200)) many12_1 (Value.int IntKind.i64 200)) fun t41_1 =>
  condM t41_1
  (pop P (Instr.build 28 #[]) fun t42_1 =>
  uop P (Instr.storeAt 28 t8_1 t42_1) h_16 fun u_5 h_21 =>
  rop P (Instr.loadAt 28 t8_1) h_21 fun r_4 =>
  K (.tuple #[r_4, (Value.int IntKind.i64 0), (Value.bool false)]) h_21)
  (∃ J_1 : List Value → Heap → Prop, (pop P (lenS 29 3 choices3_1) fun t45_1 =>
  pop P (binA .lss 3 many12_1 t45_1) fun t46_1 =>
  condM t46_1
  (pop P (Instr.indexAt 29 choices3_1 many12_1) fun t49_1 =>
  rop P (Instr.loadAt 3 t49_1) h_16 fun t50_1 =>
  pop P (lenS 24 3 t36_1) fun t52_1 =>
  pop P (binA .rem 3 t50_1 t52_1) fun t53_1 =>
  J_1 [t53_1] h_16)
  (J_1 [(Value.int IntKind.i64 0)] h_16)) ∧
  ∀ (junk_2 : Nat → Value) (k14_1 : Value) (h_22 : Heap), J_1 [k14_1] h_22 →
  rop P (Instr.loadAt 28 out11_1) h_22 fun t54_1 =>
  pop P (Instr.indexAt 24 t36_1 k14_1) fun t57_1 =>
  rop P (Instr.loadAt 29 t57_1) h_22 fun t58_1 =>
  callM P 110 #[t54_1, t58_1] h_22 fun t59_1 h_23 =>
  pop P (binA .add 3 many12_1 (Value.int IntKind.i64 1)) fun t61_1 =>
  I_1 [t61_1] h_23 ∧ μ_1 [t61_1] h_23 < μ_1 [many12_1] h_15)))
theorem e54 (g0_1 : Value) (sink1_1 : Value) (s2_1 : Value) (choices3_1 : Value) (h : Heap) (K : Value → Heap → Prop) : wpA Tryz.prog 74 (anOf [(60, [12]), (3855, [14])]) (bodyOf Tryz.f54) 1 (fun A h => resA Tryz.prog A h K [.cell 8 28, .tmp 9, .tmp 10]) (fun _ _ _ => False) (fun A h => resA Tryz.prog A h K [.cell 8 28, .tmp 9, .tmp 10]) (aargs [g0_1, sink1_1, s2_1, choices3_1] 0) h = t54 Tryz.prog g0_1 sink1_1 s2_1 choices3_1 h K := by kernel_rfl
theorem c54 (g0_1 : Value) (sink1_1 : Value) (s2_1 : Value) (choices3_1 : Value) (h : Heap) (K : Value → Heap → Prop) (H : t54 Tryz.prog g0_1 sink1_1 s2_1 choices3_1 h K) : callM Tryz.prog 54 #[g0_1, sink1_1, s2_1, choices3_1] h K :=
  callM_of_wpA mixed (fn := Tryz.f54) Tryz.func54 (c := bodyOf Tryz.f54) rfl (of_decide_eq_true (by kernel_rfl)) (anOf [(60, [12]), (3855, [14])]) 70 74 (by kernel_rfl) rfl [.cell 8 28, .tmp 9, .tmp 10] (by kernel_rfl) (args := [g0_1, sink1_1, s2_1, choices3_1]) (by rw [e54]; exact H)
def t55 (P : Program) (g0_1 : Value) (sink1_1 : Value) (s2_1 : Value) (h : Heap) (K : Value → Heap → Prop) : Prop :=
  eop P (Instr.box 26 g0_1) h fun g3_1 h_1 =>
  eop P (Instr.box 28 s2_1) h_1 fun s5_1 h_2 =>
  rop P (Instr.loadAt 26 g3_1) h_2 fun t9_1 =>
  callM P 98 #[t9_1, sink1_1] h_2 fun t11_1 h_3 =>
  pop P (Op.unary .not t11_1) fun t12_1 =>
  guardM (asG t12_1 false) false (fun k_1 => pop P (Instr.fieldAt 28 s5_1 0) fun t14_1 =>
  k_1 t14_1 h_3) h_3 fun t14_2 h_4 =>
  guardM (asG t12_1 false) false (fun k_2 => rop P (Instr.loadAt 24 t14_2) h_4 fun t15_1 =>
  k_2 t15_1 h_4) h_4 fun t15_2 h_5 =>
  guardM (asG t12_1 false) false (fun k_3 => pop P (lenS 24 3 t15_2) fun t16_1 =>
  k_3 t16_1 h_5) h_5 fun t16_2 h_6 =>
  guardM (asG t12_1 false) false (fun k_4 => pop P (Instr.fieldAt 26 g3_1 0) fun t17_1 =>
  k_4 t17_1 h_6) h_6 fun t17_2 h_7 =>
  guardM (asG t12_1 false) false (fun k_5 => rop P (Instr.loadAt 24 t17_2) h_7 fun t18_1 =>
  k_5 t18_1 h_7) h_7 fun t18_2 h_8 =>
  guardM (asG t12_1 false) false (fun k_6 => pop P (lenS 24 3 t18_2) fun t19_1 =>
  k_6 t19_1 h_8) h_8 fun t19_2 h_9 =>
  guardM (asG t12_1 false) false (fun k_7 => pop P (binE .neq 3 (.tmp 16) (.tmp 19) t16_2 t19_2) fun t20_1 =>
  k_7 t20_1 h_9) h_9 fun t20_2 h_10 =>
  pop P (pickS t12_1 (Value.bool true) t20_2) fun t21_1 =>
  guardM (asG t21_1 false) false (fun k_8 => pop P (Instr.fieldAt 28 s5_1 0) fun t23_1 =>
  k_8 t23_1 h_10) h_10 fun t23_2 h_11 =>
  guardM (asG t21_1 false) false (fun k_9 => rop P (Instr.loadAt 24 t23_2) h_11 fun t24_1 =>
  k_9 t24_1 h_11) h_11 fun t24_2 h_12 =>
  guardM (asG t21_1 false) false (fun k_10 => k_10 sink1_1 h_12) h_12 fun t25_1 h_13 =>
  guardM (asG t21_1 false) false (fun k_11 => pop P (Instr.indexAt 24 t24_2 t25_1) fun t26_1 =>
  k_11 t26_1 h_13) h_13 fun t26_2 h_14 =>
  guardM (asG t21_1 false) false (fun k_12 => rop P (Instr.loadAt 29 t26_2) h_14 fun t27_1 =>
  k_12 t27_1 h_14) h_14 fun t27_2 h_15 =>
  guardM (asG t21_1 false) false (fun k_13 => pop P (lenS 29 3 t27_2) fun t28_1 =>
  k_13 t28_1 h_15) h_15 fun t28_2 h_16 =>
  guardM (asG t21_1 false) false (fun k_14 => pop P (binA .gtr 3 t28_2 (Value.int IntKind.i64 0)) fun t29_1 =>
  k_14 t29_1 h_16) h_16 fun t29_2 h_17 =>
  pop P (pickS t21_1 (Value.bool true) t29_2) fun t30_1 =>
  condM t30_1
  (K (Value.bool false) h_17)
  (pop P (Instr.fieldAt 28 s5_1 0) fun t31_1 =>
  rop P (Instr.loadAt 24 t31_1) h_17 fun t32_1 =>
  pop P (lenS 24 3 t32_1) fun t33_1 =>
  ∃ (I_1 : List Value → Heap → Prop) (μ_1 : List Value → Heap → Nat), I_1 [(Value.int IntKind.i64 0)] h_17 ∧
  ∀ (junk_1 : Nat → Value) (t34_1 : Value) (h_18 : Heap), I_1 [t34_1] h_18 →
  pop P (binA .lss 3 t34_1 t33_1) fun t35_1 =>
  condM t35_1
  (pop P (Instr.indexAt 24 t32_1 t34_1) fun t37_1 =>
  rop P (Instr.loadAt 29 t37_1) h_18 fun t38_1 =>
  pop P (lenS 29 3 t38_1) fun t40_1 =>
  pop P (binA .gtr 3 t40_1 (Value.int IntKind.i64 12)) fun t41_1 =>
  guardM (asG t41_1 false) false (fun k_15 => k_15 t38_1 h_18) h_18 fun t43_1 h_19 =>
  guardM (asG t41_1 false) false (fun k_16 => pop P (Instr.fieldAt 26 g3_1 0) fun t44_1 =>
  k_16 t44_1 h_19) h_19 fun t44_2 h_20 =>
  guardM (asG t41_1 false) false (fun k_17 => rop P (Instr.loadAt 24 t44_2) h_20 fun t45_1 =>
  k_17 t45_1 h_20) h_20 fun t45_2 h_21 =>
  guardM (asG t41_1 false) false (fun k_18 => k_18 t34_1 h_21) h_21 fun t46_1 h_22 =>
  guardM (asG t41_1 false) false (fun k_19 => pop P (Instr.indexAt 24 t45_2 t46_1) fun t47_1 =>
  k_19 t47_1 h_22) h_22 fun t47_2 h_23 =>
  guardM (asG t41_1 false) false (fun k_20 => rop P (Instr.loadAt 29 t47_2) h_23 fun t48_1 =>
  k_20 t48_1 h_23) h_23 fun t48_2 h_24 =>
  guardM (asG t41_1 false) false (fun k_21 => pop P (lenS 29 3 t48_2) fun t49_1 =>
  k_21 t49_1 h_24) h_24 fun t49_2 h_25 =>
  guardM (asG t41_1 false) false (fun k_22 => pop P (binA .sub 3 t49_2 (Value.int IntKind.i64 1)) fun t50_1 =>
  k_22 t50_1 h_25) h_25 fun t50_2 h_26 =>
  guardM (asG t41_1 false) false (fun k_23 => callM P 56 #[t43_1, (Value.int IntKind.i64 0), t50_2] h_26 fun t51_1 h_27 =>
  k_23 t51_1 h_27) h_26 fun t51_2 h_28 =>
  guardM (asG t41_1 false) false (fun k_24 => pop P (Op.unary .not t51_2) fun t52_1 =>
  k_24 t52_1 h_28) h_28 fun t52_2 h_29 =>
  pop P (pickS t41_1 (Value.bool true) t52_2) fun t53_1 =>
  condM t53_1
  (K (Value.bool false) h_29)
  (pop P (binA .add 3 t34_1 (Value.int IntKind.i64 1)) fun t54_1 =>
  I_1 [t54_1] h_29 ∧ μ_1 [t54_1] h_29 < μ_1 [t34_1] h_18))
  (K (Value.bool true) h_18))
theorem e55 (g0_1 : Value) (sink1_1 : Value) (s2_1 : Value) (h : Heap) (K : Value → Heap → Prop) : wpA Tryz.prog 55 (anOf [(58, [34])]) (bodyOf Tryz.f55) 1 (fun A h => resA Tryz.prog A h K [.tmp 6]) (fun _ _ _ => False) (fun A h => resA Tryz.prog A h K [.tmp 6]) (aargs [g0_1, sink1_1, s2_1] 0) h = t55 Tryz.prog g0_1 sink1_1 s2_1 h K := by kernel_rfl
theorem c55 (g0_1 : Value) (sink1_1 : Value) (s2_1 : Value) (h : Heap) (K : Value → Heap → Prop) (H : t55 Tryz.prog g0_1 sink1_1 s2_1 h K) : callM Tryz.prog 55 #[g0_1, sink1_1, s2_1] h K :=
  callM_of_wpA mixed (fn := Tryz.f55) Tryz.func55 (c := bodyOf Tryz.f55) rfl (of_decide_eq_true (by kernel_rfl)) (anOf [(58, [34])]) 52 55 (by kernel_rfl) rfl [.tmp 6] (by kernel_rfl) (args := [g0_1, sink1_1, s2_1]) (by rw [e55]; exact H)
def t56 (P : Program) (l0_1 : Value) (lo1_1 : Value) (hi2_1 : Value) (h : Heap) (K : Value → Heap → Prop) : Prop :=
  pop P (lenS 29 3 l0_1) fun t10_1 =>
  ∃ (I_1 : List Value → Heap → Prop) (μ_1 : List Value → Heap → Nat), I_1 [(Value.int IntKind.i64 0)] h ∧
  ∀ (junk_1 : Nat → Value) (t11_1 : Value) (h_1 : Heap), I_1 [t11_1] h_1 →
  pop P (binA .lss 3 t11_1 t10_1) fun t12_1 =>
  condM t12_1
  (pop P (Instr.indexAt 29 l0_1 t11_1) fun t13_1 =>
  rop P (Instr.loadAt 3 t13_1) h_1 fun t14_1 =>
  callM P 104 #[t14_1, lo1_1, hi2_1] h_1 fun t18_1 h_2 =>
  pop P (Op.unary .not t18_1) fun t19_1 =>
  condM t19_1
  (K (Value.bool false) h_2)
  (pop P (binA .add 3 t11_1 (Value.int IntKind.i64 1)) fun t20_1 =>
  I_1 [t20_1] h_2 ∧ μ_1 [t20_1] h_2 < μ_1 [t11_1] h_1))
  (K (Value.bool true) h_1)
theorem e56 (l0_1 : Value) (lo1_1 : Value) (hi2_1 : Value) (h : Heap) (K : Value → Heap → Prop) : wpA Tryz.prog 21 (anOf [(26, [11])]) (bodyOf Tryz.f56) 1 (fun A h => resA Tryz.prog A h K [.tmp 6]) (fun _ _ _ => False) (fun A h => resA Tryz.prog A h K [.tmp 6]) (aargs [l0_1, lo1_1, hi2_1] 0) h = t56 Tryz.prog l0_1 lo1_1 hi2_1 h K := by kernel_rfl
theorem c56 (l0_1 : Value) (lo1_1 : Value) (hi2_1 : Value) (h : Heap) (K : Value → Heap → Prop) (H : t56 Tryz.prog l0_1 lo1_1 hi2_1 h K) : callM Tryz.prog 56 #[l0_1, lo1_1, hi2_1] h K :=
  callM_of_wpA mixed (fn := Tryz.f56) Tryz.func56 (c := bodyOf Tryz.f56) rfl (of_decide_eq_true (by kernel_rfl)) (anOf [(26, [11])]) 18 21 (by kernel_rfl) rfl [.tmp 6] (by kernel_rfl) (args := [l0_1, lo1_1, hi2_1]) (by rw [e56]; exact H)
def t57 (P : Program) (g0_1 : Value) (sink1_1 : Value) (s2_1 : Value) (choices3_1 : Value) (h : Heap) (K : Value → Heap → Prop) : Prop :=
  eop P (Instr.box 26 g0_1) h fun g4_1 h_1 =>
  eop P (Instr.box 28 s2_1) h_1 fun s6_1 h_2 =>
  eop P (Instr.alloc 28 true (.tuple #[])) h_2 fun t8_1 h_3 =>
  ∃ (I_1 : List Value → Heap → Prop) (μ_1 : List Value → Heap → Nat), I_1 [(Value.int IntKind.i64 0)] h_3 ∧
  ∀ (junk_1 : Nat → Value) (n11_1 : Value) (h_4 : Heap), I_1 [n11_1] h_4 →
  pop P (binA .leq 3 n11_1 (Value.int IntKind.i64 200)) fun t17_1 =>
  condM t17_1
  (rop P (Instr.loadAt 26 g4_1) h_4 fun t20_1 =>
  rop P (Instr.loadAt 28 s6_1) h_4 fun t21_1 =>
  callM P 111 #[t20_1, t21_1] h_4 fun t22_1 h_5 =>
  pop P (lenS 24 3 t22_1) fun t24_1 =>
  pop P (binE .eql 3 (.tmp 24) (.const (Value.int IntKind.i64 0)) t24_1 (Value.int IntKind.i64 0)) fun t25_1 =>
  condM t25_1
  (rop P (Instr.loadAt 26 g4_1) h_5 fun t27_1 =>
  rop P (Instr.loadAt 28 s6_1) h_5 fun t29_1 =>
  callM P 60 #[t27_1, sink1_1, t29_1] h_5 fun t30_1 h_6 =>
  pop P (Instr.extract t30_1 0) fun t31_1 =>
  pop P (Instr.extract t30_1 1) fun t32_1 =>
  rop P (Instr.loadAt 28 s6_1) h_6 fun t33_1 =>
  uop P (Instr.storeAt 28 t8_1 t33_1) h_6 fun u_1 h_7 =>
  rop P (Instr.loadAt 28 t8_1) h_7 fun r_1 =>
  K (.tuple #[r_1, n11_1, t32_1]) h_7)
  (∃ J_1 : List Value → Heap → Prop, (pop P (lenS 29 3 choices3_1) fun t38_1 =>
  pop P (binA .lss 3 n11_1 t38_1) fun t39_1 =>
  condM t39_1
  (pop P (Instr.indexAt 29 choices3_1 n11_1) fun t42_1 =>
  rop P (Instr.loadAt 3 t42_1) h_5 fun t43_1 =>
  pop P (lenS 24 3 t22_1) fun t45_1 =>
  pop P (binA .rem 3 t43_1 t45_1) fun t46_1 =>
  J_1 [t46_1] h_5)
  (J_1 [(Value.int IntKind.i64 0)] h_5)) ∧
  ∀ (junk_2 : Nat → Value) (k15_1 : Value) (h_8 : Heap), J_1 [k15_1] h_8 →
  rop P (Instr.loadAt 28 s6_1) h_8 fun t47_1 =>
  pop P (Instr.indexAt 24 t22_1 k15_1) fun t50_1 =>
  rop P (Instr.loadAt 29 t50_1) h_8 fun t51_1 =>
  callM P 58 #[t47_1, t51_1] h_8 fun t52_1 h_9 =>
  uop P (Instr.storeAt 28 s6_1 t52_1) h_9 fun u_2 h_10 =>
  pop P (binA .add 3 n11_1 (Value.int IntKind.i64 1)) fun t19_1 =>
  I_1 [t19_1] h_10 ∧ μ_1 [t19_1] h_10 < μ_1 [n11_1] h_4))
  (rop P (Instr.loadAt 28 s6_1) h_4 fun t53_1 =>
  uop P (Instr.storeAt 28 t8_1 t53_1) h_4 fun u_3 h_11 =>
  rop P (Instr.loadAt 28 t8_1) h_11 fun r_2 =>
  K (.tuple #[r_2, (Value.int IntKind.i64 0), (Value.bool false)]) h_11)
theorem e57 (g0_1 : Value) (sink1_1 : Value) (s2_1 : Value) (choices3_1 : Value) (h : Heap) (K : Value → Heap → Prop) : wpA Tryz.prog 54 (anOf [(26, [11]), (3367, [15])]) (bodyOf Tryz.f57) 1 (fun A h => resA Tryz.prog A h K [.cell 8 28, .tmp 9, .tmp 10]) (fun _ _ _ => False) (fun A h => resA Tryz.prog A h K [.cell 8 28, .tmp 9, .tmp 10]) (aargs [g0_1, sink1_1, s2_1, choices3_1] 0) h = t57 Tryz.prog g0_1 sink1_1 s2_1 choices3_1 h K := by kernel_rfl
theorem c57 (g0_1 : Value) (sink1_1 : Value) (s2_1 : Value) (choices3_1 : Value) (h : Heap) (K : Value → Heap → Prop) (H : t57 Tryz.prog g0_1 sink1_1 s2_1 choices3_1 h K) : callM Tryz.prog 57 #[g0_1, sink1_1, s2_1, choices3_1] h K :=
  callM_of_wpA mixed (fn := Tryz.f57) Tryz.func57 (c := bodyOf Tryz.f57) rfl (of_decide_eq_true (by kernel_rfl)) (anOf [(26, [11]), (3367, [15])]) 50 54 (by kernel_rfl) rfl [.cell 8 28, .tmp 9, .tmp 10] (by kernel_rfl) (args := [g0_1, sink1_1, s2_1, choices3_1]) (by rw [e57]; exact H)
def t58 (P : Program) (s0_1 : Value) (cycle1_1 : Value) (h : Heap) (K : Value → Heap → Prop) : Prop :=
  eop P (Instr.box 28 s0_1) h fun s2_1 h_1 =>
  eop P (Instr.alloc 28 true (.tuple #[])) h_1 fun t4_1 h_2 =>
  pop P (Instr.build 28 #[]) fun t8_1 =>
  eop P (Instr.alloc 28 true (.tuple #[])) h_2 fun out5_1 h_3 =>
  uop P (Instr.storeAt 28 out5_1 t8_1) h_3 fun u_1 h_4 =>
  pop P (Instr.fieldAt 28 s2_1 0) fun t9_1 =>
  rop P (Instr.loadAt 24 t9_1) h_4 fun t10_1 =>
  pop P (lenS 24 3 t10_1) fun t11_1 =>
  ∃ (I_1 : List Value → Heap → Prop) (μ_1 : List Value → Heap → Nat), I_1 [(Value.int IntKind.i64 0)] h_4 ∧
  ∀ (junk_1 : Nat → Value) (t12_1 : Value) (h_5 : Heap), I_1 [t12_1] h_5 →
  pop P (binA .lss 3 t12_1 t11_1) fun t13_1 =>
  condM t13_1
  (pop P (Instr.indexAt 24 t10_1 t12_1) fun t15_1 =>
  rop P (Instr.loadAt 29 t15_1) h_5 fun t16_1 =>
  ∃ J_1 : List Value → Heap → Prop, (callM P 112 #[cycle1_1, t12_1] h_5 fun t19_1 h_6 =>
  condM t19_1
  (pop P (Instr.sliceAt 29 t16_1 (some (Value.int IntKind.i64 1)) none none) fun t21_1 =>
  J_1 [t21_1] h_6)
  (J_1 [t16_1] h_6)) ∧
  ∀ (junk_2 : Nat → Value) (list7_1 : Value) (h_7 : Heap), J_1 [list7_1] h_7 →
  pop P (Instr.fieldAt 28 out5_1 0) fun t22_1 =>
  rop P (Instr.loadAt 24 t22_1) h_7 fun t23_1 =>
  callM P 79 #[list7_1] h_7 fun t25_1 h_8 =>
  (∀ w : World, w.heap = h_8 → (Instr.loadAt 24 t22_1).run P w = .ok t23_1 w) ∧
  eop P (Instr.buildSlice 24 1 #[(0, t25_1)]) h_8 fun t26_1 h_9 =>
  (∀ w : World, w.heap = h_9 → (Instr.loadAt 24 t22_1).run P w = .ok t23_1 w) ∧
  eop P (appS 24 24 24 t23_1 t26_1) h_9 fun t27_1 h_10 =>
  pop P (Instr.fieldAt 28 out5_1 0) fun t28_1 =>
  uop P (Instr.storeAt 24 t28_1 t27_1) h_10 fun u_2 h_11 =>
  pop P (binA .add 3 t12_1 (Value.int IntKind.i64 1)) fun t29_1 =>
  I_1 [t29_1] h_11 ∧ μ_1 [t29_1] h_11 < μ_1 [t12_1] h_5)
  (rop P (Instr.loadAt 28 out5_1) h_5 fun t30_1 =>
  uop P (Instr.storeAt 28 t4_1 t30_1) h_5 fun u_3 h_12 =>
  rop P (Instr.loadAt 28 t4_1) h_12 fun r_1 =>
  K r_1 h_12)
theorem e58 (s0_1 : Value) (cycle1_1 : Value) (h : Heap) (K : Value → Heap → Prop) : wpA Tryz.prog 31 (anOf [(58, [12]), (3737, [7])]) (bodyOf Tryz.f58) 1 (fun A h => resA Tryz.prog A h K [.cell 4 28]) (fun _ _ _ => False) (fun A h => resA Tryz.prog A h K [.cell 4 28]) (aargs [s0_1, cycle1_1] 0) h = t58 Tryz.prog s0_1 cycle1_1 h K := by kernel_rfl
theorem c58 (s0_1 : Value) (cycle1_1 : Value) (h : Heap) (K : Value → Heap → Prop) (H : t58 Tryz.prog s0_1 cycle1_1 h K) : callM Tryz.prog 58 #[s0_1, cycle1_1] h K :=
  callM_of_wpA mixed (fn := Tryz.f58) Tryz.func58 (c := bodyOf Tryz.f58) rfl (of_decide_eq_true (by kernel_rfl)) (anOf [(58, [12]), (3737, [7])]) 29 31 (by kernel_rfl) rfl [.cell 4 28] (by kernel_rfl) (args := [s0_1, cycle1_1]) (by rw [e58]; exact H)
def t59 (P : Program) (s0_1 : Value) (sink1_1 : Value) (h : Heap) (K : Value → Heap → Prop) : Prop :=
  eop P (Instr.box 28 s0_1) h fun s2_1 h_1 =>
  eop P (Instr.buildSlice 29 0 #[]) h_1 fun t9_1 h_2 =>
  pop P (Instr.fieldAt 28 s2_1 0) fun t10_1 =>
  rop P (Instr.loadAt 24 t10_1) h_2 fun t11_1 =>
  pop P (lenS 24 3 t11_1) fun t12_1 =>
  ∃ (I_1 : List Value → Heap → Prop) (μ_1 : List Value → Heap → Nat), I_1 [t9_1, (Value.int IntKind.i64 0)] h_2 ∧
  ∀ (junk_1 : Nat → Value) (out6_1 : Value) (t13_1 : Value) (h_3 : Heap), I_1 [out6_1, t13_1] h_3 →
  pop P (binA .lss 3 t13_1 t12_1) fun t14_1 =>
  condM t14_1
  (pop P (Instr.indexAt 24 t11_1 t13_1) fun t16_1 =>
  rop P (Instr.loadAt 29 t16_1) h_3 fun t17_1 =>
  pop P (binE .eql 3 (.tmp 25) (.tmp 26) t13_1 sink1_1) fun t27_1 =>
  condM t27_1
  (eop P (Instr.buildSlice 29 1 #[(0, (Value.int IntKind.i64 0))]) h_3 fun t29_1 h_4 =>
  eop P (appS 29 29 29 out6_1 t29_1) h_4 fun t30_1 h_5 =>
  pop P (binA .add 3 t13_1 (Value.int IntKind.i64 1)) fun t35_1 =>
  I_1 [t30_1, t35_1] h_5 ∧ μ_1 [t30_1, t35_1] h_5 < μ_1 [out6_1, t13_1] h_3)
  (pop P (lenS 29 3 t17_1) fun t33_1 =>
  pop P (binE .eql 3 (.tmp 33) (.const (Value.int IntKind.i64 0)) t33_1 (Value.int IntKind.i64 0)) fun t34_1 =>
  condM t34_1
  (K (.tuple #[(Value.slice none 0 0), (Value.bool false)]) h_3)
  (pop P (Instr.indexAt 29 t17_1 (Value.int IntKind.i64 0)) fun t20_1 =>
  rop P (Instr.loadAt 3 t20_1) h_3 fun t21_1 =>
  eop P (Instr.buildSlice 29 1 #[(0, t21_1)]) h_3 fun t22_1 h_6 =>
  eop P (appS 29 29 29 out6_1 t22_1) h_6 fun t23_1 h_7 =>
  pop P (binA .add 3 t13_1 (Value.int IntKind.i64 1)) fun t35_2 =>
  I_1 [t23_1, t35_2] h_7 ∧ μ_1 [t23_1, t35_2] h_7 < μ_1 [out6_1, t13_1] h_3)))
  (K (.tuple #[out6_1, (Value.bool true)]) h_3)
theorem e59 (s0_1 : Value) (sink1_1 : Value) (h : Heap) (K : Value → Heap → Prop) : wpA Tryz.prog 37 (anOf [(58, [6, 13])]) (bodyOf Tryz.f59) 1 (fun A h => resA Tryz.prog A h K [.tmp 4, .tmp 5]) (fun _ _ _ => False) (fun A h => resA Tryz.prog A h K [.tmp 4, .tmp 5]) (aargs [s0_1, sink1_1] 0) h = t59 Tryz.prog s0_1 sink1_1 h K := by kernel_rfl
theorem c59 (s0_1 : Value) (sink1_1 : Value) (h : Heap) (K : Value → Heap → Prop) (H : t59 Tryz.prog s0_1 sink1_1 h K) : callM Tryz.prog 59 #[s0_1, sink1_1] h K :=
  callM_of_wpA mixed (fn := Tryz.f59) Tryz.func59 (c := bodyOf Tryz.f59) rfl (of_decide_eq_true (by kernel_rfl)) (anOf [(58, [6, 13])]) 35 37 (by kernel_rfl) rfl [.tmp 4, .tmp 5] (by kernel_rfl) (args := [s0_1, sink1_1]) (by rw [e59]; exact H)
def t60 (P : Program) (g0_1 : Value) (sink1_1 : Value) (s2_1 : Value) (h : Heap) (K : Value → Heap → Prop) : Prop :=
  eop P (Instr.box 26 g0_1) h fun g3_1 h_1 =>
  eop P (Instr.box 28 s2_1) h_1 fun s5_1 h_2 =>
  pop P (Instr.fieldAt 26 g3_1 0) fun t11_1 =>
  rop P (Instr.loadAt 24 t11_1) h_2 fun t12_1 =>
  pop P (lenS 24 3 t12_1) fun t13_1 =>
  eop P (Instr.makeSlice 29 t13_1 t13_1) h_2 fun t14_1 h_3 =>
  pop P (Instr.fieldAt 28 s5_1 0) fun t15_1 =>
  rop P (Instr.loadAt 24 t15_1) h_3 fun t16_1 =>
  pop P (lenS 24 3 t16_1) fun t17_1 =>
  ∃ (I_1 : List Value → Heap → Prop) (μ_1 : List Value → Heap → Nat), I_1 [(Value.int IntKind.i64 0)] h_3 ∧
  ∀ (junk_1 : Nat → Value) (t18_1 : Value) (h_4 : Heap), I_1 [t18_1] h_4 →
  pop P (binA .lss 3 t18_1 t17_1) fun t19_1 =>
  condM t19_1
  (pop P (Instr.indexAt 24 t16_1 t18_1) fun t21_1 =>
  rop P (Instr.loadAt 29 t21_1) h_4 fun t22_1 =>
  pop P (binE .eql 3 (.tmp 23) (.tmp 24) t18_1 sink1_1) fun t25_1 =>
  condM t25_1
  (pop P (binA .add 3 t18_1 (Value.int IntKind.i64 1)) fun t35_1 =>
  I_1 [t35_1] h_4 ∧ μ_1 [t35_1] h_4 < μ_1 [t18_1] h_4)
  (pop P (lenS 29 3 t22_1) fun t27_1 =>
  pop P (binE .eql 3 (.tmp 27) (.const (Value.int IntKind.i64 0)) t27_1 (Value.int IntKind.i64 0)) fun t28_1 =>
  condM t28_1
  (K (.tuple #[(Value.slice none 0 0), (Value.bool false)]) h_4)
  (pop P (Instr.indexAt 29 t22_1 (Value.int IntKind.i64 0)) fun t32_1 =>
  rop P (Instr.loadAt 3 t32_1) h_4 fun t33_1 =>
  pop P (Instr.indexAt 29 t14_1 t18_1) fun t34_1 =>
  uop P (Instr.storeAt 3 t34_1 t33_1) h_4 fun u_1 h_5 =>
  pop P (binA .add 3 t18_1 (Value.int IntKind.i64 1)) fun t35_2 =>
  I_1 [t35_2] h_5 ∧ μ_1 [t35_2] h_5 < μ_1 [t18_1] h_4)))
  (K (.tuple #[t14_1, (Value.bool true)]) h_4)
theorem e60 (g0_1 : Value) (sink1_1 : Value) (s2_1 : Value) (h : Heap) (K : Value → Heap → Prop) : wpA Tryz.prog 37 (anOf [(58, [18])]) (bodyOf Tryz.f60) 1 (fun A h => resA Tryz.prog A h K [.tmp 6, .tmp 7]) (fun _ _ _ => False) (fun A h => resA Tryz.prog A h K [.tmp 6, .tmp 7]) (aargs [g0_1, sink1_1, s2_1] 0) h = t60 Tryz.prog g0_1 sink1_1 s2_1 h K := by kernel_rfl
theorem c60 (g0_1 : Value) (sink1_1 : Value) (s2_1 : Value) (h : Heap) (K : Value → Heap → Prop) (H : t60 Tryz.prog g0_1 sink1_1 s2_1 h K) : callM Tryz.prog 60 #[g0_1, sink1_1, s2_1] h K :=
  callM_of_wpA mixed (fn := Tryz.f60) Tryz.func60 (c := bodyOf Tryz.f60) rfl (of_decide_eq_true (by kernel_rfl)) (anOf [(58, [18])]) 34 37 (by kernel_rfl) rfl [.tmp 6, .tmp 7] (by kernel_rfl) (args := [g0_1, sink1_1, s2_1]) (by rw [e60]; exact H)
def t61 (P : Program) (a0_1 : Value) (b1_1 : Value) (h : Heap) (K : Value → Heap → Prop) : Prop :=
  pop P (lenS 24 3 a0_1) fun t7_1 =>
  pop P (lenS 24 3 b1_1) fun t9_1 =>
  pop P (binE .neq 3 (.tmp 7) (.tmp 9) t7_1 t9_1) fun t10_1 =>
  condM t10_1
  (K (Value.bool false) h)
  (pop P (lenS 24 3 a0_1) fun t12_1 =>
  ∃ (I_1 : List Value → Heap → Prop) (μ_1 : List Value → Heap → Nat), I_1 [(Value.int IntKind.i64 0)] h ∧
  ∀ (junk_1 : Nat → Value) (t13_1 : Value) (h_1 : Heap), I_1 [t13_1] h_1 →
  pop P (binA .lss 3 t13_1 t12_1) fun t14_1 =>
  condM t14_1
  (pop P (Instr.indexAt 24 a0_1 t13_1) fun t18_1 =>
  rop P (Instr.loadAt 29 t18_1) h_1 fun t19_1 =>
  pop P (Instr.indexAt 24 b1_1 t13_1) fun t22_1 =>
  rop P (Instr.loadAt 29 t22_1) h_1 fun t23_1 =>
  callM P 16 #[t19_1, t23_1] h_1 fun t24_1 h_2 =>
  pop P (Op.unary .not t24_1) fun t25_1 =>
  condM t25_1
  (K (Value.bool false) h_2)
  (pop P (binA .add 3 t13_1 (Value.int IntKind.i64 1)) fun t26_1 =>
  I_1 [t26_1] h_2 ∧ μ_1 [t26_1] h_2 < μ_1 [t13_1] h_1))
  (K (Value.bool true) h_1))
theorem e61 (a0_1 : Value) (b1_1 : Value) (h : Heap) (K : Value → Heap → Prop) : wpA Tryz.prog 27 (anOf [(58, [13])]) (bodyOf Tryz.f61) 1 (fun A h => resA Tryz.prog A h K [.tmp 4]) (fun _ _ _ => False) (fun A h => resA Tryz.prog A h K [.tmp 4]) (aargs [a0_1, b1_1] 0) h = t61 Tryz.prog a0_1 b1_1 h K := by kernel_rfl
theorem c61 (a0_1 : Value) (b1_1 : Value) (h : Heap) (K : Value → Heap → Prop) (H : t61 Tryz.prog a0_1 b1_1 h K) : callM Tryz.prog 61 #[a0_1, b1_1] h K :=
  callM_of_wpA mixed (fn := Tryz.f61) Tryz.func61 (c := bodyOf Tryz.f61) rfl (of_decide_eq_true (by kernel_rfl)) (anOf [(58, [13])]) 25 27 (by kernel_rfl) rfl [.tmp 4] (by kernel_rfl) (args := [a0_1, b1_1]) (by rw [e61]; exact H)
def t62 (P : Program) (g0_1 : Value) (sink1_1 : Value) (rotors2_1 : Value) (h : Heap) (K : Value → Heap → Prop) : Prop :=
  eop P (Instr.box 26 g0_1) h fun g3_1 h_1 =>
  rop P (Instr.loadAt 26 g3_1) h_1 fun t7_1 =>
  eop P (Instr.buildSlice 29 1 #[(0, sink1_1)]) h_1 fun t9_1 h_2 =>
  callM P 94 #[t7_1, t9_1] h_2 fun t10_1 h_3 =>
  guardM (asG t10_1 true) true (fun k_1 => rop P (Instr.loadAt 26 g3_1) h_3 fun t12_1 =>
  k_1 t12_1 h_3) h_3 fun t12_2 h_4 =>
  guardM (asG t10_1 true) true (fun k_2 => k_2 rotors2_1 h_4) h_4 fun t13_1 h_5 =>
  guardM (asG t10_1 true) true (fun k_3 => callM P 113 #[t12_2, t13_1] h_5 fun t14_1 h_6 =>
  k_3 t14_1 h_6) h_5 fun t14_2 h_7 =>
  pop P (pickS t10_1 t14_2 (Value.bool false)) fun t15_1 =>
  guardM (asG t15_1 true) true (fun k_4 => k_4 rotors2_1 h_7) h_7 fun t17_1 h_8 =>
  guardM (asG t15_1 true) true (fun k_5 => k_5 sink1_1 h_8) h_8 fun t18_1 h_9 =>
  guardM (asG t15_1 true) true (fun k_6 => pop P (Instr.indexAt 29 t17_1 t18_1) fun t19_1 =>
  k_6 t19_1 h_9) h_9 fun t19_2 h_10 =>
  guardM (asG t15_1 true) true (fun k_7 => rop P (Instr.loadAt 3 t19_2) h_10 fun t20_1 =>
  k_7 t20_1 h_10) h_10 fun t20_2 h_11 =>
  guardM (asG t15_1 true) true (fun k_8 => pop P (binE .eql 3 (.tmp 20) (.const (Value.int IntKind.i64 0)) t20_2 (Value.int IntKind.i64 0)) fun t21_1 =>
  k_8 t21_1 h_11) h_11 fun t21_2 h_12 =>
  pop P (pickS t15_1 t21_2 (Value.bool false)) fun t22_1 =>
  K t22_1 h_12
theorem e62 (g0_1 : Value) (sink1_1 : Value) (rotors2_1 : Value) (h : Heap) (K : Value → Heap → Prop) : wpA Tryz.prog 23 (anOf []) (bodyOf Tryz.f62) 1 (fun A h => resA Tryz.prog A h K [.tmp 6]) (fun _ _ _ => False) (fun A h => resA Tryz.prog A h K [.tmp 6]) (aargs [g0_1, sink1_1, rotors2_1] 0) h = t62 Tryz.prog g0_1 sink1_1 rotors2_1 h K := by kernel_rfl
theorem c62 (g0_1 : Value) (sink1_1 : Value) (rotors2_1 : Value) (h : Heap) (K : Value → Heap → Prop) (H : t62 Tryz.prog g0_1 sink1_1 rotors2_1 h K) : callM Tryz.prog 62 #[g0_1, sink1_1, rotors2_1] h K :=
  callM_of_wpA mixed (fn := Tryz.f62) Tryz.func62 (c := bodyOf Tryz.f62) rfl (of_decide_eq_true (by kernel_rfl)) (anOf []) 20 23 (by kernel_rfl) rfl [.tmp 6] (by kernel_rfl) (args := [g0_1, sink1_1, rotors2_1]) (by rw [e62]; exact H)
def t63 (P : Program) (g0_1 : Value) (sink1_1 : Value) (rotors2_1 : Value) (h : Heap) (K : Value → Heap → Prop) : Prop :=
  eop P (Instr.box 26 g0_1) h fun g3_1 h_1 =>
  rop P (Instr.loadAt 26 g3_1) h_1 fun t10_1 =>
  callM P 114 #[t10_1, sink1_1, rotors2_1] h_1 fun t13_1 h_2 =>
  pop P (Instr.extract t13_1 0) fun t14_1 =>
  pop P (Instr.extract t13_1 1) fun t15_1 =>
  K t15_1 h_2
theorem e63 (g0_1 : Value) (sink1_1 : Value) (rotors2_1 : Value) (h : Heap) (K : Value → Heap → Prop) : wpA Tryz.prog 17 (anOf []) (bodyOf Tryz.f63) 1 (fun A h => resA Tryz.prog A h K [.tmp 6]) (fun _ _ _ => False) (fun A h => resA Tryz.prog A h K [.tmp 6]) (aargs [g0_1, sink1_1, rotors2_1] 0) h = t63 Tryz.prog g0_1 sink1_1 rotors2_1 h K := by kernel_rfl
theorem c63 (g0_1 : Value) (sink1_1 : Value) (rotors2_1 : Value) (h : Heap) (K : Value → Heap → Prop) (H : t63 Tryz.prog g0_1 sink1_1 rotors2_1 h K) : callM Tryz.prog 63 #[g0_1, sink1_1, rotors2_1] h K :=
  callM_of_wpA mixed (fn := Tryz.f63) Tryz.func63 (c := bodyOf Tryz.f63) rfl (of_decide_eq_true (by kernel_rfl)) (anOf []) 14 17 (by kernel_rfl) rfl [.tmp 6] (by kernel_rfl) (args := [g0_1, sink1_1, rotors2_1]) (by rw [e63]; exact H)
def t64 (P : Program) (g0_1 : Value) (sink1_1 : Value) (s2_1 : Value) (h : Heap) (K : Value → Heap → Prop) : Prop :=
  eop P (Instr.box 26 g0_1) h fun g3_1 h_1 =>
  eop P (Instr.box 28 s2_1) h_1 fun s5_1 h_2 =>
  rop P (Instr.loadAt 26 g3_1) h_2 fun t9_1 =>
  eop P (Instr.buildSlice 29 1 #[(0, sink1_1)]) h_2 fun t11_1 h_3 =>
  callM P 94 #[t9_1, t11_1] h_3 fun t12_1 h_4 =>
  pop P (Op.unary .not t12_1) fun t13_1 =>
  guardM (asG t13_1 false) false (fun k_1 => pop P (Instr.fieldAt 28 s5_1 0) fun t15_1 =>
  k_1 t15_1 h_4) h_4 fun t15_2 h_5 =>
  guardM (asG t13_1 false) false (fun k_2 => rop P (Instr.loadAt 24 t15_2) h_5 fun t16_1 =>
  k_2 t16_1 h_5) h_5 fun t16_2 h_6 =>
  guardM (asG t13_1 false) false (fun k_3 => pop P (lenS 24 3 t16_2) fun t17_1 =>
  k_3 t17_1 h_6) h_6 fun t17_2 h_7 =>
  guardM (asG t13_1 false) false (fun k_4 => pop P (Instr.fieldAt 26 g3_1 0) fun t18_1 =>
  k_4 t18_1 h_7) h_7 fun t18_2 h_8 =>
  guardM (asG t13_1 false) false (fun k_5 => rop P (Instr.loadAt 24 t18_2) h_8 fun t19_1 =>
  k_5 t19_1 h_8) h_8 fun t19_2 h_9 =>
  guardM (asG t13_1 false) false (fun k_6 => pop P (lenS 24 3 t19_2) fun t20_1 =>
  k_6 t20_1 h_9) h_9 fun t20_2 h_10 =>
  guardM (asG t13_1 false) false (fun k_7 => pop P (binE .neq 3 (.tmp 17) (.tmp 20) t17_2 t20_2) fun t21_1 =>
  k_7 t21_1 h_10) h_10 fun t21_2 h_11 =>
  pop P (pickS t13_1 (Value.bool true) t21_2) fun t22_1 =>
  guardM (asG t22_1 false) false (fun k_8 => pop P (Instr.fieldAt 28 s5_1 0) fun t24_1 =>
  k_8 t24_1 h_11) h_11 fun t24_2 h_12 =>
  guardM (asG t22_1 false) false (fun k_9 => rop P (Instr.loadAt 24 t24_2) h_12 fun t25_1 =>
  k_9 t25_1 h_12) h_12 fun t25_2 h_13 =>
  guardM (asG t22_1 false) false (fun k_10 => k_10 sink1_1 h_13) h_13 fun t26_1 h_14 =>
  guardM (asG t22_1 false) false (fun k_11 => pop P (Instr.indexAt 24 t25_2 t26_1) fun t27_1 =>
  k_11 t27_1 h_14) h_14 fun t27_2 h_15 =>
  guardM (asG t22_1 false) false (fun k_12 => rop P (Instr.loadAt 29 t27_2) h_15 fun t28_1 =>
  k_12 t28_1 h_15) h_15 fun t28_2 h_16 =>
  guardM (asG t22_1 false) false (fun k_13 => pop P (lenS 29 3 t28_2) fun t29_1 =>
  k_13 t29_1 h_16) h_16 fun t29_2 h_17 =>
  guardM (asG t22_1 false) false (fun k_14 => pop P (binE .neq 3 (.tmp 29) (.const (Value.int IntKind.i64 0)) t29_2 (Value.int IntKind.i64 0)) fun t30_1 =>
  k_14 t30_1 h_17) h_17 fun t30_2 h_18 =>
  pop P (pickS t22_1 (Value.bool true) t30_2) fun t31_1 =>
  condM t31_1
  (K (Value.bool false) h_18)
  (pop P (Instr.fieldAt 28 s5_1 0) fun t32_1 =>
  rop P (Instr.loadAt 24 t32_1) h_18 fun t33_1 =>
  pop P (lenS 24 3 t33_1) fun t34_1 =>
  ∃ (I_1 : List Value → Heap → Prop) (μ_1 : List Value → Heap → Nat), I_1 [(Value.int IntKind.i64 0)] h_18 ∧
  ∀ (junk_1 : Nat → Value) (t35_1 : Value) (h_19 : Heap), I_1 [t35_1] h_19 →
  pop P (binA .lss 3 t35_1 t34_1) fun t36_1 =>
  condM t36_1
  (pop P (Instr.indexAt 24 t33_1 t35_1) fun t38_1 =>
  rop P (Instr.loadAt 29 t38_1) h_19 fun t39_1 =>
  eop P (Instr.alloc 3 true (.tuple #[])) h_19 fun p7_1 h_20 =>
  uop P (Instr.storeAt 3 p7_1 t35_1) h_20 fun u_1 h_21 =>
  pop P (lenS 29 3 t39_1) fun t41_1 =>
  pop P (binA .gtr 3 t41_1 (Value.int IntKind.i64 12)) fun t42_1 =>
  guardM (asG t42_1 false) false (fun k_15 => k_15 t39_1 h_21) h_21 fun t44_1 h_22 =>
  guardM (asG t42_1 false) false (fun k_16 => pop P (Instr.makeFunc (Fn.func 115) #[] #[g3_1, p7_1]) fun t45_1 =>
  k_16 t45_1 h_22) h_22 fun t45_2 h_23 =>
  guardM (asG t42_1 false) false (fun k_17 => callM P 107 #[t44_1, t45_2] h_23 fun t46_1 h_24 =>
  k_17 t46_1 h_24) h_23 fun t46_2 h_25 =>
  pop P (pickS t42_1 (Value.bool true) t46_2) fun t47_1 =>
  condM t47_1
  (K (Value.bool false) h_25)
  (pop P (binA .add 3 t35_1 (Value.int IntKind.i64 1)) fun t48_1 =>
  I_1 [t48_1] h_25 ∧ μ_1 [t48_1] h_25 < μ_1 [t35_1] h_19))
  (K (Value.bool true) h_19))
theorem e64 (g0_1 : Value) (sink1_1 : Value) (s2_1 : Value) (h : Heap) (K : Value → Heap → Prop) : wpA Tryz.prog 49 (anOf [(58, [35])]) (bodyOf Tryz.f64) 1 (fun A h => resA Tryz.prog A h K [.tmp 6]) (fun _ _ _ => False) (fun A h => resA Tryz.prog A h K [.tmp 6]) (aargs [g0_1, sink1_1, s2_1] 0) h = t64 Tryz.prog g0_1 sink1_1 s2_1 h K := by kernel_rfl
theorem c64 (g0_1 : Value) (sink1_1 : Value) (s2_1 : Value) (h : Heap) (K : Value → Heap → Prop) (H : t64 Tryz.prog g0_1 sink1_1 s2_1 h K) : callM Tryz.prog 64 #[g0_1, sink1_1, s2_1] h K :=
  callM_of_wpA mixed (fn := Tryz.f64) Tryz.func64 (c := bodyOf Tryz.f64) rfl (of_decide_eq_true (by kernel_rfl)) (anOf [(58, [35])]) 46 49 (by kernel_rfl) rfl [.tmp 6] (by kernel_rfl) (args := [g0_1, sink1_1, s2_1]) (by rw [e64]; exact H)
def t65 (P : Program) (s0_1 : Value) (g1_1 : Value) (h : Heap) (K : Value → Heap → Prop) : Prop :=
  eop P (Instr.box 28 s0_1) h fun s2_1 h_1 =>
  eop P (Instr.box 26 g1_1) h_1 fun g3_1 h_2 =>
  eop P (Instr.buildSlice 24 0 #[]) h_2 fun t8_1 h_3 =>
  pop P (Instr.fieldAt 26 g3_1 0) fun t9_1 =>
  rop P (Instr.loadAt 24 t9_1) h_3 fun t10_1 =>
  pop P (lenS 24 3 t10_1) fun t11_1 =>
  ∃ (I_1 : List Value → Heap → Prop) (μ_1 : List Value → Heap → Nat), I_1 [t8_1, (Value.int IntKind.i64 0)] h_3 ∧
  ∀ (junk_1 : Nat → Value) (out5_1 : Value) (t12_1 : Value) (h_4 : Heap), I_1 [out5_1, t12_1] h_4 →
  pop P (binA .lss 3 t12_1 t11_1) fun t13_1 =>
  condM t13_1
  (rop P (Instr.loadAt 28 s2_1) h_4 fun t15_1 =>
  rop P (Instr.loadAt 26 g3_1) h_4 fun t16_1 =>
  callM P 116 #[t15_1, t16_1, t12_1] h_4 fun t18_1 h_5 =>
  pop P (binE .neq 29 (.tmp 19) (.const (Value.slice none 0 0)) t18_1 (Value.slice none 0 0)) fun t20_1 =>
  guardM (asG t20_1 true) true (fun k_1 => k_1 t18_1 h_5) h_5 fun t22_1 h_6 =>
  guardM (asG t20_1 true) true (fun k_2 => pop P (Instr.indexAt 29 t22_1 (Value.int IntKind.i64 0)) fun t23_1 =>
  k_2 t23_1 h_6) h_6 fun t23_2 h_7 =>
  guardM (asG t20_1 true) true (fun k_3 => rop P (Instr.loadAt 3 t23_2) h_7 fun t24_1 =>
  k_3 t24_1 h_7) h_7 fun t24_2 h_8 =>
  guardM (asG t20_1 true) true (fun k_4 => k_4 t12_1 h_8) h_8 fun t25_1 h_9 =>
  guardM (asG t20_1 true) true (fun k_5 => pop P (binE .eql 3 (.tmp 24) (.tmp 25) t24_2 t25_1) fun t26_1 =>
  k_5 t26_1 h_9) h_9 fun t26_2 h_10 =>
  pop P (pickS t20_1 t26_2 (Value.bool false)) fun t27_1 =>
  condM t27_1
  (eop P (Instr.buildSlice 24 1 #[(0, t18_1)]) h_10 fun t30_1 h_11 =>
  eop P (appS 24 24 24 out5_1 t30_1) h_11 fun t31_1 h_12 =>
  pop P (binA .add 3 t12_1 (Value.int IntKind.i64 1)) fun t32_1 =>
  I_1 [t31_1, t32_1] h_12 ∧ μ_1 [t31_1, t32_1] h_12 < μ_1 [out5_1, t12_1] h_4)
  (pop P (binA .add 3 t12_1 (Value.int IntKind.i64 1)) fun t32_2 =>
  I_1 [out5_1, t32_2] h_10 ∧ μ_1 [out5_1, t32_2] h_10 < μ_1 [out5_1, t12_1] h_4))
  (K out5_1 h_4)
theorem e65 (s0_1 : Value) (g1_1 : Value) (h : Heap) (K : Value → Heap → Prop) : wpA Tryz.prog 34 (anOf [(58, [5, 12])]) (bodyOf Tryz.f65) 1 (fun A h => resA Tryz.prog A h K [.tmp 4]) (fun _ _ _ => False) (fun A h => resA Tryz.prog A h K [.tmp 4]) (aargs [s0_1, g1_1] 0) h = t65 Tryz.prog s0_1 g1_1 h K := by kernel_rfl
theorem c65 (s0_1 : Value) (g1_1 : Value) (h : Heap) (K : Value → Heap → Prop) (H : t65 Tryz.prog s0_1 g1_1 h K) : callM Tryz.prog 65 #[s0_1, g1_1] h K :=
  callM_of_wpA mixed (fn := Tryz.f65) Tryz.func65 (c := bodyOf Tryz.f65) rfl (of_decide_eq_true (by kernel_rfl)) (anOf [(58, [5, 12])]) 32 34 (by kernel_rfl) rfl [.tmp 4] (by kernel_rfl) (args := [s0_1, g1_1]) (by rw [e65]; exact H)
def t66 (P : Program) (c0_1 : Value) (n1_1 : Value) (h : Heap) (K : Value → Heap → Prop) : Prop :=
  ∃ (I_1 : List Value → Heap → Prop) (μ_1 : List Value → Heap → Nat), I_1 [(Value.slice none 0 0), (Value.int IntKind.i64 0)] h ∧
  ∀ (junk_1 : Nat → Value) (out5_1 : Value) (p6_1 : Value) (h_1 : Heap), I_1 [out5_1, p6_1] h_1 →
  pop P (binA .lss 3 p6_1 n1_1) fun t12_1 =>
  condM t12_1
  (eop P (Instr.buildSlice 29 1 #[(0, p6_1)]) h_1 fun t17_1 h_2 =>
  eop P (appS 29 29 29 out5_1 t17_1) h_2 fun t18_1 h_3 =>
  pop P (binA .add 3 p6_1 (Value.int IntKind.i64 1)) fun t14_1 =>
  I_1 [t18_1, t14_1] h_3 ∧ μ_1 [t18_1, t14_1] h_3 < μ_1 [out5_1, p6_1] h_1)
  (pop P (lenS 29 3 out5_1) fun t20_1 =>
  ∃ (I_2 : List Value → Heap → Prop) (μ_2 : List Value → Heap → Nat), I_2 [(Value.int IntKind.i64 0)] h_1 ∧
  ∀ (junk_2 : Nat → Value) (t21_1 : Value) (h_4 : Heap), I_2 [t21_1] h_4 →
  pop P (binA .lss 3 t21_1 t20_1) fun t22_1 =>
  condM t22_1
  (callM P 52 #[c0_1, n1_1] h_4 fun t26_1 h_5 =>
  pop P (Instr.indexAt 29 out5_1 t21_1) fun t29_1 =>
  rop P (Instr.loadAt 3 t29_1) h_5 fun t30_1 =>
  pop P (Instr.indexAt 29 out5_1 t26_1) fun t35_1 =>
  rop P (Instr.loadAt 3 t35_1) h_5 fun t36_1 =>
  pop P (Instr.indexAt 29 out5_1 t21_1) fun t37_1 =>
  uop P (Instr.storeAt 3 t37_1 t36_1) h_5 fun u_1 h_6 =>
  pop P (Instr.indexAt 29 out5_1 t26_1) fun t41_1 =>
  uop P (Instr.storeAt 3 t41_1 t30_1) h_6 fun u_2 h_7 =>
  pop P (binA .add 3 t21_1 (Value.int IntKind.i64 1)) fun t42_1 =>
  I_2 [t42_1] h_7 ∧ μ_2 [t42_1] h_7 < μ_2 [t21_1] h_4)
  (K out5_1 h_4))
theorem e66 (c0_1 : Value) (n1_1 : Value) (h : Heap) (K : Value → Heap → Prop) : wpA Tryz.prog 44 (anOf [(58, [5, 6]), (122, [21])]) (bodyOf Tryz.f66) 1 (fun A h => resA Tryz.prog A h K [.tmp 4]) (fun _ _ _ => False) (fun A h => resA Tryz.prog A h K [.tmp 4]) (aargs [c0_1, n1_1] 0) h = t66 Tryz.prog c0_1 n1_1 h K := by kernel_rfl
theorem c66 (c0_1 : Value) (n1_1 : Value) (h : Heap) (K : Value → Heap → Prop) (H : t66 Tryz.prog c0_1 n1_1 h K) : callM Tryz.prog 66 #[c0_1, n1_1] h K :=
  callM_of_wpA mixed (fn := Tryz.f66) Tryz.func66 (c := bodyOf Tryz.f66) rfl (of_decide_eq_true (by kernel_rfl)) (anOf [(58, [5, 6]), (122, [21])]) 42 44 (by kernel_rfl) rfl [.tmp 4] (by kernel_rfl) (args := [c0_1, n1_1]) (by rw [e66]; exact H)
def t67 (P : Program) (c0_1 : Value) (n1_1 : Value) (h : Heap) (K : Value → Heap → Prop) : Prop :=
  callM P 52 #[c0_1, n1_1] h fun t7_1 h_1 =>
  pop P (binE .eql 3 (.tmp 7) (.const (Value.int IntKind.i64 0)) t7_1 (Value.int IntKind.i64 0)) fun t8_1 =>
  K t8_1 h_1
theorem e67 (c0_1 : Value) (n1_1 : Value) (h : Heap) (K : Value → Heap → Prop) : wpA Tryz.prog 9 (anOf []) (bodyOf Tryz.f67) 1 (fun A h => resA Tryz.prog A h K [.tmp 4]) (fun _ _ _ => False) (fun A h => resA Tryz.prog A h K [.tmp 4]) (aargs [c0_1, n1_1] 0) h = t67 Tryz.prog c0_1 n1_1 h K := by kernel_rfl
theorem c67 (c0_1 : Value) (n1_1 : Value) (h : Heap) (K : Value → Heap → Prop) (H : t67 Tryz.prog c0_1 n1_1 h K) : callM Tryz.prog 67 #[c0_1, n1_1] h K :=
  callM_of_wpA mixed (fn := Tryz.f67) Tryz.func67 (c := bodyOf Tryz.f67) rfl (of_decide_eq_true (by kernel_rfl)) (anOf []) 7 9 (by kernel_rfl) rfl [.tmp 4] (by kernel_rfl) (args := [c0_1, n1_1]) (by rw [e67]; exact H)
def t68 (P : Program) (g0_1 : Value) (h : Heap) (K : Value → Heap → Prop) : Prop :=
  eop P (Instr.box 26 g0_1) h fun g1_1 h_1 =>
  pop P (Instr.fieldAt 26 g1_1 0) fun t6_1 =>
  rop P (Instr.loadAt 24 t6_1) h_1 fun t7_1 =>
  pop P (lenS 24 3 t7_1) fun t8_1 =>
  eop P (Instr.alloc 3 true (.tuple #[])) h_1 fun n3_1 h_2 =>
  uop P (Instr.storeAt 3 n3_1 t8_1) h_2 fun u_1 h_3 =>
  rop P (Instr.loadAt 3 n3_1) h_3 fun t9_1 =>
  callM P 84 #[t9_1, (Value.int IntKind.i64 1), (Value.int IntKind.i64 8)] h_3 fun t10_1 h_4 =>
  pop P (Op.unary .not t10_1) fun t11_1 =>
  condM t11_1
  (K (Value.bool false) h_4)
  (pop P (Instr.fieldAt 26 g1_1 0) fun t12_1 =>
  rop P (Instr.loadAt 24 t12_1) h_4 fun t13_1 =>
  pop P (lenS 24 3 t13_1) fun t14_1 =>
  ∃ (I_1 : List Value → Heap → Prop) (μ_1 : List Value → Heap → Nat), I_1 [(Value.int IntKind.i64 0)] h_4 ∧
  ∀ (junk_1 : Nat → Value) (t15_1 : Value) (h_5 : Heap), I_1 [t15_1] h_5 →
  pop P (binA .lss 3 t15_1 t14_1) fun t16_1 =>
  condM t16_1
  (pop P (Instr.indexAt 24 t13_1 t15_1) fun t17_1 =>
  rop P (Instr.loadAt 29 t17_1) h_5 fun t18_1 =>
  pop P (lenS 29 3 t18_1) fun t20_1 =>
  pop P (binA .gtr 3 t20_1 (Value.int IntKind.i64 5)) fun t21_1 =>
  guardM (asG t21_1 false) false (fun k_1 => k_1 t18_1 h_5) h_5 fun t23_1 h_6 =>
  guardM (asG t21_1 false) false (fun k_2 => pop P (Instr.makeFunc (Fn.func 117) #[] #[n3_1]) fun t24_1 =>
  k_2 t24_1 h_6) h_6 fun t24_2 h_7 =>
  guardM (asG t21_1 false) false (fun k_3 => callM P 107 #[t23_1, t24_2] h_7 fun t25_1 h_8 =>
  k_3 t25_1 h_8) h_7 fun t25_2 h_9 =>
  pop P (pickS t21_1 (Value.bool true) t25_2) fun t26_1 =>
  condM t26_1
  (K (Value.bool false) h_9)
  (pop P (binA .add 3 t15_1 (Value.int IntKind.i64 1)) fun t27_1 =>
  I_1 [t27_1] h_9 ∧ μ_1 [t27_1] h_9 < μ_1 [t15_1] h_5))
  (K (Value.bool true) h_5))
theorem e68 (g0_1 : Value) (h : Heap) (K : Value → Heap → Prop) : wpA Tryz.prog 28 (anOf [(122, [15])]) (bodyOf Tryz.f68) 1 (fun A h => resA Tryz.prog A h K [.tmp 2]) (fun _ _ _ => False) (fun A h => resA Tryz.prog A h K [.tmp 2]) (aargs [g0_1] 0) h = t68 Tryz.prog g0_1 h K := by kernel_rfl
theorem c68 (g0_1 : Value) (h : Heap) (K : Value → Heap → Prop) (H : t68 Tryz.prog g0_1 h K) : callM Tryz.prog 68 #[g0_1] h K :=
  callM_of_wpA mixed (fn := Tryz.f68) Tryz.func68 (c := bodyOf Tryz.f68) rfl (of_decide_eq_true (by kernel_rfl)) (anOf [(122, [15])]) 27 28 (by kernel_rfl) rfl [.tmp 2] (by kernel_rfl) (args := [g0_1]) (by rw [e68]; exact H)
def t69 (P : Program) (g0_1 : Value) (names1_1 : Value) (h : Heap) (K : Value → Heap → Prop) : Prop :=
  eop P (Instr.box 26 g0_1) h fun g2_1 h_1 =>
  pop P (lenS 29 3 names1_1) fun t8_1 =>
  pop P (Instr.fieldAt 26 g2_1 0) fun t9_1 =>
  rop P (Instr.loadAt 24 t9_1) h_1 fun t10_1 =>
  pop P (lenS 24 3 t10_1) fun t11_1 =>
  pop P (binE .neq 3 (.tmp 8) (.tmp 11) t8_1 t11_1) fun t12_1 =>
  condM t12_1
  (K (Value.bool false) h_1)
  (callM P 119 #[names1_1] h_1 fun t14_1 h_2 =>
  callM P 118 #[t14_1] h_2 fun t15_1 h_3 =>
  pop P (lenS 29 3 t15_1) fun t16_1 =>
  ∃ (I_1 : List Value → Heap → Prop) (μ_1 : List Value → Heap → Nat), I_1 [(Value.int IntKind.i64 0)] h_3 ∧
  ∀ (junk_1 : Nat → Value) (t17_1 : Value) (h_4 : Heap), I_1 [t17_1] h_4 →
  pop P (binA .lss 3 t17_1 t16_1) fun t18_1 =>
  condM t18_1
  (pop P (Instr.indexAt 29 t15_1 t17_1) fun t20_1 =>
  rop P (Instr.loadAt 3 t20_1) h_4 fun t21_1 =>
  pop P (binE .neq 3 (.tmp 22) (.tmp 23) t17_1 t21_1) fun t24_1 =>
  condM t24_1
  (K (Value.bool false) h_4)
  (pop P (binA .add 3 t17_1 (Value.int IntKind.i64 1)) fun t25_1 =>
  I_1 [t25_1] h_4 ∧ μ_1 [t25_1] h_4 < μ_1 [t17_1] h_4))
  (K (Value.bool true) h_4))
theorem e69 (g0_1 : Value) (names1_1 : Value) (h : Heap) (K : Value → Heap → Prop) : wpA Tryz.prog 26 (anOf [(58, [17])]) (bodyOf Tryz.f69) 1 (fun A h => resA Tryz.prog A h K [.tmp 4]) (fun _ _ _ => False) (fun A h => resA Tryz.prog A h K [.tmp 4]) (aargs [g0_1, names1_1] 0) h = t69 Tryz.prog g0_1 names1_1 h K := by kernel_rfl
theorem c69 (g0_1 : Value) (names1_1 : Value) (h : Heap) (K : Value → Heap → Prop) (H : t69 Tryz.prog g0_1 names1_1 h K) : callM Tryz.prog 69 #[g0_1, names1_1] h K :=
  callM_of_wpA mixed (fn := Tryz.f69) Tryz.func69 (c := bodyOf Tryz.f69) rfl (of_decide_eq_true (by kernel_rfl)) (anOf [(58, [17])]) 24 26 (by kernel_rfl) rfl [.tmp 4] (by kernel_rfl) (args := [g0_1, names1_1]) (by rw [e69]; exact H)
def t70 (P : Program) (names0_1 : Value) (n1_1 : Value) (h : Heap) (K : Value → Heap → Prop) : Prop :=
  pop P (lenS 29 3 names0_1) fun t8_1 =>
  pop P (binE .neq 3 (.tmp 8) (.tmp 9) t8_1 n1_1) fun t10_1 =>
  guardM (asG t10_1 false) false (fun k_1 => k_1 names0_1 h) h fun t12_1 h_1 =>
  guardM (asG t10_1 false) false (fun k_2 => k_2 n1_1 h_1) h_1 fun t13_1 h_2 =>
  guardM (asG t10_1 false) false (fun k_3 => pop P (binA .sub 3 t13_1 (Value.int IntKind.i64 1)) fun t14_1 =>
  k_3 t14_1 h_2) h_2 fun t14_2 h_3 =>
  guardM (asG t10_1 false) false (fun k_4 => callM P 56 #[t12_1, (Value.int IntKind.i64 0), t14_2] h_3 fun t15_1 h_4 =>
  k_4 t15_1 h_4) h_3 fun t15_2 h_5 =>
  guardM (asG t10_1 false) false (fun k_5 => pop P (Op.unary .not t15_2) fun t16_1 =>
  k_5 t16_1 h_5) h_5 fun t16_2 h_6 =>
  pop P (pickS t10_1 (Value.bool true) t16_2) fun t17_1 =>
  condM t17_1
  (K (Value.bool false) h_6)
  (pop P (lenS 29 3 names0_1) fun t19_1 =>
  ∃ (I_1 : List Value → Heap → Prop) (μ_1 : List Value → Heap → Nat), I_1 [(Value.int IntKind.i64 0)] h_6 ∧
  ∀ (junk_1 : Nat → Value) (t20_1 : Value) (h_7 : Heap), I_1 [t20_1] h_7 →
  pop P (binA .lss 3 t20_1 t19_1) fun t21_1 =>
  condM t21_1
  (pop P (Instr.indexAt 29 names0_1 t20_1) fun t23_1 =>
  rop P (Instr.loadAt 3 t23_1) h_7 fun t24_1 =>
  pop P (Instr.sliceAt 29 names0_1 none (some t20_1) none) fun t27_1 =>
  callM P 112 #[t27_1, t24_1] h_7 fun t29_1 h_8 =>
  condM t29_1
  (K (Value.bool false) h_8)
  (pop P (binA .add 3 t20_1 (Value.int IntKind.i64 1)) fun t30_1 =>
  I_1 [t30_1] h_8 ∧ μ_1 [t30_1] h_8 < μ_1 [t20_1] h_7))
  (K (Value.bool true) h_7))
theorem e70 (names0_1 : Value) (n1_1 : Value) (h : Heap) (K : Value → Heap → Prop) : wpA Tryz.prog 31 (anOf [(58, [20])]) (bodyOf Tryz.f70) 1 (fun A h => resA Tryz.prog A h K [.tmp 4]) (fun _ _ _ => False) (fun A h => resA Tryz.prog A h K [.tmp 4]) (aargs [names0_1, n1_1] 0) h = t70 Tryz.prog names0_1 n1_1 h K := by kernel_rfl
theorem c70 (names0_1 : Value) (n1_1 : Value) (h : Heap) (K : Value → Heap → Prop) (H : t70 Tryz.prog names0_1 n1_1 h K) : callM Tryz.prog 70 #[names0_1, n1_1] h K :=
  callM_of_wpA mixed (fn := Tryz.f70) Tryz.func70 (c := bodyOf Tryz.f70) rfl (of_decide_eq_true (by kernel_rfl)) (anOf [(58, [20])]) 29 31 (by kernel_rfl) rfl [.tmp 4] (by kernel_rfl) (args := [names0_1, n1_1]) (by rw [e70]; exact H)
def t71 (P : Program) (g0_1 : Value) (sink1_1 : Value) (s2_1 : Value) (order3_1 : Value) (h : Heap) (K : Value → Heap → Prop) : Prop :=
  eop P (Instr.box 26 g0_1) h fun g4_1 h_1 =>
  eop P (Instr.box 28 s2_1) h_1 fun s6_1 h_2 =>
  rop P (Instr.loadAt 28 s6_1) h_2 fun t23_1 =>
  callM P 58 #[t23_1, (Value.slice none 0 0)] h_2 fun t24_1 h_3 =>
  uop P (Instr.storeAt 28 s6_1 t24_1) h_3 fun u_1 h_4 =>
  pop P (Instr.fieldAt 26 g4_1 0) fun t25_1 =>
  rop P (Instr.loadAt 24 t25_1) h_4 fun t26_1 =>
  pop P (lenS 24 3 t26_1) fun t27_1 =>
  eop P (Instr.makeSlice 126 t27_1 t27_1) h_4 fun t28_1 h_5 =>
  pop P (Instr.indexAt 126 t28_1 sink1_1) fun t31_1 =>
  uop P (Instr.storeAt 4 t31_1 (Value.bool true)) h_5 fun u_2 h_6 =>
  pop P (lenS 29 3 order3_1) fun t33_1 =>
  ∃ (I_1 : List Value → Heap → Prop) (μ_1 : List Value → Heap → Nat), I_1 [(Value.int IntKind.i64 0), (Value.int IntKind.i64 0)] h_6 ∧
  ∀ (junk_1 : Nat → Value) (steps12_1 : Value) (t34_1 : Value) (h_7 : Heap), I_1 [steps12_1, t34_1] h_7 →
  pop P (binA .lss 3 t34_1 t33_1) fun t35_1 =>
  condM t35_1
  (pop P (Instr.indexAt 29 order3_1 t34_1) fun t36_1 =>
  rop P (Instr.loadAt 3 t36_1) h_7 fun t37_1 =>
  pop P (Instr.indexAt 126 t28_1 t37_1) fun t40_1 =>
  rop P (Instr.loadAt 4 t40_1) h_7 fun t41_1 =>
  condM t41_1
  (pop P (binA .add 3 t34_1 (Value.int IntKind.i64 1)) fun t88_1 =>
  I_1 [steps12_1, t88_1] h_7 ∧ μ_1 [steps12_1, t88_1] h_7 < μ_1 [steps12_1, t34_1] h_7)
  (eop P (Instr.buildSlice 29 1 #[(0, t37_1)]) h_7 fun t43_1 h_8 =>
  ∃ (I_2 : List Value → Heap → Prop) (μ_2 : List Value → Heap → Nat), I_2 [steps12_1, t43_1, t37_1] h_8 ∧
  ∀ (junk_2 : Nat → Value) (steps12_2 : Value) (way15_1 : Value) (p16_1 : Value) (h_9 : Heap), I_2 [steps12_2, way15_1, p16_1] h_9 →
  pop P (Instr.indexAt 126 t28_1 p16_1) fun t47_1 =>
  rop P (Instr.loadAt 4 t47_1) h_9 fun t48_1 =>
  pop P (Op.unary .not t48_1) fun t49_1 =>
  condM t49_1
  (rop P (Instr.loadAt 26 g4_1) h_9 fun t50_1 =>
  rop P (Instr.loadAt 28 s6_1) h_9 fun t51_1 =>
  callM P 120 #[t50_1, t51_1, p16_1] h_9 fun t53_1 h_10 =>
  pop P (binA .lss 3 t53_1 (Value.int IntKind.i64 0)) fun t55_1 =>
  condM t55_1
  (K (.tuple #[(Value.slice none 0 0), (Value.int IntKind.i64 0), (Value.bool false)]) h_10)
  (pop P (binA .add 3 steps12_2 (Value.int IntKind.i64 1)) fun t57_1 =>
  callM P 121 #[way15_1, t53_1] h_10 fun t60_1 h_11 =>
  pop P (binA .geq 3 t60_1 (Value.int IntKind.i64 0)) fun t62_1 =>
  condM t62_1
  (rop P (Instr.loadAt 28 s6_1) h_11 fun t63_1 =>
  pop P (Instr.sliceAt 29 way15_1 (some t60_1) none none) fun t66_1 =>
  callM P 58 #[t63_1, t66_1] h_11 fun t67_1 h_12 =>
  uop P (Instr.storeAt 28 s6_1 t67_1) h_12 fun u_3 h_13 =>
  pop P (binA .add 3 t60_1 (Value.int IntKind.i64 1)) fun t70_1 =>
  pop P (Instr.sliceAt 29 way15_1 none (some t70_1) none) fun t71_1 =>
  callM P 79 #[t71_1] h_13 fun t72_1 h_14 =>
  I_2 [t57_1, t72_1, t53_1] h_14 ∧ μ_2 [t57_1, t72_1, t53_1] h_14 < μ_2 [steps12_2, way15_1, p16_1] h_9)
  (eop P (Instr.buildSlice 29 1 #[(0, t53_1)]) h_11 fun t75_1 h_15 =>
  eop P (appS 29 29 29 way15_1 t75_1) h_15 fun t76_1 h_16 =>
  I_2 [t57_1, t76_1, t53_1] h_16 ∧ μ_2 [t57_1, t76_1, t53_1] h_16 < μ_2 [steps12_2, way15_1, p16_1] h_9)))
  (pop P (lenS 29 3 way15_1) fun t79_1 =>
  ∃ (I_3 : List Value → Heap → Prop) (μ_3 : List Value → Heap → Nat), I_3 [(Value.int IntKind.i64 0)] h_9 ∧
  ∀ (junk_3 : Nat → Value) (t80_1 : Value) (h_17 : Heap), I_3 [t80_1] h_17 →
  pop P (binA .lss 3 t80_1 t79_1) fun t81_1 =>
  condM t81_1
  (pop P (Instr.indexAt 29 way15_1 t80_1) fun t82_1 =>
  rop P (Instr.loadAt 3 t82_1) h_17 fun t83_1 =>
  pop P (Instr.indexAt 126 t28_1 t83_1) fun t86_1 =>
  uop P (Instr.storeAt 4 t86_1 (Value.bool true)) h_17 fun u_4 h_18 =>
  pop P (binA .add 3 t80_1 (Value.int IntKind.i64 1)) fun t87_1 =>
  I_3 [t87_1] h_18 ∧ μ_3 [t87_1] h_18 < μ_3 [t80_1] h_17)
  (pop P (binA .add 3 t34_1 (Value.int IntKind.i64 1)) fun t88_2 =>
  I_1 [steps12_2, t88_2] h_17 ∧ μ_1 [steps12_2, t88_2] h_17 < μ_1 [steps12_1, t34_1] h_7))))
  (rop P (Instr.loadAt 26 g4_1) h_7 fun t90_1 =>
  rop P (Instr.loadAt 28 s6_1) h_7 fun t92_1 =>
  callM P 60 #[t90_1, sink1_1, t92_1] h_7 fun t93_1 h_19 =>
  pop P (Instr.extract t93_1 0) fun t94_1 =>
  pop P (Instr.extract t93_1 1) fun t95_1 =>
  K (.tuple #[t94_1, steps12_1, t95_1]) h_19)
theorem e71 (g0_1 : Value) (sink1_1 : Value) (s2_1 : Value) (order3_1 : Value) (h : Heap) (K : Value → Heap → Prop) : wpA Tryz.prog 99 (anOf [(506, [12, 34]), (1037114, [12, 15, 16]), (1037118, [80])]) (bodyOf Tryz.f71) 1 (fun A h => resA Tryz.prog A h K [.tmp 8, .tmp 9, .tmp 10]) (fun _ _ _ => False) (fun A h => resA Tryz.prog A h K [.tmp 8, .tmp 9, .tmp 10]) (aargs [g0_1, sink1_1, s2_1, order3_1] 0) h = t71 Tryz.prog g0_1 sink1_1 s2_1 order3_1 h K := by kernel_rfl
theorem c71 (g0_1 : Value) (sink1_1 : Value) (s2_1 : Value) (order3_1 : Value) (h : Heap) (K : Value → Heap → Prop) (H : t71 Tryz.prog g0_1 sink1_1 s2_1 order3_1 h K) : callM Tryz.prog 71 #[g0_1, sink1_1, s2_1, order3_1] h K :=
  callM_of_wpA mixed (fn := Tryz.f71) Tryz.func71 (c := bodyOf Tryz.f71) rfl (of_decide_eq_true (by kernel_rfl)) (anOf [(506, [12, 34]), (1037114, [12, 15, 16]), (1037118, [80])]) 95 99 (by kernel_rfl) rfl [.tmp 8, .tmp 9, .tmp 10] (by kernel_rfl) (args := [g0_1, sink1_1, s2_1, order3_1]) (by rw [e71]; exact H)
def t72 (P : Program) (list0_1 : Value) (h : Heap) (K : Value → Heap → Prop) : Prop :=
  pop P (lenS 29 3 list0_1) fun t7_1 =>
  ∃ (I_1 : List Value → Heap → Prop) (μ_1 : List Value → Heap → Nat), I_1 [(Value.int IntKind.i64 0), (Value.int IntKind.i64 0)] h ∧
  ∀ (junk_1 : Nat → Value) (out3_1 : Value) (t8_1 : Value) (h_1 : Heap), I_1 [out3_1, t8_1] h_1 →
  pop P (binA .lss 3 t8_1 t7_1) fun t9_1 =>
  condM t9_1
  (pop P (Instr.indexAt 29 list0_1 t8_1) fun t10_1 =>
  rop P (Instr.loadAt 3 t10_1) h_1 fun t11_1 =>
  pop P (binA .add 3 out3_1 t11_1) fun t14_1 =>
  pop P (binA .add 3 t8_1 (Value.int IntKind.i64 1)) fun t15_1 =>
  I_1 [t14_1, t15_1] h_1 ∧ μ_1 [t14_1, t15_1] h_1 < μ_1 [out3_1, t8_1] h_1)
  (K out3_1 h_1)
theorem e72 (list0_1 : Value) (h : Heap) (K : Value → Heap → Prop) : wpA Tryz.prog 17 (anOf [(58, [3, 8])]) (bodyOf Tryz.f72) 1 (fun A h => resA Tryz.prog A h K [.tmp 2]) (fun _ _ _ => False) (fun A h => resA Tryz.prog A h K [.tmp 2]) (aargs [list0_1] 0) h = t72 Tryz.prog list0_1 h K := by kernel_rfl
theorem c72 (list0_1 : Value) (h : Heap) (K : Value → Heap → Prop) (H : t72 Tryz.prog list0_1 h K) : callM Tryz.prog 72 #[list0_1] h K :=
  callM_of_wpA mixed (fn := Tryz.f72) Tryz.func72 (c := bodyOf Tryz.f72) rfl (of_decide_eq_true (by kernel_rfl)) (anOf [(58, [3, 8])]) 16 17 (by kernel_rfl) rfl [.tmp 2] (by kernel_rfl) (args := [list0_1]) (by rw [e72]; exact H)
def t74 (P : Program) (g0_1 : Value) (w1_1 : Value) (h : Heap) (K : Value → Heap → Prop) : Prop :=
  eop P (Instr.box 26 g0_1) h fun g2_1 h_1 =>
  eop P (Instr.box 48 w1_1) h_1 fun w3_1 h_2 =>
  rop P (Instr.loadAt 26 g2_1) h_2 fun t7_1 =>
  pop P (Instr.fieldAt 48 w3_1 1) fun t8_1 =>
  rop P (Instr.loadAt 3 t8_1) h_2 fun t9_1 =>
  eop P (Instr.buildSlice 29 1 #[(0, t9_1)]) h_2 fun t10_1 h_3 =>
  callM P 94 #[t7_1, t10_1] h_3 fun t11_1 h_4 =>
  pop P (Op.unary .not t11_1) fun t12_1 =>
  guardM (asG t12_1 false) false (fun k_1 => pop P (Instr.fieldAt 48 w3_1 0) fun t14_1 =>
  k_1 t14_1 h_4) h_4 fun t14_2 h_5 =>
  guardM (asG t12_1 false) false (fun k_2 => rop P (Instr.loadAt 29 t14_2) h_5 fun t15_1 =>
  k_2 t15_1 h_5) h_5 fun t15_2 h_6 =>
  guardM (asG t12_1 false) false (fun k_3 => pop P (lenS 29 3 t15_2) fun t16_1 =>
  k_3 t16_1 h_6) h_6 fun t16_2 h_7 =>
  guardM (asG t12_1 false) false (fun k_4 => pop P (Instr.fieldAt 26 g2_1 0) fun t17_1 =>
  k_4 t17_1 h_7) h_7 fun t17_2 h_8 =>
  guardM (asG t12_1 false) false (fun k_5 => rop P (Instr.loadAt 24 t17_2) h_8 fun t18_1 =>
  k_5 t18_1 h_8) h_8 fun t18_2 h_9 =>
  guardM (asG t12_1 false) false (fun k_6 => pop P (lenS 24 3 t18_2) fun t19_1 =>
  k_6 t19_1 h_9) h_9 fun t19_2 h_10 =>
  guardM (asG t12_1 false) false (fun k_7 => pop P (binE .neq 3 (.tmp 16) (.tmp 19) t16_2 t19_2) fun t20_1 =>
  k_7 t20_1 h_10) h_10 fun t20_2 h_11 =>
  pop P (pickS t12_1 (Value.bool true) t20_2) fun t21_1 =>
  condM t21_1
  (K (Value.bool false) h_11)
  (pop P (Instr.fieldAt 48 w3_1 0) fun t22_1 =>
  rop P (Instr.loadAt 29 t22_1) h_11 fun t23_1 =>
  pop P (lenS 29 3 t23_1) fun t24_1 =>
  ∃ (I_1 : List Value → Heap → Prop) (μ_1 : List Value → Heap → Nat), I_1 [(Value.int IntKind.i64 0)] h_11 ∧
  ∀ (junk_1 : Nat → Value) (t25_1 : Value) (h_12 : Heap), I_1 [t25_1] h_12 →
  pop P (binA .lss 3 t25_1 t24_1) fun t26_1 =>
  condM t26_1
  (pop P (Instr.indexAt 29 t23_1 t25_1) fun t28_1 =>
  rop P (Instr.loadAt 3 t28_1) h_12 fun t29_1 =>
  pop P (Instr.fieldAt 26 g2_1 0) fun t31_1 =>
  rop P (Instr.loadAt 24 t31_1) h_12 fun t32_1 =>
  pop P (Instr.indexAt 24 t32_1 t25_1) fun t34_1 =>
  rop P (Instr.loadAt 29 t34_1) h_12 fun t35_1 =>
  pop P (lenS 29 3 t35_1) fun t36_1 =>
  pop P (binA .sub 3 t36_1 (Value.int IntKind.i64 1)) fun t37_1 =>
  pop P (Builtin.max_ #[3, 3] 3 #[t37_1, (Value.int IntKind.i64 0)]) fun t38_1 =>
  callM P 84 #[t29_1, (Value.int IntKind.i64 0), t38_1] h_12 fun t39_1 h_13 =>
  pop P (Op.unary .not t39_1) fun t40_1 =>
  condM t40_1
  (K (Value.bool false) h_13)
  (pop P (binA .add 3 t25_1 (Value.int IntKind.i64 1)) fun t41_1 =>
  I_1 [t41_1] h_13 ∧ μ_1 [t41_1] h_13 < μ_1 [t25_1] h_12))
  (K (Value.bool true) h_12))
theorem e74 (g0_1 : Value) (w1_1 : Value) (h : Heap) (K : Value → Heap → Prop) : wpA Tryz.prog 42 (anOf [(58, [25])]) (bodyOf Tryz.f74) 1 (fun A h => resA Tryz.prog A h K [.tmp 4]) (fun _ _ _ => False) (fun A h => resA Tryz.prog A h K [.tmp 4]) (aargs [g0_1, w1_1] 0) h = t74 Tryz.prog g0_1 w1_1 h K := by kernel_rfl
theorem c74 (g0_1 : Value) (w1_1 : Value) (h : Heap) (K : Value → Heap → Prop) (H : t74 Tryz.prog g0_1 w1_1 h K) : callM Tryz.prog 74 #[g0_1, w1_1] h K :=
  callM_of_wpA mixed (fn := Tryz.f74) Tryz.func74 (c := bodyOf Tryz.f74) rfl (of_decide_eq_true (by kernel_rfl)) (anOf [(58, [25])]) 40 42 (by kernel_rfl) rfl [.tmp 4] (by kernel_rfl) (args := [g0_1, w1_1]) (by rw [e74]; exact H)
def t78 (P : Program) (s0_1 : Value) (h : Heap) (K : Value → Heap → Prop) : Prop :=
  pop P (binE .eql 29 (.tmp 3) (.const (Value.slice none 0 0)) s0_1 (Value.slice none 0 0)) fun t4_1 =>
  condM t4_1
  (K (Value.slice none 0 0) h)
  (eop P (Instr.buildSlice 29 0 #[]) h fun t5_1 h_1 =>
  eop P (appS 29 29 29 t5_1 s0_1) h_1 fun t7_1 h_2 =>
  K t7_1 h_2)
theorem e78 (s0_1 : Value) (h : Heap) (K : Value → Heap → Prop) : wpA Tryz.prog 8 (anOf []) (bodyOf Tryz.f78) 1 (fun A h => resA Tryz.prog A h K [.tmp 2]) (fun _ _ _ => False) (fun A h => resA Tryz.prog A h K [.tmp 2]) (aargs [s0_1] 0) h = t78 Tryz.prog s0_1 h K := by kernel_rfl
theorem c78 (s0_1 : Value) (h : Heap) (K : Value → Heap → Prop) (H : t78 Tryz.prog s0_1 h K) : callM Tryz.prog 78 #[s0_1] h K :=
  callM_of_wpA mixed (fn := Tryz.f78) Tryz.func78 (c := bodyOf Tryz.f78) rfl (of_decide_eq_true (by kernel_rfl)) (anOf []) 7 8 (by kernel_rfl) rfl [.tmp 2] (by kernel_rfl) (args := [s0_1]) (by rw [e78]; exact H)
def t79 (P : Program) (l0_1 : Value) (h : Heap) (K : Value → Heap → Prop) : Prop :=
  eop P (Instr.buildSlice 29 0 #[]) h fun t3_1 h_1 =>
  eop P (appS 29 29 29 t3_1 l0_1) h_1 fun t5_1 h_2 =>
  K t5_1 h_2
theorem e79 (l0_1 : Value) (h : Heap) (K : Value → Heap → Prop) : wpA Tryz.prog 6 (anOf []) (bodyOf Tryz.f79) 1 (fun A h => resA Tryz.prog A h K [.tmp 2]) (fun _ _ _ => False) (fun A h => resA Tryz.prog A h K [.tmp 2]) (aargs [l0_1] 0) h = t79 Tryz.prog l0_1 h K := by kernel_rfl
theorem c79 (l0_1 : Value) (h : Heap) (K : Value → Heap → Prop) (H : t79 Tryz.prog l0_1 h K) : callM Tryz.prog 79 #[l0_1] h K :=
  callM_of_wpA mixed (fn := Tryz.f79) Tryz.func79 (c := bodyOf Tryz.f79) rfl (of_decide_eq_true (by kernel_rfl)) (anOf []) 5 6 (by kernel_rfl) rfl [.tmp 2] (by kernel_rfl) (args := [l0_1]) (by rw [e79]; exact H)
def t84 (P : Program) (n0_1 : Value) (low1_1 : Value) (high2_1 : Value) (h : Heap) (K : Value → Heap → Prop) : Prop :=
  pop P (binA .leq 3 low1_1 n0_1) fun t9_1 =>
  guardM (asG t9_1 true) true (fun k_1 => k_1 n0_1 h) h fun t11_1 h_1 =>
  guardM (asG t9_1 true) true (fun k_2 => k_2 high2_1 h_1) h_1 fun t12_1 h_2 =>
  guardM (asG t9_1 true) true (fun k_3 => pop P (binA .leq 3 t11_1 t12_1) fun t13_1 =>
  k_3 t13_1 h_2) h_2 fun t13_2 h_3 =>
  pop P (pickS t9_1 t13_2 (Value.bool false)) fun t14_1 =>
  K t14_1 h_3
theorem e84 (n0_1 : Value) (low1_1 : Value) (high2_1 : Value) (h : Heap) (K : Value → Heap → Prop) : wpA Tryz.prog 15 (anOf []) (bodyOf Tryz.f84) 1 (fun A h => resA Tryz.prog A h K [.tmp 6]) (fun _ _ _ => False) (fun A h => resA Tryz.prog A h K [.tmp 6]) (aargs [n0_1, low1_1, high2_1] 0) h = t84 Tryz.prog n0_1 low1_1 high2_1 h K := by kernel_rfl
theorem c84 (n0_1 : Value) (low1_1 : Value) (high2_1 : Value) (h : Heap) (K : Value → Heap → Prop) (H : t84 Tryz.prog n0_1 low1_1 high2_1 h K) : callM Tryz.prog 84 #[n0_1, low1_1, high2_1] h K :=
  callM_of_wpA mixed (fn := Tryz.f84) Tryz.func84 (c := bodyOf Tryz.f84) rfl (of_decide_eq_true (by kernel_rfl)) (anOf []) 12 15 (by kernel_rfl) rfl [.tmp 6] (by kernel_rfl) (args := [n0_1, low1_1, high2_1]) (by rw [e84]; exact H)
def t91 (P : Program) (g0_1 : Value) (h : Heap) (K : Value → Heap → Prop) : Prop :=
  eop P (Instr.box 26 g0_1) h fun g1_1 h_1 =>
  pop P (Instr.fieldAt 26 g1_1 0) fun t6_1 =>
  rop P (Instr.loadAt 24 t6_1) h_1 fun t7_1 =>
  pop P (lenS 24 3 t7_1) fun t8_1 =>
  callM P 104 #[t8_1, (Value.int IntKind.i64 1), (Value.int IntKind.i64 8)] h_1 fun t10_1 h_2 =>
  pop P (Op.unary .not t10_1) fun t11_1 =>
  condM t11_1
  (K (Value.bool false) h_2)
  (pop P (Instr.fieldAt 26 g1_1 0) fun t12_1 =>
  rop P (Instr.loadAt 24 t12_1) h_2 fun t13_1 =>
  pop P (lenS 24 3 t13_1) fun t14_1 =>
  ∃ (I_1 : List Value → Heap → Prop) (μ_1 : List Value → Heap → Nat), I_1 [(Value.int IntKind.i64 0)] h_2 ∧
  ∀ (junk_1 : Nat → Value) (t15_1 : Value) (h_3 : Heap), I_1 [t15_1] h_3 →
  pop P (binA .lss 3 t15_1 t14_1) fun t16_1 =>
  condM t16_1
  (pop P (Instr.indexAt 24 t13_1 t15_1) fun t17_1 =>
  rop P (Instr.loadAt 29 t17_1) h_3 fun t18_1 =>
  pop P (lenS 29 3 t18_1) fun t20_1 =>
  pop P (binA .gtr 3 t20_1 (Value.int IntKind.i64 5)) fun t21_1 =>
  guardM (asG t21_1 false) false (fun k_1 => k_1 t18_1 h_3) h_3 fun t23_1 h_4 =>
  guardM (asG t21_1 false) false (fun k_2 => k_2 t8_1 h_4) h_4 fun t24_1 h_5 =>
  guardM (asG t21_1 false) false (fun k_3 => pop P (binA .sub 3 t24_1 (Value.int IntKind.i64 1)) fun t25_1 =>
  k_3 t25_1 h_5) h_5 fun t25_2 h_6 =>
  guardM (asG t21_1 false) false (fun k_4 => callM P 56 #[t23_1, (Value.int IntKind.i64 0), t25_2] h_6 fun t26_1 h_7 =>
  k_4 t26_1 h_7) h_6 fun t26_2 h_8 =>
  guardM (asG t21_1 false) false (fun k_5 => pop P (Op.unary .not t26_2) fun t27_1 =>
  k_5 t27_1 h_8) h_8 fun t27_2 h_9 =>
  pop P (pickS t21_1 (Value.bool true) t27_2) fun t28_1 =>
  condM t28_1
  (K (Value.bool false) h_9)
  (pop P (binA .add 3 t15_1 (Value.int IntKind.i64 1)) fun t29_1 =>
  I_1 [t29_1] h_9 ∧ μ_1 [t29_1] h_9 < μ_1 [t15_1] h_3))
  (K (Value.bool true) h_3))
theorem e91 (g0_1 : Value) (h : Heap) (K : Value → Heap → Prop) : wpA Tryz.prog 30 (anOf [(122, [15])]) (bodyOf Tryz.f91) 1 (fun A h => resA Tryz.prog A h K [.tmp 2]) (fun _ _ _ => False) (fun A h => resA Tryz.prog A h K [.tmp 2]) (aargs [g0_1] 0) h = t91 Tryz.prog g0_1 h K := by kernel_rfl
theorem c91 (g0_1 : Value) (h : Heap) (K : Value → Heap → Prop) (H : t91 Tryz.prog g0_1 h K) : callM Tryz.prog 91 #[g0_1] h K :=
  callM_of_wpA mixed (fn := Tryz.f91) Tryz.func91 (c := bodyOf Tryz.f91) rfl (of_decide_eq_true (by kernel_rfl)) (anOf [(122, [15])]) 29 30 (by kernel_rfl) rfl [.tmp 2] (by kernel_rfl) (args := [g0_1]) (by rw [e91]; exact H)
def t94 (P : Program) (g0_1 : Value) (places1_1 : Value) (h : Heap) (K : Value → Heap → Prop) : Prop :=
  eop P (Instr.box 26 g0_1) h fun g2_1 h_1 =>
  rop P (Instr.loadAt 26 g2_1) h_1 fun t5_1 =>
  callM P 68 #[t5_1] h_1 fun t6_1 h_2 =>
  guardM (asG t6_1 true) true (fun k_1 => k_1 places1_1 h_2) h_2 fun t8_1 h_3 =>
  guardM (asG t6_1 true) true (fun k_2 => pop P (Instr.makeFunc (Fn.func 134) #[] #[g2_1]) fun t9_1 =>
  k_2 t9_1 h_3) h_3 fun t9_2 h_4 =>
  guardM (asG t6_1 true) true (fun k_3 => callM P 107 #[t8_1, t9_2] h_4 fun t10_1 h_5 =>
  k_3 t10_1 h_5) h_4 fun t10_2 h_6 =>
  guardM (asG t6_1 true) true (fun k_4 => pop P (Op.unary .not t10_2) fun t11_1 =>
  k_4 t11_1 h_6) h_6 fun t11_2 h_7 =>
  pop P (pickS t6_1 t11_2 (Value.bool false)) fun t12_1 =>
  K t12_1 h_7
theorem e94 (g0_1 : Value) (places1_1 : Value) (h : Heap) (K : Value → Heap → Prop) : wpA Tryz.prog 13 (anOf []) (bodyOf Tryz.f94) 1 (fun A h => resA Tryz.prog A h K [.tmp 4]) (fun _ _ _ => False) (fun A h => resA Tryz.prog A h K [.tmp 4]) (aargs [g0_1, places1_1] 0) h = t94 Tryz.prog g0_1 places1_1 h K := by kernel_rfl
theorem c94 (g0_1 : Value) (places1_1 : Value) (h : Heap) (K : Value → Heap → Prop) (H : t94 Tryz.prog g0_1 places1_1 h K) : callM Tryz.prog 94 #[g0_1, places1_1] h K :=
  callM_of_wpA mixed (fn := Tryz.f94) Tryz.func94 (c := bodyOf Tryz.f94) rfl (of_decide_eq_true (by kernel_rfl)) (anOf []) 11 13 (by kernel_rfl) rfl [.tmp 4] (by kernel_rfl) (args := [g0_1, places1_1]) (by rw [e94]; exact H)
def t98 (P : Program) (g0_1 : Value) (p1_1 : Value) (h : Heap) (K : Value → Heap → Prop) : Prop :=
  eop P (Instr.box 26 g0_1) h fun g2_1 h_1 =>
  rop P (Instr.loadAt 26 g2_1) h_1 fun t5_1 =>
  callM P 91 #[t5_1] h_1 fun t6_1 h_2 =>
  guardM (asG t6_1 true) true (fun k_1 => k_1 p1_1 h_2) h_2 fun t8_1 h_3 =>
  guardM (asG t6_1 true) true (fun k_2 => pop P (Instr.fieldAt 26 g2_1 0) fun t9_1 =>
  k_2 t9_1 h_3) h_3 fun t9_2 h_4 =>
  guardM (asG t6_1 true) true (fun k_3 => rop P (Instr.loadAt 24 t9_2) h_4 fun t10_1 =>
  k_3 t10_1 h_4) h_4 fun t10_2 h_5 =>
  guardM (asG t6_1 true) true (fun k_4 => pop P (lenS 24 3 t10_2) fun t11_1 =>
  k_4 t11_1 h_5) h_5 fun t11_2 h_6 =>
  guardM (asG t6_1 true) true (fun k_5 => pop P (binA .sub 3 t11_2 (Value.int IntKind.i64 1)) fun t12_1 =>
  k_5 t12_1 h_6) h_6 fun t12_2 h_7 =>
  guardM (asG t6_1 true) true (fun k_6 => callM P 104 #[t8_1, (Value.int IntKind.i64 0), t12_2] h_7 fun t13_1 h_8 =>
  k_6 t13_1 h_8) h_7 fun t13_2 h_9 =>
  pop P (pickS t6_1 t13_2 (Value.bool false)) fun t14_1 =>
  K t14_1 h_9
theorem e98 (g0_1 : Value) (p1_1 : Value) (h : Heap) (K : Value → Heap → Prop) : wpA Tryz.prog 15 (anOf []) (bodyOf Tryz.f98) 1 (fun A h => resA Tryz.prog A h K [.tmp 4]) (fun _ _ _ => False) (fun A h => resA Tryz.prog A h K [.tmp 4]) (aargs [g0_1, p1_1] 0) h = t98 Tryz.prog g0_1 p1_1 h K := by kernel_rfl
theorem c98 (g0_1 : Value) (p1_1 : Value) (h : Heap) (K : Value → Heap → Prop) (H : t98 Tryz.prog g0_1 p1_1 h K) : callM Tryz.prog 98 #[g0_1, p1_1] h K :=
  callM_of_wpA mixed (fn := Tryz.f98) Tryz.func98 (c := bodyOf Tryz.f98) rfl (of_decide_eq_true (by kernel_rfl)) (anOf []) 13 15 (by kernel_rfl) rfl [.tmp 4] (by kernel_rfl) (args := [g0_1, p1_1]) (by rw [e98]; exact H)
def t104 (P : Program) (n0_1 : Value) (lo1_1 : Value) (hi2_1 : Value) (h : Heap) (K : Value → Heap → Prop) : Prop :=
  pop P (binA .geq 3 n0_1 lo1_1) fun t9_1 =>
  guardM (asG t9_1 true) true (fun k_1 => k_1 n0_1 h) h fun t11_1 h_1 =>
  guardM (asG t9_1 true) true (fun k_2 => k_2 hi2_1 h_1) h_1 fun t12_1 h_2 =>
  guardM (asG t9_1 true) true (fun k_3 => pop P (binA .leq 3 t11_1 t12_1) fun t13_1 =>
  k_3 t13_1 h_2) h_2 fun t13_2 h_3 =>
  pop P (pickS t9_1 t13_2 (Value.bool false)) fun t14_1 =>
  K t14_1 h_3
theorem e104 (n0_1 : Value) (lo1_1 : Value) (hi2_1 : Value) (h : Heap) (K : Value → Heap → Prop) : wpA Tryz.prog 15 (anOf []) (bodyOf Tryz.f104) 1 (fun A h => resA Tryz.prog A h K [.tmp 6]) (fun _ _ _ => False) (fun A h => resA Tryz.prog A h K [.tmp 6]) (aargs [n0_1, lo1_1, hi2_1] 0) h = t104 Tryz.prog n0_1 lo1_1 hi2_1 h K := by kernel_rfl
theorem c104 (n0_1 : Value) (lo1_1 : Value) (hi2_1 : Value) (h : Heap) (K : Value → Heap → Prop) (H : t104 Tryz.prog n0_1 lo1_1 hi2_1 h K) : callM Tryz.prog 104 #[n0_1, lo1_1, hi2_1] h K :=
  callM_of_wpA mixed (fn := Tryz.f104) Tryz.func104 (c := bodyOf Tryz.f104) rfl (of_decide_eq_true (by kernel_rfl)) (anOf []) 12 15 (by kernel_rfl) rfl [.tmp 6] (by kernel_rfl) (args := [n0_1, lo1_1, hi2_1]) (by rw [e104]; exact H)
def t105 (P : Program) (c0_1 : Value) (h : Heap) (K : Value → Heap → Prop) : Prop :=
  eop P (Instr.alloc 26 true (.tuple #[])) h fun t2_1 h_1 =>
  callM P 131 #[c0_1] h_1 fun t6_1 h_2 =>
  eop P (Instr.alloc 26 true (.tuple #[])) h_2 fun g4_1 h_3 =>
  uop P (Instr.storeAt 26 g4_1 t6_1) h_3 fun u_1 h_4 =>
  ∃ J_1 : List Value → Heap → Prop, (callM P 67 #[c0_1, (Value.int IntKind.i64 3)] h_4 fun t8_1 h_5 =>
  condM t8_1
  (callM P 139 #[c0_1] h_5 fun t10_1 h_6 =>
  uop P (Instr.storeAt 26 g4_1 t10_1) h_6 fun u_2 h_7 =>
  J_1 [] h_7)
  (J_1 [] h_5)) ∧
  ∀ (junk_1 : Nat → Value) (h_8 : Heap), J_1 [] h_8 →
  rop P (Instr.loadAt 26 g4_1) h_8 fun t11_1 =>
  rop P (Instr.loadAt 26 g4_1) h_8 fun t13_1 =>
  callM P 140 #[c0_1, t13_1] h_8 fun t14_1 h_9 =>
  (∀ w : World, w.heap = h_9 → (Instr.loadAt 26 g4_1).run P w = .ok t11_1 w) ∧
  uop P (Instr.storeAt 26 t2_1 t11_1) h_9 fun u_3 h_10 =>
  rop P (Instr.loadAt 26 t2_1) h_10 fun r_1 =>
  K (.tuple #[r_1, t14_1]) h_10
theorem e105 (c0_1 : Value) (h : Heap) (K : Value → Heap → Prop) : wpA Tryz.prog 15 (anOf [(7, [])]) (bodyOf Tryz.f105) 1 (fun A h => resA Tryz.prog A h K [.cell 2 26, .tmp 3]) (fun _ _ _ => False) (fun A h => resA Tryz.prog A h K [.cell 2 26, .tmp 3]) (aargs [c0_1] 0) h = t105 Tryz.prog c0_1 h K := by kernel_rfl
theorem c105 (c0_1 : Value) (h : Heap) (K : Value → Heap → Prop) (H : t105 Tryz.prog c0_1 h K) : callM Tryz.prog 105 #[c0_1] h K :=
  callM_of_wpA mixed (fn := Tryz.f105) Tryz.func105 (c := bodyOf Tryz.f105) rfl (of_decide_eq_true (by kernel_rfl)) (anOf [(7, [])]) 14 15 (by kernel_rfl) rfl [.cell 2 26, .tmp 3] (by kernel_rfl) (args := [c0_1]) (by rw [e105]; exact H)
def t106 (P : Program) (c0_1 : Value) (h : Heap) (K : Value → Heap → Prop) : Prop :=
  ∃ J_1 : List Value → Heap → Prop, (pop P (nilS c0_1) fun t5_1 =>
  pop P (Instr.fieldAt 74 t5_1 1) fun t6_1 =>
  rop P (Instr.loadAt 3 t6_1) h fun t7_1 =>
  pop P (nilS c0_1) fun t9_1 =>
  pop P (Instr.fieldAt 74 t9_1 0) fun t10_1 =>
  rop P (Instr.loadAt 22 t10_1) h fun t11_1 =>
  pop P (lenS 22 3 t11_1) fun t12_1 =>
  pop P (binA .lss 3 t7_1 t12_1) fun t13_1 =>
  condM t13_1
  (pop P (nilS c0_1) fun t15_1 =>
  pop P (Instr.fieldAt 74 t15_1 0) fun t16_1 =>
  rop P (Instr.loadAt 22 t16_1) h fun t17_1 =>
  pop P (nilS c0_1) fun t19_1 =>
  pop P (Instr.fieldAt 74 t19_1 1) fun t20_1 =>
  rop P (Instr.loadAt 3 t20_1) h fun t21_1 =>
  pop P (Instr.indexAt 22 t17_1 t21_1) fun t22_1 =>
  rop P (Instr.loadAt 5 t22_1) h fun t23_1 =>
  rop P (convert 5 3 t23_1) h fun t24_1 =>
  J_1 [t24_1] h)
  (J_1 [(Value.int IntKind.i64 0)] h)) ∧
  ∀ (junk_1 : Nat → Value) (b3_1 : Value) (h_1 : Heap), J_1 [b3_1] h_1 →
  pop P (nilS c0_1) fun t26_1 =>
  pop P (Instr.fieldAt 74 t26_1 1) fun t27_1 =>
  rop P (Instr.loadAt 3 t27_1) h_1 fun t28_1 =>
  pop P (binA .add 3 t28_1 (Value.int IntKind.i64 1)) fun t29_1 =>
  pop P (nilS c0_1) fun t30_1 =>
  pop P (Instr.fieldAt 74 t30_1 1) fun t31_1 =>
  uop P (Instr.storeAt 3 t31_1 t29_1) h_1 fun u_1 h_2 =>
  pop P (nilS c0_1) fun t34_1 =>
  pop P (Instr.fieldAt 74 t34_1 2) fun t35_1 =>
  rop P (Instr.loadAt 72 t35_1) h_2 fun t36_1 =>
  pop P (binA .mul 72 t36_1 (Value.int IntKind.u64 6364136223846793005)) fun t37_1 =>
  rop P (convert 3 72 b3_1) h_2 fun t39_1 =>
  pop P (binA .add 72 t37_1 t39_1) fun t40_1 =>
  pop P (binA .add 72 t40_1 (Value.int IntKind.u64 1442695040888963407)) fun t41_1 =>
  pop P (nilS c0_1) fun t42_1 =>
  pop P (Instr.fieldAt 74 t42_1 2) fun t43_1 =>
  uop P (Instr.storeAt 72 t43_1 t41_1) h_2 fun u_2 h_3 =>
  pop P (nilS c0_1) fun t45_1 =>
  pop P (Instr.fieldAt 74 t45_1 1) fun t46_1 =>
  rop P (Instr.loadAt 3 t46_1) h_3 fun t47_1 =>
  pop P (nilS c0_1) fun t49_1 =>
  pop P (Instr.fieldAt 74 t49_1 0) fun t50_1 =>
  rop P (Instr.loadAt 22 t50_1) h_3 fun t51_1 =>
  pop P (lenS 22 3 t51_1) fun t52_1 =>
  pop P (binA .leq 3 t47_1 t52_1) fun t53_1 =>
  condM t53_1
  (K b3_1 h_3)
  (pop P (nilS c0_1) fun t56_1 =>
  pop P (Instr.fieldAt 74 t56_1 2) fun t57_1 =>
  rop P (Instr.loadAt 72 t57_1) h_3 fun t58_1 =>
  pop P (binA .shr 72 t58_1 (Value.int IntKind.u64 40)) fun t59_1 =>
  pop P (binA .and 72 t59_1 (Value.int IntKind.u64 255)) fun t60_1 =>
  rop P (convert 72 3 t60_1) h_3 fun t61_1 =>
  K t61_1 h_3)
theorem e106 (c0_1 : Value) (h : Heap) (K : Value → Heap → Prop) : wpA Tryz.prog 62 (anOf [(7, [3])]) (bodyOf Tryz.f106) 1 (fun A h => resA Tryz.prog A h K [.tmp 2]) (fun _ _ _ => False) (fun A h => resA Tryz.prog A h K [.tmp 2]) (aargs [c0_1] 0) h = t106 Tryz.prog c0_1 h K := by kernel_rfl
theorem c106 (c0_1 : Value) (h : Heap) (K : Value → Heap → Prop) (H : t106 Tryz.prog c0_1 h K) : callM Tryz.prog 106 #[c0_1] h K :=
  callM_of_wpA mixed (fn := Tryz.f106) Tryz.func106 (c := bodyOf Tryz.f106) rfl (of_decide_eq_true (by kernel_rfl)) (anOf [(7, [3])]) 61 62 (by kernel_rfl) rfl [.tmp 2] (by kernel_rfl) (args := [c0_1]) (by rw [e106]; exact H)
def t107 (P : Program) (s0_1 : Value) (f1_1 : Value) (h : Heap) (K : Value → Heap → Prop) : Prop :=
  callM P 141 #[s0_1, f1_1] h fun t7_1 h_1 =>
  pop P (binA .geq 3 t7_1 (Value.int IntKind.i64 0)) fun t8_1 =>
  K t8_1 h_1
theorem e107 (s0_1 : Value) (f1_1 : Value) (h : Heap) (K : Value → Heap → Prop) : wpA Tryz.prog 9 (anOf []) (bodyOf Tryz.f107) 1 (fun A h => resA Tryz.prog A h K [.tmp 4]) (fun _ _ _ => False) (fun A h => resA Tryz.prog A h K [.tmp 4]) (aargs [s0_1, f1_1] 0) h = t107 Tryz.prog s0_1 f1_1 h K := by kernel_rfl
theorem c107 (s0_1 : Value) (f1_1 : Value) (h : Heap) (K : Value → Heap → Prop) (H : t107 Tryz.prog s0_1 f1_1 h K) : callM Tryz.prog 107 #[s0_1, f1_1] h K :=
  callM_of_wpA mixed (fn := Tryz.f107) Tryz.func107 (c := bodyOf Tryz.f107) rfl (of_decide_eq_true (by kernel_rfl)) (anOf []) 7 9 (by kernel_rfl) rfl [.tmp 4] (by kernel_rfl) (args := [s0_1, f1_1]) (by rw [e107]; exact H)
def t108 (P : Program) (c0_1 : Value) (h : Heap) (K : Value → Heap → Prop) : Prop :=
  pop P (binA .lss 3 c0_1 (Value.int IntKind.i64 0)) fun t4_1 =>
  K t4_1 h
theorem e108 (c0_1 : Value) (h : Heap) (K : Value → Heap → Prop) : wpA Tryz.prog 5 (anOf []) (bodyOf Tryz.f108) 1 (fun A h => resA Tryz.prog A h K [.tmp 2]) (fun _ _ _ => False) (fun A h => resA Tryz.prog A h K [.tmp 2]) (aargs [c0_1] 0) h = t108 Tryz.prog c0_1 h K := by kernel_rfl
theorem c108 (c0_1 : Value) (h : Heap) (K : Value → Heap → Prop) (H : t108 Tryz.prog c0_1 h K) : callM Tryz.prog 108 #[c0_1] h K :=
  callM_of_wpA mixed (fn := Tryz.f108) Tryz.func108 (c := bodyOf Tryz.f108) rfl (of_decide_eq_true (by kernel_rfl)) (anOf []) 4 5 (by kernel_rfl) rfl [.tmp 2] (by kernel_rfl) (args := [c0_1]) (by rw [e108]; exact H)
def t109 (P : Program) (s0_1 : Value) (h : Heap) (K : Value → Heap → Prop) : Prop :=
  eop P (Instr.box 28 s0_1) h fun s1_1 h_1 =>
  eop P (Instr.alloc 28 true (.tuple #[])) h_1 fun t2_1 h_2 =>
  pop P (Instr.build 28 #[]) fun t6_1 =>
  eop P (Instr.alloc 28 true (.tuple #[])) h_2 fun out3_1 h_3 =>
  uop P (Instr.storeAt 28 out3_1 t6_1) h_3 fun u_1 h_4 =>
  pop P (Instr.fieldAt 28 s1_1 0) fun t7_1 =>
  rop P (Instr.loadAt 24 t7_1) h_4 fun t8_1 =>
  pop P (lenS 24 3 t8_1) fun t9_1 =>
  ∃ (I_1 : List Value → Heap → Prop) (μ_1 : List Value → Heap → Nat), I_1 [(Value.int IntKind.i64 0)] h_4 ∧
  ∀ (junk_1 : Nat → Value) (t10_1 : Value) (h_5 : Heap), I_1 [t10_1] h_5 →
  pop P (binA .lss 3 t10_1 t9_1) fun t11_1 =>
  condM t11_1
  (pop P (Instr.indexAt 24 t8_1 t10_1) fun t12_1 =>
  rop P (Instr.loadAt 29 t12_1) h_5 fun t13_1 =>
  pop P (Instr.fieldAt 28 out3_1 0) fun t14_1 =>
  rop P (Instr.loadAt 24 t14_1) h_5 fun t15_1 =>
  callM P 78 #[t13_1] h_5 fun t17_1 h_6 =>
  (∀ w : World, w.heap = h_6 → (Instr.loadAt 24 t14_1).run P w = .ok t15_1 w) ∧
  eop P (Instr.buildSlice 24 1 #[(0, t17_1)]) h_6 fun t18_1 h_7 =>
  (∀ w : World, w.heap = h_7 → (Instr.loadAt 24 t14_1).run P w = .ok t15_1 w) ∧
  eop P (appS 24 24 24 t15_1 t18_1) h_7 fun t19_1 h_8 =>
  pop P (Instr.fieldAt 28 out3_1 0) fun t20_1 =>
  uop P (Instr.storeAt 24 t20_1 t19_1) h_8 fun u_2 h_9 =>
  pop P (binA .add 3 t10_1 (Value.int IntKind.i64 1)) fun t21_1 =>
  I_1 [t21_1] h_9 ∧ μ_1 [t21_1] h_9 < μ_1 [t10_1] h_5)
  (rop P (Instr.loadAt 28 out3_1) h_5 fun t22_1 =>
  uop P (Instr.storeAt 28 t2_1 t22_1) h_5 fun u_3 h_10 =>
  rop P (Instr.loadAt 28 t2_1) h_10 fun r_1 =>
  K r_1 h_10)
theorem e109 (s0_1 : Value) (h : Heap) (K : Value → Heap → Prop) : wpA Tryz.prog 23 (anOf [(58, [10])]) (bodyOf Tryz.f109) 1 (fun A h => resA Tryz.prog A h K [.cell 2 28]) (fun _ _ _ => False) (fun A h => resA Tryz.prog A h K [.cell 2 28]) (aargs [s0_1] 0) h = t109 Tryz.prog s0_1 h K := by kernel_rfl
theorem c109 (s0_1 : Value) (h : Heap) (K : Value → Heap → Prop) (H : t109 Tryz.prog s0_1 h K) : callM Tryz.prog 109 #[s0_1] h K :=
  callM_of_wpA mixed (fn := Tryz.f109) Tryz.func109 (c := bodyOf Tryz.f109) rfl (of_decide_eq_true (by kernel_rfl)) (anOf [(58, [10])]) 22 23 (by kernel_rfl) rfl [.cell 2 28] (by kernel_rfl) (args := [s0_1]) (by rw [e109]; exact H)
def t110 (P : Program) (s0_1 : Value) (cycle1_1 : Value) (h : Heap) (K : Value → Heap → Prop) : Prop :=
  eop P (Instr.box 28 s0_1) h fun s2_1 h_1 =>
  pop P (lenS 29 3 cycle1_1) fun t7_1 =>
  ∃ (I_1 : List Value → Heap → Prop) (μ_1 : List Value → Heap → Nat), I_1 [(Value.int IntKind.i64 0)] h_1 ∧
  ∀ (junk_1 : Nat → Value) (t8_1 : Value) (h_2 : Heap), I_1 [t8_1] h_2 →
  pop P (binA .lss 3 t8_1 t7_1) fun t9_1 =>
  condM t9_1
  (pop P (Instr.indexAt 29 cycle1_1 t8_1) fun t10_1 =>
  rop P (Instr.loadAt 3 t10_1) h_2 fun t11_1 =>
  pop P (Instr.fieldAt 28 s2_1 0) fun t12_1 =>
  rop P (Instr.loadAt 24 t12_1) h_2 fun t13_1 =>
  pop P (Instr.fieldAt 28 s2_1 0) fun t15_1 =>
  rop P (Instr.loadAt 24 t15_1) h_2 fun t16_1 =>
  pop P (Instr.indexAt 24 t16_1 t11_1) fun t18_1 =>
  rop P (Instr.loadAt 29 t18_1) h_2 fun t19_1 =>
  pop P (Instr.sliceAt 29 t19_1 (some (Value.int IntKind.i64 1)) none none) fun t20_1 =>
  pop P (Instr.indexAt 24 t13_1 t11_1) fun t21_1 =>
  uop P (Instr.storeAt 29 t21_1 t20_1) h_2 fun u_1 h_3 =>
  pop P (binA .add 3 t8_1 (Value.int IntKind.i64 1)) fun t22_1 =>
  I_1 [t22_1] h_3 ∧ μ_1 [t22_1] h_3 < μ_1 [t8_1] h_2)
  (K (.tuple #[]) h_2)
theorem e110 (s0_1 : Value) (cycle1_1 : Value) (h : Heap) (K : Value → Heap → Prop) : wpA Tryz.prog 23 (anOf [(14, [8])]) (bodyOf Tryz.f110) 1 (fun A h => resA Tryz.prog A h K []) (fun _ _ _ => False) (fun A h => resA Tryz.prog A h K []) (aargs [s0_1, cycle1_1] 0) h = t110 Tryz.prog s0_1 cycle1_1 h K := by kernel_rfl
theorem c110 (s0_1 : Value) (cycle1_1 : Value) (h : Heap) (K : Value → Heap → Prop) (H : t110 Tryz.prog s0_1 cycle1_1 h K) : callM Tryz.prog 110 #[s0_1, cycle1_1] h K :=
  callM_of_wpA mixed (fn := Tryz.f110) Tryz.func110 (c := bodyOf Tryz.f110) rfl (of_decide_eq_true (by kernel_rfl)) (anOf [(14, [8])]) 21 23 (by kernel_rfl) rfl [] (by kernel_rfl) (args := [s0_1, cycle1_1]) (by rw [e110]; exact H)
def t111 (P : Program) (g0_1 : Value) (s1_1 : Value) (h : Heap) (K : Value → Heap → Prop) : Prop :=
  eop P (Instr.box 26 g0_1) h fun g2_1 h_1 =>
  eop P (Instr.box 28 s1_1) h_1 fun s3_1 h_2 =>
  pop P (Instr.fieldAt 26 g2_1 0) fun t8_1 =>
  rop P (Instr.loadAt 24 t8_1) h_2 fun t9_1 =>
  pop P (lenS 24 3 t9_1) fun t10_1 =>
  ∃ (I_1 : List Value → Heap → Prop) (μ_1 : List Value → Heap → Nat), I_1 [(Value.slice none 0 0), (Value.int IntKind.i64 0)] h_2 ∧
  ∀ (junk_1 : Nat → Value) (out5_1 : Value) (t11_1 : Value) (h_3 : Heap), I_1 [out5_1, t11_1] h_3 →
  pop P (binA .lss 3 t11_1 t10_1) fun t12_1 =>
  condM t12_1
  (rop P (Instr.loadAt 26 g2_1) h_3 fun t14_1 =>
  rop P (Instr.loadAt 28 s3_1) h_3 fun t15_1 =>
  callM P 142 #[t14_1, t15_1, t11_1] h_3 fun t17_1 h_4 =>
  pop P (lenS 29 3 t17_1) fun t19_1 =>
  pop P (binA .gtr 3 t19_1 (Value.int IntKind.i64 0)) fun t20_1 =>
  guardM (asG t20_1 true) true (fun k_1 => k_1 t17_1 h_4) h_4 fun t22_1 h_5 =>
  guardM (asG t20_1 true) true (fun k_2 => pop P (Instr.indexAt 29 t22_1 (Value.int IntKind.i64 0)) fun t23_1 =>
  k_2 t23_1 h_5) h_5 fun t23_2 h_6 =>
  guardM (asG t20_1 true) true (fun k_3 => rop P (Instr.loadAt 3 t23_2) h_6 fun t24_1 =>
  k_3 t24_1 h_6) h_6 fun t24_2 h_7 =>
  guardM (asG t20_1 true) true (fun k_4 => k_4 t11_1 h_7) h_7 fun t25_1 h_8 =>
  guardM (asG t20_1 true) true (fun k_5 => pop P (binE .eql 3 (.tmp 24) (.tmp 25) t24_2 t25_1) fun t26_1 =>
  k_5 t26_1 h_8) h_8 fun t26_2 h_9 =>
  pop P (pickS t20_1 t26_2 (Value.bool false)) fun t27_1 =>
  condM t27_1
  (eop P (Instr.buildSlice 24 1 #[(0, t17_1)]) h_9 fun t30_1 h_10 =>
  eop P (appS 24 24 24 out5_1 t30_1) h_10 fun t31_1 h_11 =>
  pop P (binA .add 3 t11_1 (Value.int IntKind.i64 1)) fun t32_1 =>
  I_1 [t31_1, t32_1] h_11 ∧ μ_1 [t31_1, t32_1] h_11 < μ_1 [out5_1, t11_1] h_3)
  (pop P (binA .add 3 t11_1 (Value.int IntKind.i64 1)) fun t32_2 =>
  I_1 [out5_1, t32_2] h_9 ∧ μ_1 [out5_1, t32_2] h_9 < μ_1 [out5_1, t11_1] h_3))
  (K out5_1 h_3)
theorem e111 (g0_1 : Value) (s1_1 : Value) (h : Heap) (K : Value → Heap → Prop) : wpA Tryz.prog 34 (anOf [(58, [5, 11])]) (bodyOf Tryz.f111) 1 (fun A h => resA Tryz.prog A h K [.tmp 4]) (fun _ _ _ => False) (fun A h => resA Tryz.prog A h K [.tmp 4]) (aargs [g0_1, s1_1] 0) h = t111 Tryz.prog g0_1 s1_1 h K := by kernel_rfl
theorem c111 (g0_1 : Value) (s1_1 : Value) (h : Heap) (K : Value → Heap → Prop) (H : t111 Tryz.prog g0_1 s1_1 h K) : callM Tryz.prog 111 #[g0_1, s1_1] h K :=
  callM_of_wpA mixed (fn := Tryz.f111) Tryz.func111 (c := bodyOf Tryz.f111) rfl (of_decide_eq_true (by kernel_rfl)) (anOf [(58, [5, 11])]) 32 34 (by kernel_rfl) rfl [.tmp 4] (by kernel_rfl) (args := [g0_1, s1_1]) (by rw [e111]; exact H)
def t112 (P : Program) (l0_1 : Value) (n1_1 : Value) (h : Heap) (K : Value → Heap → Prop) : Prop :=
  pop P (lenS 29 3 l0_1) fun t8_1 =>
  ∃ (I_1 : List Value → Heap → Prop) (μ_1 : List Value → Heap → Nat), I_1 [(Value.int IntKind.i64 0)] h ∧
  ∀ (junk_1 : Nat → Value) (t9_1 : Value) (h_1 : Heap), I_1 [t9_1] h_1 →
  pop P (binA .lss 3 t9_1 t8_1) fun t10_1 =>
  condM t10_1
  (pop P (Instr.indexAt 29 l0_1 t9_1) fun t11_1 =>
  rop P (Instr.loadAt 3 t11_1) h_1 fun t12_1 =>
  pop P (binE .eql 3 (.tmp 13) (.tmp 14) t12_1 n1_1) fun t15_1 =>
  condM t15_1
  (K (Value.bool true) h_1)
  (pop P (binA .add 3 t9_1 (Value.int IntKind.i64 1)) fun t16_1 =>
  I_1 [t16_1] h_1 ∧ μ_1 [t16_1] h_1 < μ_1 [t9_1] h_1))
  (K (Value.bool false) h_1)
theorem e112 (l0_1 : Value) (n1_1 : Value) (h : Heap) (K : Value → Heap → Prop) : wpA Tryz.prog 17 (anOf [(26, [9])]) (bodyOf Tryz.f112) 1 (fun A h => resA Tryz.prog A h K [.tmp 4]) (fun _ _ _ => False) (fun A h => resA Tryz.prog A h K [.tmp 4]) (aargs [l0_1, n1_1] 0) h = t112 Tryz.prog l0_1 n1_1 h K := by kernel_rfl
theorem c112 (l0_1 : Value) (n1_1 : Value) (h : Heap) (K : Value → Heap → Prop) (H : t112 Tryz.prog l0_1 n1_1 h K) : callM Tryz.prog 112 #[l0_1, n1_1] h K :=
  callM_of_wpA mixed (fn := Tryz.f112) Tryz.func112 (c := bodyOf Tryz.f112) rfl (of_decide_eq_true (by kernel_rfl)) (anOf [(26, [9])]) 15 17 (by kernel_rfl) rfl [.tmp 4] (by kernel_rfl) (args := [l0_1, n1_1]) (by rw [e112]; exact H)
def t113 (P : Program) (g0_1 : Value) (rotors1_1 : Value) (h : Heap) (K : Value → Heap → Prop) : Prop :=
  eop P (Instr.box 26 g0_1) h fun g2_1 h_1 =>
  rop P (Instr.loadAt 26 g2_1) h_1 fun t5_1 =>
  pop P (Instr.build 48 #[(0, rotors1_1), (1, (Value.int IntKind.i64 0))]) fun t7_1 =>
  callM P 74 #[t5_1, t7_1] h_1 fun t8_1 h_2 =>
  K t8_1 h_2
theorem e113 (g0_1 : Value) (rotors1_1 : Value) (h : Heap) (K : Value → Heap → Prop) : wpA Tryz.prog 9 (anOf []) (bodyOf Tryz.f113) 1 (fun A h => resA Tryz.prog A h K [.tmp 4]) (fun _ _ _ => False) (fun A h => resA Tryz.prog A h K [.tmp 4]) (aargs [g0_1, rotors1_1] 0) h = t113 Tryz.prog g0_1 rotors1_1 h K := by kernel_rfl
theorem c113 (g0_1 : Value) (rotors1_1 : Value) (h : Heap) (K : Value → Heap → Prop) (H : t113 Tryz.prog g0_1 rotors1_1 h K) : callM Tryz.prog 113 #[g0_1, rotors1_1] h K :=
  callM_of_wpA mixed (fn := Tryz.f113) Tryz.func113 (c := bodyOf Tryz.f113) rfl (of_decide_eq_true (by kernel_rfl)) (anOf []) 7 9 (by kernel_rfl) rfl [.tmp 4] (by kernel_rfl) (args := [g0_1, rotors1_1]) (by rw [e113]; exact H)
def t114 (P : Program) (g0_1 : Value) (sink1_1 : Value) (rotors2_1 : Value) (h : Heap) (K : Value → Heap → Prop) : Prop :=
  eop P (Instr.box 26 g0_1) h fun g3_1 h_1 =>
  eop P (Instr.buildSlice 29 0 #[]) h_1 fun t12_1 h_2 =>
  pop P (Instr.fieldAt 26 g3_1 0) fun t13_1 =>
  rop P (Instr.loadAt 24 t13_1) h_2 fun t14_1 =>
  pop P (lenS 24 3 t14_1) fun t15_1 =>
  ∃ (I_1 : List Value → Heap → Prop) (μ_1 : List Value → Heap → Nat), I_1 [t12_1, (Value.int IntKind.i64 0)] h_2 ∧
  ∀ (junk_1 : Nat → Value) (out8_1 : Value) (t16_1 : Value) (h_3 : Heap), I_1 [out8_1, t16_1] h_3 →
  pop P (binA .lss 3 t16_1 t15_1) fun t17_1 =>
  condM t17_1
  (∃ (I_2 : List Value → Heap → Prop) (μ_2 : List Value → Heap → Nat), I_2 [(Value.int IntKind.i64 0), t16_1] h_3 ∧
  ∀ (junk_2 : Nat → Value) (many10_1 : Value) (at11_1 : Value) (h_4 : Heap), I_2 [many10_1, at11_1] h_4 →
  pop P (binE .neq 3 (.tmp 20) (.tmp 21) at11_1 sink1_1) fun t22_1 =>
  condM t22_1
  (rop P (Instr.loadAt 26 g3_1) h_4 fun t25_1 =>
  callM P 126 #[t25_1, rotors2_1, at11_1] h_4 fun t28_1 h_5 =>
  pop P (binA .lss 3 t28_1 (Value.int IntKind.i64 0)) fun t30_1 =>
  guardM (asG t30_1 false) false (fun k_1 => k_1 many10_1 h_5) h_5 fun t32_1 h_6 =>
  guardM (asG t30_1 false) false (fun k_2 => pop P (Instr.fieldAt 26 g3_1 0) fun t33_1 =>
  k_2 t33_1 h_6) h_6 fun t33_2 h_7 =>
  guardM (asG t30_1 false) false (fun k_3 => rop P (Instr.loadAt 24 t33_2) h_7 fun t34_1 =>
  k_3 t34_1 h_7) h_7 fun t34_2 h_8 =>
  guardM (asG t30_1 false) false (fun k_4 => pop P (lenS 24 3 t34_2) fun t35_1 =>
  k_4 t35_1 h_8) h_8 fun t35_2 h_9 =>
  guardM (asG t30_1 false) false (fun k_5 => pop P (binA .gtr 3 t32_1 t35_2) fun t36_1 =>
  k_5 t36_1 h_9) h_9 fun t36_2 h_10 =>
  pop P (pickS t30_1 (Value.bool true) t36_2) fun t37_1 =>
  condM t37_1
  (K (.tuple #[(Value.slice none 0 0), (Value.bool false)]) h_10)
  (pop P (binA .add 3 many10_1 (Value.int IntKind.i64 1)) fun t24_1 =>
  I_2 [t24_1, t28_1] h_10 ∧ μ_2 [t24_1, t28_1] h_10 < μ_2 [many10_1, at11_1] h_4))
  (eop P (Instr.buildSlice 29 1 #[(0, many10_1)]) h_4 fun t40_1 h_11 =>
  eop P (appS 29 29 29 out8_1 t40_1) h_11 fun t41_1 h_12 =>
  pop P (binA .add 3 t16_1 (Value.int IntKind.i64 1)) fun t42_1 =>
  I_1 [t41_1, t42_1] h_12 ∧ μ_1 [t41_1, t42_1] h_12 < μ_1 [out8_1, t16_1] h_3))
  (K (.tuple #[out8_1, (Value.bool true)]) h_3)
theorem e114 (g0_1 : Value) (sink1_1 : Value) (rotors2_1 : Value) (h : Heap) (K : Value → Heap → Prop) : wpA Tryz.prog 44 (anOf [(58, [8, 16]), (59802, [10, 11])]) (bodyOf Tryz.f114) 1 (fun A h => resA Tryz.prog A h K [.tmp 6, .tmp 7]) (fun _ _ _ => False) (fun A h => resA Tryz.prog A h K [.tmp 6, .tmp 7]) (aargs [g0_1, sink1_1, rotors2_1] 0) h = t114 Tryz.prog g0_1 sink1_1 rotors2_1 h K := by kernel_rfl
theorem c114 (g0_1 : Value) (sink1_1 : Value) (rotors2_1 : Value) (h : Heap) (K : Value → Heap → Prop) (H : t114 Tryz.prog g0_1 sink1_1 rotors2_1 h K) : callM Tryz.prog 114 #[g0_1, sink1_1, rotors2_1] h K :=
  callM_of_wpA mixed (fn := Tryz.f114) Tryz.func114 (c := bodyOf Tryz.f114) rfl (of_decide_eq_true (by kernel_rfl)) (anOf [(58, [8, 16]), (59802, [10, 11])]) 41 44 (by kernel_rfl) rfl [.tmp 6, .tmp 7] (by kernel_rfl) (args := [g0_1, sink1_1, rotors2_1]) (by rw [e114]; exact H)
def t115 (P : Program) (k0_1 : Value) (t1_1 : Value) (t2_1 : Value) (h : Heap) (K : Value → Heap → Prop) : Prop :=
  pop P (Instr.fieldAt 26 t1_1 0) fun t6_1 =>
  rop P (Instr.loadAt 24 t6_1) h fun t7_1 =>
  rop P (Instr.loadAt 3 t2_1) h fun t8_1 =>
  pop P (Instr.indexAt 24 t7_1 t8_1) fun t9_1 =>
  rop P (Instr.loadAt 29 t9_1) h fun t10_1 =>
  pop P (lenS 29 3 t10_1) fun t11_1 =>
  pop P (binA .sub 3 t11_1 (Value.int IntKind.i64 1)) fun t12_1 =>
  callM P 84 #[k0_1, (Value.int IntKind.i64 0), t12_1] h fun t13_1 h_1 =>
  pop P (Op.unary .not t13_1) fun t14_1 =>
  K t14_1 h_1
theorem e115 (k0_1 : Value) (t1_1 : Value) (t2_1 : Value) (h : Heap) (K : Value → Heap → Prop) : wpA Tryz.prog 15 (anOf []) (bodyOf Tryz.f115) 1 (fun A h => resA Tryz.prog A h K [.tmp 4]) (fun _ _ _ => False) (fun A h => resA Tryz.prog A h K [.tmp 4]) (aargs [k0_1, t1_1, t2_1] 0) h = t115 Tryz.prog k0_1 t1_1 t2_1 h K := by kernel_rfl
theorem c115 (k0_1 : Value) (t1_1 : Value) (t2_1 : Value) (h : Heap) (K : Value → Heap → Prop) (H : t115 Tryz.prog k0_1 t1_1 t2_1 h K) : callM Tryz.prog 115 #[k0_1, t1_1, t2_1] h K :=
  callM_of_wpA mixed (fn := Tryz.f115) Tryz.func115 (c := bodyOf Tryz.f115) rfl (of_decide_eq_true (by kernel_rfl)) (anOf []) 12 15 (by kernel_rfl) rfl [.tmp 4] (by kernel_rfl) (args := [k0_1, t1_1, t2_1]) (by rw [e115]; exact H)
def t116 (P : Program) (s0_1 : Value) (g1_1 : Value) (p2_1 : Value) (h : Heap) (K : Value → Heap → Prop) : Prop :=
  eop P (Instr.box 28 s0_1) h fun s3_1 h_1 =>
  eop P (Instr.box 26 g1_1) h_1 fun g4_1 h_2 =>
  eop P (Instr.buildSlice 29 0 #[]) h_2 fun t10_1 h_3 =>
  ∃ (I_1 : List Value → Heap → Prop) (μ_1 : List Value → Heap → Nat), I_1 [t10_1, p2_1] h_3 ∧
  ∀ (junk_1 : Nat → Value) (out7_1 : Value) (at8_1 : Value) (h_4 : Heap), I_1 [out7_1, at8_1] h_4 →
  pop P (Instr.fieldAt 28 s3_1 0) fun t12_1 =>
  rop P (Instr.loadAt 24 t12_1) h_4 fun t13_1 =>
  pop P (Instr.indexAt 24 t13_1 at8_1) fun t15_1 =>
  rop P (Instr.loadAt 29 t15_1) h_4 fun t16_1 =>
  pop P (lenS 29 3 t16_1) fun t17_1 =>
  pop P (binE .eql 3 (.tmp 17) (.const (Value.int IntKind.i64 0)) t17_1 (Value.int IntKind.i64 0)) fun t18_1 =>
  guardM (asG t18_1 false) false (fun k_1 => k_1 out7_1 h_4) h_4 fun t20_1 h_5 =>
  guardM (asG t18_1 false) false (fun k_2 => pop P (lenS 29 3 t20_1) fun t21_1 =>
  k_2 t21_1 h_5) h_5 fun t21_2 h_6 =>
  guardM (asG t18_1 false) false (fun k_3 => pop P (Instr.fieldAt 26 g4_1 0) fun t22_1 =>
  k_3 t22_1 h_6) h_6 fun t22_2 h_7 =>
  guardM (asG t18_1 false) false (fun k_4 => rop P (Instr.loadAt 24 t22_2) h_7 fun t23_1 =>
  k_4 t23_1 h_7) h_7 fun t23_2 h_8 =>
  guardM (asG t18_1 false) false (fun k_5 => pop P (lenS 24 3 t23_2) fun t24_1 =>
  k_5 t24_1 h_8) h_8 fun t24_2 h_9 =>
  guardM (asG t18_1 false) false (fun k_6 => pop P (binA .gtr 3 t21_2 t24_2) fun t25_1 =>
  k_6 t25_1 h_9) h_9 fun t25_2 h_10 =>
  pop P (pickS t18_1 (Value.bool true) t25_2) fun t26_1 =>
  condM t26_1
  (K (Value.slice none 0 0) h_10)
  (eop P (Instr.buildSlice 29 1 #[(0, at8_1)]) h_10 fun t29_1 h_11 =>
  eop P (appS 29 29 29 out7_1 t29_1) h_11 fun t30_1 h_12 =>
  pop P (Instr.fieldAt 26 g4_1 0) fun t31_1 =>
  rop P (Instr.loadAt 24 t31_1) h_12 fun t32_1 =>
  pop P (Instr.indexAt 24 t32_1 at8_1) fun t34_1 =>
  rop P (Instr.loadAt 29 t34_1) h_12 fun t35_1 =>
  pop P (Instr.fieldAt 28 s3_1 0) fun t36_1 =>
  rop P (Instr.loadAt 24 t36_1) h_12 fun t37_1 =>
  pop P (Instr.indexAt 24 t37_1 at8_1) fun t39_1 =>
  rop P (Instr.loadAt 29 t39_1) h_12 fun t40_1 =>
  pop P (Instr.indexAt 29 t40_1 (Value.int IntKind.i64 0)) fun t41_1 =>
  rop P (Instr.loadAt 3 t41_1) h_12 fun t42_1 =>
  pop P (Instr.indexAt 29 t35_1 t42_1) fun t43_1 =>
  rop P (Instr.loadAt 3 t43_1) h_12 fun t44_1 =>
  pop P (binE .eql 3 (.tmp 45) (.tmp 46) t44_1 p2_1) fun t47_1 =>
  condM t47_1
  (callM P 143 #[t30_1] h_12 fun t50_1 h_13 =>
  callM P 127 #[t30_1, t50_1] h_13 fun t51_1 h_14 =>
  pop P (Instr.sliceAt 29 t30_1 (some t51_1) none none) fun t54_1 =>
  pop P (Instr.sliceAt 29 t30_1 none (some t51_1) none) fun t57_1 =>
  eop P (Instr.buildSlice 24 2 #[(0, t54_1), (1, t57_1)]) h_14 fun t58_1 h_15 =>
  callM P 144 #[t58_1] h_15 fun t59_1 h_16 =>
  K t59_1 h_16)
  (I_1 [t30_1, t44_1] h_12 ∧ μ_1 [t30_1, t44_1] h_12 < μ_1 [out7_1, at8_1] h_4))
theorem e116 (s0_1 : Value) (g1_1 : Value) (p2_1 : Value) (h : Heap) (K : Value → Heap → Prop) : wpA Tryz.prog 60 (anOf [(58, [7, 8])]) (bodyOf Tryz.f116) 1 (fun A h => resA Tryz.prog A h K [.tmp 6]) (fun _ _ _ => False) (fun A h => resA Tryz.prog A h K [.tmp 6]) (aargs [s0_1, g1_1, p2_1] 0) h = t116 Tryz.prog s0_1 g1_1 p2_1 h K := by kernel_rfl
theorem c116 (s0_1 : Value) (g1_1 : Value) (p2_1 : Value) (h : Heap) (K : Value → Heap → Prop) (H : t116 Tryz.prog s0_1 g1_1 p2_1 h K) : callM Tryz.prog 116 #[s0_1, g1_1, p2_1] h K :=
  callM_of_wpA mixed (fn := Tryz.f116) Tryz.func116 (c := bodyOf Tryz.f116) rfl (of_decide_eq_true (by kernel_rfl)) (anOf [(58, [7, 8])]) 57 60 (by kernel_rfl) rfl [.tmp 6] (by kernel_rfl) (args := [s0_1, g1_1, p2_1]) (by rw [e116]; exact H)
def t117 (P : Program) (q0_1 : Value) (t1_1 : Value) (h : Heap) (K : Value → Heap → Prop) : Prop :=
  rop P (Instr.loadAt 3 t1_1) h fun t5_1 =>
  pop P (binA .sub 3 t5_1 (Value.int IntKind.i64 1)) fun t6_1 =>
  callM P 84 #[q0_1, (Value.int IntKind.i64 0), t6_1] h fun t7_1 h_1 =>
  pop P (Op.unary .not t7_1) fun t8_1 =>
  K t8_1 h_1
theorem e117 (q0_1 : Value) (t1_1 : Value) (h : Heap) (K : Value → Heap → Prop) : wpA Tryz.prog 9 (anOf []) (bodyOf Tryz.f117) 1 (fun A h => resA Tryz.prog A h K [.tmp 3]) (fun _ _ _ => False) (fun A h => resA Tryz.prog A h K [.tmp 3]) (aargs [q0_1, t1_1] 0) h = t117 Tryz.prog q0_1 t1_1 h K := by kernel_rfl
theorem c117 (q0_1 : Value) (t1_1 : Value) (h : Heap) (K : Value → Heap → Prop) (H : t117 Tryz.prog q0_1 t1_1 h K) : callM Tryz.prog 117 #[q0_1, t1_1] h K :=
  callM_of_wpA mixed (fn := Tryz.f117) Tryz.func117 (c := bodyOf Tryz.f117) rfl (of_decide_eq_true (by kernel_rfl)) (anOf []) 7 9 (by kernel_rfl) rfl [.tmp 3] (by kernel_rfl) (args := [q0_1, t1_1]) (by rw [e117]; exact H)
def t118 (P : Program) (seq0_1 : Value) (h : Heap) (K : Value → Heap → Prop) : Prop :=
  callM P 145 #[seq0_1] h fun t5_1 h_1 =>
  callM P 146 #[t5_1] h_1 fun t7_1 h_2 =>
  K t5_1 h_2
theorem e118 (seq0_1 : Value) (h : Heap) (K : Value → Heap → Prop) : wpA Tryz.prog 9 (anOf []) (bodyOf Tryz.f118) 1 (fun A h => resA Tryz.prog A h K [.tmp 2]) (fun _ _ _ => False) (fun A h => resA Tryz.prog A h K [.tmp 2]) (aargs [seq0_1] 0) h = t118 Tryz.prog seq0_1 h K := by kernel_rfl
theorem c118 (seq0_1 : Value) (h : Heap) (K : Value → Heap → Prop) (H : t118 Tryz.prog seq0_1 h K) : callM Tryz.prog 118 #[seq0_1] h K :=
  callM_of_wpA mixed (fn := Tryz.f118) Tryz.func118 (c := bodyOf Tryz.f118) rfl (of_decide_eq_true (by kernel_rfl)) (anOf []) 8 9 (by kernel_rfl) rfl [.tmp 2] (by kernel_rfl) (args := [seq0_1]) (by rw [e118]; exact H)
def t119 (P : Program) (s0_1 : Value) (h : Heap) (K : Value → Heap → Prop) : Prop :=
  eop P (Instr.box 29 s0_1) h fun s1_1 h_1 =>
  pop P (Instr.makeFunc (Fn.func 147) #[] #[s1_1]) fun t3_1 =>
  K t3_1 h_1
theorem e119 (s0_1 : Value) (h : Heap) (K : Value → Heap → Prop) : wpA Tryz.prog 4 (anOf []) (bodyOf Tryz.f119) 1 (fun A h => resA Tryz.prog A h K [.tmp 2]) (fun _ _ _ => False) (fun A h => resA Tryz.prog A h K [.tmp 2]) (aargs [s0_1] 0) h = t119 Tryz.prog s0_1 h K := by kernel_rfl
theorem c119 (s0_1 : Value) (h : Heap) (K : Value → Heap → Prop) (H : t119 Tryz.prog s0_1 h K) : callM Tryz.prog 119 #[s0_1] h K :=
  callM_of_wpA mixed (fn := Tryz.f119) Tryz.func119 (c := bodyOf Tryz.f119) rfl (of_decide_eq_true (by kernel_rfl)) (anOf []) 3 4 (by kernel_rfl) rfl [.tmp 2] (by kernel_rfl) (args := [s0_1]) (by rw [e119]; exact H)
def t120 (P : Program) (g0_1 : Value) (s1_1 : Value) (p2_1 : Value) (h : Heap) (K : Value → Heap → Prop) : Prop :=
  eop P (Instr.box 26 g0_1) h fun g3_1 h_1 =>
  eop P (Instr.box 28 s1_1) h_1 fun s4_1 h_2 =>
  pop P (Instr.fieldAt 28 s4_1 0) fun t7_1 =>
  rop P (Instr.loadAt 24 t7_1) h_2 fun t8_1 =>
  pop P (Instr.indexAt 24 t8_1 p2_1) fun t10_1 =>
  rop P (Instr.loadAt 29 t10_1) h_2 fun t11_1 =>
  pop P (lenS 29 3 t11_1) fun t12_1 =>
  pop P (binE .eql 3 (.tmp 12) (.const (Value.int IntKind.i64 0)) t12_1 (Value.int IntKind.i64 0)) fun t13_1 =>
  condM t13_1
  (K (Value.int IntKind.i64 (-1)) h_2)
  (pop P (Instr.fieldAt 26 g3_1 0) fun t14_1 =>
  rop P (Instr.loadAt 24 t14_1) h_2 fun t15_1 =>
  pop P (Instr.indexAt 24 t15_1 p2_1) fun t17_1 =>
  rop P (Instr.loadAt 29 t17_1) h_2 fun t18_1 =>
  pop P (Instr.fieldAt 28 s4_1 0) fun t19_1 =>
  rop P (Instr.loadAt 24 t19_1) h_2 fun t20_1 =>
  pop P (Instr.indexAt 24 t20_1 p2_1) fun t22_1 =>
  rop P (Instr.loadAt 29 t22_1) h_2 fun t23_1 =>
  pop P (Instr.indexAt 29 t23_1 (Value.int IntKind.i64 0)) fun t24_1 =>
  rop P (Instr.loadAt 3 t24_1) h_2 fun t25_1 =>
  pop P (Instr.indexAt 29 t18_1 t25_1) fun t26_1 =>
  rop P (Instr.loadAt 3 t26_1) h_2 fun t27_1 =>
  K t27_1 h_2)
theorem e120 (g0_1 : Value) (s1_1 : Value) (p2_1 : Value) (h : Heap) (K : Value → Heap → Prop) : wpA Tryz.prog 28 (anOf []) (bodyOf Tryz.f120) 1 (fun A h => resA Tryz.prog A h K [.tmp 6]) (fun _ _ _ => False) (fun A h => resA Tryz.prog A h K [.tmp 6]) (aargs [g0_1, s1_1, p2_1] 0) h = t120 Tryz.prog g0_1 s1_1 p2_1 h K := by kernel_rfl
theorem c120 (g0_1 : Value) (s1_1 : Value) (p2_1 : Value) (h : Heap) (K : Value → Heap → Prop) (H : t120 Tryz.prog g0_1 s1_1 p2_1 h K) : callM Tryz.prog 120 #[g0_1, s1_1, p2_1] h K :=
  callM_of_wpA mixed (fn := Tryz.f120) Tryz.func120 (c := bodyOf Tryz.f120) rfl (of_decide_eq_true (by kernel_rfl)) (anOf []) 25 28 (by kernel_rfl) rfl [.tmp 6] (by kernel_rfl) (args := [g0_1, s1_1, p2_1]) (by rw [e120]; exact H)
def t121 (P : Program) (list0_1 : Value) (x1_1 : Value) (h : Heap) (K : Value → Heap → Prop) : Prop :=
  pop P (lenS 29 3 list0_1) fun t8_1 =>
  ∃ (I_1 : List Value → Heap → Prop) (μ_1 : List Value → Heap → Nat), I_1 [(Value.int IntKind.i64 0)] h ∧
  ∀ (junk_1 : Nat → Value) (t9_1 : Value) (h_1 : Heap), I_1 [t9_1] h_1 →
  pop P (binA .lss 3 t9_1 t8_1) fun t10_1 =>
  condM t10_1
  (pop P (Instr.indexAt 29 list0_1 t9_1) fun t12_1 =>
  rop P (Instr.loadAt 3 t12_1) h_1 fun t13_1 =>
  pop P (binE .eql 3 (.tmp 14) (.tmp 15) t13_1 x1_1) fun t16_1 =>
  condM t16_1
  (K t9_1 h_1)
  (pop P (binA .add 3 t9_1 (Value.int IntKind.i64 1)) fun t18_1 =>
  I_1 [t18_1] h_1 ∧ μ_1 [t18_1] h_1 < μ_1 [t9_1] h_1))
  (K (Value.int IntKind.i64 (-1)) h_1)
theorem e121 (list0_1 : Value) (x1_1 : Value) (h : Heap) (K : Value → Heap → Prop) : wpA Tryz.prog 19 (anOf [(26, [9])]) (bodyOf Tryz.f121) 1 (fun A h => resA Tryz.prog A h K [.tmp 4]) (fun _ _ _ => False) (fun A h => resA Tryz.prog A h K [.tmp 4]) (aargs [list0_1, x1_1] 0) h = t121 Tryz.prog list0_1 x1_1 h K := by kernel_rfl
theorem c121 (list0_1 : Value) (x1_1 : Value) (h : Heap) (K : Value → Heap → Prop) (H : t121 Tryz.prog list0_1 x1_1 h K) : callM Tryz.prog 121 #[list0_1, x1_1] h K :=
  callM_of_wpA mixed (fn := Tryz.f121) Tryz.func121 (c := bodyOf Tryz.f121) rfl (of_decide_eq_true (by kernel_rfl)) (anOf [(26, [9])]) 17 19 (by kernel_rfl) rfl [.tmp 4] (by kernel_rfl) (args := [list0_1, x1_1]) (by rw [e121]; exact H)
def t126 (P : Program) (g0_1 : Value) (rotors1_1 : Value) (p2_1 : Value) (h : Heap) (K : Value → Heap → Prop) : Prop :=
  eop P (Instr.box 26 g0_1) h fun g3_1 h_1 =>
  pop P (Instr.fieldAt 26 g3_1 0) fun t7_1 =>
  rop P (Instr.loadAt 24 t7_1) h_1 fun t8_1 =>
  pop P (Instr.indexAt 24 t8_1 p2_1) fun t10_1 =>
  rop P (Instr.loadAt 29 t10_1) h_1 fun t11_1 =>
  pop P (lenS 29 3 t11_1) fun t12_1 =>
  pop P (binE .eql 3 (.tmp 12) (.const (Value.int IntKind.i64 0)) t12_1 (Value.int IntKind.i64 0)) fun t13_1 =>
  condM t13_1
  (K (Value.int IntKind.i64 (-1)) h_1)
  (pop P (Instr.fieldAt 26 g3_1 0) fun t14_1 =>
  rop P (Instr.loadAt 24 t14_1) h_1 fun t15_1 =>
  pop P (Instr.indexAt 24 t15_1 p2_1) fun t17_1 =>
  rop P (Instr.loadAt 29 t17_1) h_1 fun t18_1 =>
  pop P (Instr.indexAt 29 rotors1_1 p2_1) fun t21_1 =>
  rop P (Instr.loadAt 3 t21_1) h_1 fun t22_1 =>
  pop P (Instr.indexAt 29 t18_1 t22_1) fun t23_1 =>
  rop P (Instr.loadAt 3 t23_1) h_1 fun t24_1 =>
  K t24_1 h_1)
theorem e126 (g0_1 : Value) (rotors1_1 : Value) (p2_1 : Value) (h : Heap) (K : Value → Heap → Prop) : wpA Tryz.prog 25 (anOf []) (bodyOf Tryz.f126) 1 (fun A h => resA Tryz.prog A h K [.tmp 6]) (fun _ _ _ => False) (fun A h => resA Tryz.prog A h K [.tmp 6]) (aargs [g0_1, rotors1_1, p2_1] 0) h = t126 Tryz.prog g0_1 rotors1_1 p2_1 h K := by kernel_rfl
theorem c126 (g0_1 : Value) (rotors1_1 : Value) (p2_1 : Value) (h : Heap) (K : Value → Heap → Prop) (H : t126 Tryz.prog g0_1 rotors1_1 p2_1 h K) : callM Tryz.prog 126 #[g0_1, rotors1_1, p2_1] h K :=
  callM_of_wpA mixed (fn := Tryz.f126) Tryz.func126 (c := bodyOf Tryz.f126) rfl (of_decide_eq_true (by kernel_rfl)) (anOf []) 22 25 (by kernel_rfl) rfl [.tmp 6] (by kernel_rfl) (args := [g0_1, rotors1_1, p2_1]) (by rw [e126]; exact H)
def t127 (P : Program) (s0_1 : Value) (v1_1 : Value) (h : Heap) (K : Value → Heap → Prop) : Prop :=
  pop P (lenS 29 3 s0_1) fun t7_1 =>
  ∃ (I_1 : List Value → Heap → Prop) (μ_1 : List Value → Heap → Nat), I_1 [(Value.int IntKind.i64 0)] h ∧
  ∀ (junk_1 : Nat → Value) (t8_1 : Value) (h_1 : Heap), I_1 [t8_1] h_1 →
  pop P (binA .lss 3 t8_1 t7_1) fun t9_1 =>
  condM t9_1
  (pop P (Instr.indexAt 29 s0_1 t8_1) fun t14_1 =>
  rop P (Instr.loadAt 3 t14_1) h_1 fun t15_1 =>
  pop P (binE .eql 3 (.tmp 11) (.tmp 15) v1_1 t15_1) fun t16_1 =>
  condM t16_1
  (K t8_1 h_1)
  (pop P (binA .add 3 t8_1 (Value.int IntKind.i64 1)) fun t18_1 =>
  I_1 [t18_1] h_1 ∧ μ_1 [t18_1] h_1 < μ_1 [t8_1] h_1))
  (K (Value.int IntKind.i64 (-1)) h_1)
theorem e127 (s0_1 : Value) (v1_1 : Value) (h : Heap) (K : Value → Heap → Prop) : wpA Tryz.prog 19 (anOf [(26, [8])]) (bodyOf Tryz.f127) 1 (fun A h => resA Tryz.prog A h K [.tmp 4]) (fun _ _ _ => False) (fun A h => resA Tryz.prog A h K [.tmp 4]) (aargs [s0_1, v1_1] 0) h = t127 Tryz.prog s0_1 v1_1 h K := by kernel_rfl
theorem c127 (s0_1 : Value) (v1_1 : Value) (h : Heap) (K : Value → Heap → Prop) (H : t127 Tryz.prog s0_1 v1_1 h K) : callM Tryz.prog 127 #[s0_1, v1_1] h K :=
  callM_of_wpA mixed (fn := Tryz.f127) Tryz.func127 (c := bodyOf Tryz.f127) rfl (of_decide_eq_true (by kernel_rfl)) (anOf [(26, [8])]) 17 19 (by kernel_rfl) rfl [.tmp 4] (by kernel_rfl) (args := [s0_1, v1_1]) (by rw [e127]; exact H)
def t131 (P : Program) (c0_1 : Value) (h : Heap) (K : Value → Heap → Prop) : Prop :=
  eop P (Instr.alloc 26 true (.tuple #[])) h fun t2_1 h_1 =>
  callM P 149 #[c0_1, (Value.int IntKind.i64 6)] h_1 fun t5_1 h_2 =>
  eop P (Instr.alloc 26 true (.tuple #[])) h_2 fun g3_1 h_3 =>
  uop P (Instr.storeAt 26 g3_1 t5_1) h_3 fun u_1 h_4 =>
  callM P 52 #[c0_1, (Value.int IntKind.i64 16)] h_4 fun t7_1 h_5 =>
  pop P (binE .eql 3 (.tmp 7) (.const (Value.int IntKind.i64 0)) t7_1 (Value.int IntKind.i64 0)) fun t9_1 =>
  condM t9_1
  (pop P (Instr.fieldAt 26 g3_1 0) fun t10_1 =>
  rop P (Instr.loadAt 24 t10_1) h_5 fun t11_1 =>
  pop P (Instr.fieldAt 26 g3_1 0) fun t12_1 =>
  rop P (Instr.loadAt 24 t12_1) h_5 fun t13_1 =>
  pop P (Instr.indexAt 24 t13_1 (Value.int IntKind.i64 0)) fun t14_1 =>
  rop P (Instr.loadAt 29 t14_1) h_5 fun t15_1 =>
  pop P (Instr.fieldAt 26 g3_1 0) fun t17_1 =>
  rop P (Instr.loadAt 24 t17_1) h_5 fun t18_1 =>
  pop P (lenS 24 3 t18_1) fun t19_1 =>
  eop P (Instr.buildSlice 29 3 #[(0, (Value.int IntKind.i64 (-1))), (1, t19_1), (2, (Value.int IntKind.i64 4611686018427387904))]) h_5 fun t20_1 h_6 =>
  (∀ w : World, w.heap = h_6 → (Instr.loadAt 24 t17_1).run P w = .ok t18_1 w) ∧
  (∀ w : World, w.heap = h_6 → (Instr.loadAt 29 t14_1).run P w = .ok t15_1 w) ∧
  (∀ w : World, w.heap = h_6 → (Instr.loadAt 24 t12_1).run P w = .ok t13_1 w) ∧
  (∀ w : World, w.heap = h_6 → (Instr.loadAt 24 t10_1).run P w = .ok t11_1 w) ∧
  callM P 53 #[c0_1, t20_1] h_6 fun t21_1 h_7 =>
  (∀ w : World, w.heap = h_7 → (Instr.loadAt 24 t17_1).run P w = .ok t18_1 w) ∧
  (∀ w : World, w.heap = h_7 → (Instr.loadAt 29 t14_1).run P w = .ok t15_1 w) ∧
  (∀ w : World, w.heap = h_7 → (Instr.loadAt 24 t12_1).run P w = .ok t13_1 w) ∧
  (∀ w : World, w.heap = h_7 → (Instr.loadAt 24 t10_1).run P w = .ok t11_1 w) ∧
  eop P (Instr.buildSlice 29 1 #[(0, t21_1)]) h_7 fun t22_1 h_8 =>
  (∀ w : World, w.heap = h_8 → (Instr.loadAt 24 t17_1).run P w = .ok t18_1 w) ∧
  (∀ w : World, w.heap = h_8 → (Instr.loadAt 29 t14_1).run P w = .ok t15_1 w) ∧
  (∀ w : World, w.heap = h_8 → (Instr.loadAt 24 t12_1).run P w = .ok t13_1 w) ∧
  (∀ w : World, w.heap = h_8 → (Instr.loadAt 24 t10_1).run P w = .ok t11_1 w) ∧
  eop P (appS 29 29 29 t15_1 t22_1) h_8 fun t23_1 h_9 =>
  (∀ w : World, w.heap = h_9 → (Instr.loadAt 24 t17_1).run P w = .ok t18_1 w) ∧
  (∀ w : World, w.heap = h_9 → (Instr.loadAt 24 t12_1).run P w = .ok t13_1 w) ∧
  (∀ w : World, w.heap = h_9 → (Instr.loadAt 24 t10_1).run P w = .ok t11_1 w) ∧
  pop P (Instr.indexAt 24 t11_1 (Value.int IntKind.i64 0)) fun t24_1 =>
  uop P (Instr.storeAt 29 t24_1 t23_1) h_9 fun u_2 h_10 =>
  rop P (Instr.loadAt 26 g3_1) h_10 fun t52_1 =>
  uop P (Instr.storeAt 26 t2_1 t52_1) h_10 fun u_3 h_11 =>
  rop P (Instr.loadAt 26 t2_1) h_11 fun r_1 =>
  K r_1 h_11)
  (pop P (binE .eql 3 (.tmp 7) (.const (Value.int IntKind.i64 1)) t7_1 (Value.int IntKind.i64 1)) fun t26_1 =>
  condM t26_1
  (pop P (Instr.fieldAt 26 g3_1 0) fun t27_1 =>
  rop P (Instr.loadAt 24 t27_1) h_5 fun t28_1 =>
  callM P 52 #[c0_1, (Value.int IntKind.i64 2)] h_5 fun t30_1 h_12 =>
  (∀ w : World, w.heap = h_12 → (Instr.loadAt 24 t27_1).run P w = .ok t28_1 w) ∧
  pop P (binA .add 3 (Value.int IntKind.i64 5) t30_1) fun t31_1 =>
  eop P (Instr.makeSlice 29 t31_1 t31_1) h_12 fun t32_1 h_13 =>
  (∀ w : World, w.heap = h_13 → (Instr.loadAt 24 t27_1).run P w = .ok t28_1 w) ∧
  pop P (Instr.indexAt 24 t28_1 (Value.int IntKind.i64 0)) fun t33_1 =>
  uop P (Instr.storeAt 29 t33_1 t32_1) h_13 fun u_4 h_14 =>
  rop P (Instr.loadAt 26 g3_1) h_14 fun t52_2 =>
  uop P (Instr.storeAt 26 t2_1 t52_2) h_14 fun u_5 h_15 =>
  rop P (Instr.loadAt 26 t2_1) h_15 fun r_2 =>
  K r_2 h_15)
  (pop P (binE .eql 3 (.tmp 7) (.const (Value.int IntKind.i64 2)) t7_1 (Value.int IntKind.i64 2)) fun t35_1 =>
  condM t35_1
  (∃ (I_1 : List Value → Heap → Prop) (μ_1 : List Value → Heap → Nat), I_1 [] h_5 ∧
  ∀ (junk_1 : Nat → Value) (h_16 : Heap), I_1 [] h_16 →
  pop P (Instr.fieldAt 26 g3_1 0) fun t36_1 =>
  rop P (Instr.loadAt 24 t36_1) h_16 fun t37_1 =>
  pop P (lenS 24 3 t37_1) fun t38_1 =>
  callM P 52 #[c0_1, (Value.int IntKind.i64 2)] h_16 fun t40_1 h_17 =>
  (∀ w : World, w.heap = h_17 → (Instr.loadAt 24 t36_1).run P w = .ok t37_1 w) ∧
  pop P (binA .add 3 (Value.int IntKind.i64 8) t40_1) fun t41_1 =>
  pop P (binA .lss 3 t38_1 t41_1) fun t42_1 =>
  condM t42_1
  (pop P (Instr.fieldAt 26 g3_1 0) fun t43_1 =>
  rop P (Instr.loadAt 24 t43_1) h_17 fun t44_1 =>
  eop P (Instr.buildSlice 29 1 #[(0, (Value.int IntKind.i64 0))]) h_17 fun t45_1 h_18 =>
  eop P (Instr.buildSlice 24 1 #[(0, t45_1)]) h_18 fun t46_1 h_19 =>
  eop P (appS 24 24 24 t44_1 t46_1) h_19 fun t47_1 h_20 =>
  pop P (Instr.fieldAt 26 g3_1 0) fun t48_1 =>
  uop P (Instr.storeAt 24 t48_1 t47_1) h_20 fun u_6 h_21 =>
  I_1 [] h_21 ∧ μ_1 [] h_21 < μ_1 [] h_16)
  (rop P (Instr.loadAt 26 g3_1) h_17 fun t52_3 =>
  uop P (Instr.storeAt 26 t2_1 t52_3) h_17 fun u_7 h_22 =>
  rop P (Instr.loadAt 26 t2_1) h_22 fun r_3 =>
  K r_3 h_22))
  (pop P (binE .eql 3 (.tmp 7) (.const (Value.int IntKind.i64 3)) t7_1 (Value.int IntKind.i64 3)) fun t50_1 =>
  condM t50_1
  (pop P (Instr.build 26 #[]) fun t51_1 =>
  uop P (Instr.storeAt 26 g3_1 t51_1) h_5 fun u_8 h_23 =>
  rop P (Instr.loadAt 26 g3_1) h_23 fun t52_4 =>
  uop P (Instr.storeAt 26 t2_1 t52_4) h_23 fun u_9 h_24 =>
  rop P (Instr.loadAt 26 t2_1) h_24 fun r_4 =>
  K r_4 h_24)
  (rop P (Instr.loadAt 26 g3_1) h_5 fun t52_5 =>
  uop P (Instr.storeAt 26 t2_1 t52_5) h_5 fun u_10 h_25 =>
  rop P (Instr.loadAt 26 t2_1) h_25 fun r_5 =>
  K r_5 h_25))))
theorem e131 (c0_1 : Value) (h : Heap) (K : Value → Heap → Prop) : wpA Tryz.prog 53 (anOf [(7548, [])]) (bodyOf Tryz.f131) 1 (fun A h => resA Tryz.prog A h K [.cell 2 26]) (fun _ _ _ => False) (fun A h => resA Tryz.prog A h K [.cell 2 26]) (aargs [c0_1] 0) h = t131 Tryz.prog c0_1 h K := by kernel_rfl
theorem c131 (c0_1 : Value) (h : Heap) (K : Value → Heap → Prop) (H : t131 Tryz.prog c0_1 h K) : callM Tryz.prog 131 #[c0_1] h K :=
  callM_of_wpA mixed (fn := Tryz.f131) Tryz.func131 (c := bodyOf Tryz.f131) rfl (of_decide_eq_true (by kernel_rfl)) (anOf [(7548, [])]) 52 53 (by kernel_rfl) rfl [.cell 2 26] (by kernel_rfl) (args := [c0_1]) (by rw [e131]; exact H)
def t134 (P : Program) (p0_1 : Value) (t1_1 : Value) (h : Heap) (K : Value → Heap → Prop) : Prop :=
  pop P (Instr.fieldAt 26 t1_1 0) fun t5_1 =>
  rop P (Instr.loadAt 24 t5_1) h fun t6_1 =>
  pop P (lenS 24 3 t6_1) fun t7_1 =>
  pop P (binA .sub 3 t7_1 (Value.int IntKind.i64 1)) fun t8_1 =>
  callM P 84 #[p0_1, (Value.int IntKind.i64 0), t8_1] h fun t9_1 h_1 =>
  pop P (Op.unary .not t9_1) fun t10_1 =>
  K t10_1 h_1
theorem e134 (p0_1 : Value) (t1_1 : Value) (h : Heap) (K : Value → Heap → Prop) : wpA Tryz.prog 11 (anOf []) (bodyOf Tryz.f134) 1 (fun A h => resA Tryz.prog A h K [.tmp 3]) (fun _ _ _ => False) (fun A h => resA Tryz.prog A h K [.tmp 3]) (aargs [p0_1, t1_1] 0) h = t134 Tryz.prog p0_1 t1_1 h K := by kernel_rfl
theorem c134 (p0_1 : Value) (t1_1 : Value) (h : Heap) (K : Value → Heap → Prop) (H : t134 Tryz.prog p0_1 t1_1 h K) : callM Tryz.prog 134 #[p0_1, t1_1] h K :=
  callM_of_wpA mixed (fn := Tryz.f134) Tryz.func134 (c := bodyOf Tryz.f134) rfl (of_decide_eq_true (by kernel_rfl)) (anOf []) 9 11 (by kernel_rfl) rfl [.tmp 3] (by kernel_rfl) (args := [p0_1, t1_1]) (by rw [e134]; exact H)
def t139 (P : Program) (c0_1 : Value) (h : Heap) (K : Value → Heap → Prop) : Prop :=
  eop P (Instr.alloc 26 true (.tuple #[])) h fun t2_1 h_1 =>
  callM P 67 #[c0_1, (Value.int IntKind.i64 6)] h_1 fun t10_1 h_2 =>
  condM t10_1
  (callM P 131 #[c0_1] h_2 fun t12_1 h_3 =>
  uop P (Instr.storeAt 26 t2_1 t12_1) h_3 fun u_1 h_4 =>
  rop P (Instr.loadAt 26 t2_1) h_4 fun r_1 =>
  K r_1 h_4)
  (callM P 52 #[c0_1, (Value.int IntKind.i64 5)] h_2 fun t14_1 h_5 =>
  pop P (binA .add 3 (Value.int IntKind.i64 1) t14_1) fun t15_1 =>
  callM P 67 #[c0_1, (Value.int IntKind.i64 2)] h_5 fun t18_1 h_6 =>
  callM P 153 #[t15_1, t18_1] h_6 fun t19_1 h_7 =>
  eop P (Instr.alloc 26 true (.tuple #[])) h_7 fun g4_1 h_8 =>
  uop P (Instr.storeAt 26 g4_1 t19_1) h_8 fun u_2 h_9 =>
  callM P 52 #[c0_1, (Value.int IntKind.i64 3)] h_9 fun t21_1 h_10 =>
  ∃ (I_1 : List Value → Heap → Prop) (μ_1 : List Value → Heap → Nat), I_1 [t21_1] h_10 ∧
  ∀ (junk_1 : Nat → Value) (k5_1 : Value) (h_11 : Heap), I_1 [k5_1] h_11 →
  pop P (binA .gtr 3 k5_1 (Value.int IntKind.i64 0)) fun t23_1 =>
  condM t23_1
  (callM P 66 #[c0_1, t15_1] h_11 fun t28_1 h_12 =>
  callM P 52 #[c0_1, t15_1] h_12 fun t31_1 h_13 =>
  pop P (binA .add 3 (Value.int IntKind.i64 1) t31_1) fun t32_1 =>
  ∃ (I_2 : List Value → Heap → Prop) (μ_2 : List Value → Heap → Nat), I_2 [(Value.int IntKind.i64 0)] h_13 ∧
  ∀ (junk_2 : Nat → Value) (i8_1 : Value) (h_14 : Heap), I_2 [i8_1] h_14 →
  pop P (binA .lss 3 i8_1 t32_1) fun t35_1 =>
  condM t35_1
  (pop P (Instr.fieldAt 26 g4_1 0) fun t38_1 =>
  rop P (Instr.loadAt 24 t38_1) h_14 fun t39_1 =>
  pop P (Instr.indexAt 29 t28_1 i8_1) fun t42_1 =>
  rop P (Instr.loadAt 3 t42_1) h_14 fun t43_1 =>
  pop P (Instr.fieldAt 26 g4_1 0) fun t44_1 =>
  rop P (Instr.loadAt 24 t44_1) h_14 fun t45_1 =>
  pop P (Instr.indexAt 29 t28_1 i8_1) fun t48_1 =>
  rop P (Instr.loadAt 3 t48_1) h_14 fun t49_1 =>
  pop P (Instr.indexAt 24 t45_1 t49_1) fun t50_1 =>
  rop P (Instr.loadAt 29 t50_1) h_14 fun t51_1 =>
  pop P (binA .add 3 i8_1 (Value.int IntKind.i64 1)) fun t54_1 =>
  pop P (binA .rem 3 t54_1 t32_1) fun t56_1 =>
  pop P (Instr.indexAt 29 t28_1 t56_1) fun t57_1 =>
  rop P (Instr.loadAt 3 t57_1) h_14 fun t58_1 =>
  eop P (Instr.buildSlice 29 1 #[(0, t58_1)]) h_14 fun t59_1 h_15 =>
  (∀ w : World, w.heap = h_15 → (Instr.loadAt 29 t50_1).run P w = .ok t51_1 w) ∧
  (∀ w : World, w.heap = h_15 → (Instr.loadAt 3 t48_1).run P w = .ok t49_1 w) ∧
  (∀ w : World, w.heap = h_15 → (Instr.loadAt 24 t44_1).run P w = .ok t45_1 w) ∧
  (∀ w : World, w.heap = h_15 → (Instr.loadAt 3 t42_1).run P w = .ok t43_1 w) ∧
  (∀ w : World, w.heap = h_15 → (Instr.loadAt 24 t38_1).run P w = .ok t39_1 w) ∧
  eop P (appS 29 29 29 t51_1 t59_1) h_15 fun t60_1 h_16 =>
  (∀ w : World, w.heap = h_16 → (Instr.loadAt 3 t48_1).run P w = .ok t49_1 w) ∧
  (∀ w : World, w.heap = h_16 → (Instr.loadAt 24 t44_1).run P w = .ok t45_1 w) ∧
  (∀ w : World, w.heap = h_16 → (Instr.loadAt 3 t42_1).run P w = .ok t43_1 w) ∧
  (∀ w : World, w.heap = h_16 → (Instr.loadAt 24 t38_1).run P w = .ok t39_1 w) ∧
  pop P (Instr.indexAt 24 t39_1 t43_1) fun t61_1 =>
  uop P (Instr.storeAt 29 t61_1 t60_1) h_16 fun u_3 h_17 =>
  pop P (binA .add 3 i8_1 (Value.int IntKind.i64 1)) fun t37_1 =>
  I_2 [t37_1] h_17 ∧ μ_2 [t37_1] h_17 < μ_2 [i8_1] h_14)
  (pop P (binA .sub 3 k5_1 (Value.int IntKind.i64 1)) fun t25_1 =>
  I_1 [t25_1] h_14 ∧ μ_1 [t25_1] h_14 < μ_1 [k5_1] h_11))
  (rop P (Instr.loadAt 26 g4_1) h_11 fun t62_1 =>
  uop P (Instr.storeAt 26 t2_1 t62_1) h_11 fun u_4 h_18 =>
  rop P (Instr.loadAt 26 t2_1) h_18 fun r_2 =>
  K r_2 h_18))
theorem e139 (c0_1 : Value) (h : Heap) (K : Value → Heap → Prop) : wpA Tryz.prog 63 (anOf [(250, [5]), (64078, [8])]) (bodyOf Tryz.f139) 1 (fun A h => resA Tryz.prog A h K [.cell 2 26]) (fun _ _ _ => False) (fun A h => resA Tryz.prog A h K [.cell 2 26]) (aargs [c0_1] 0) h = t139 Tryz.prog c0_1 h K := by kernel_rfl
theorem c139 (c0_1 : Value) (h : Heap) (K : Value → Heap → Prop) (H : t139 Tryz.prog c0_1 h K) : callM Tryz.prog 139 #[c0_1] h K :=
  callM_of_wpA mixed (fn := Tryz.f139) Tryz.func139 (c := bodyOf Tryz.f139) rfl (of_decide_eq_true (by kernel_rfl)) (anOf [(250, [5]), (64078, [8])]) 62 63 (by kernel_rfl) rfl [.cell 2 26] (by kernel_rfl) (args := [c0_1]) (by rw [e139]; exact H)
def t140 (P : Program) (c0_1 : Value) (g1_1 : Value) (h : Heap) (K : Value → Heap → Prop) : Prop :=
  eop P (Instr.box 26 g1_1) h fun g3_1 h_1 =>
  pop P (Instr.fieldAt 26 g3_1 0) fun t5_1 =>
  rop P (Instr.loadAt 24 t5_1) h_1 fun t6_1 =>
  pop P (lenS 24 3 t6_1) fun t7_1 =>
  pop P (binE .eql 3 (.tmp 7) (.const (Value.int IntKind.i64 0)) t7_1 (Value.int IntKind.i64 0)) fun t8_1 =>
  guardM (asG t8_1 false) false (fun k_1 => k_1 c0_1 h_1) h_1 fun t10_1 h_2 =>
  guardM (asG t8_1 false) false (fun k_2 => callM P 67 #[t10_1, (Value.int IntKind.i64 14)] h_2 fun t11_1 h_3 =>
  k_2 t11_1 h_3) h_2 fun t11_2 h_4 =>
  pop P (pickS t8_1 (Value.bool true) t11_2) fun t12_1 =>
  condM t12_1
  (pop P (Instr.fieldAt 26 g3_1 0) fun t14_1 =>
  rop P (Instr.loadAt 24 t14_1) h_4 fun t15_1 =>
  pop P (lenS 24 3 t15_1) fun t16_1 =>
  eop P (Instr.buildSlice 29 4 #[(0, (Value.int IntKind.i64 (-1))), (1, (Value.int IntKind.i64 0)), (2, t16_1), (3, (Value.int IntKind.i64 4611686018427387904))]) h_4 fun t17_1 h_5 =>
  callM P 53 #[c0_1, t17_1] h_5 fun t18_1 h_6 =>
  K t18_1 h_6)
  (pop P (Instr.fieldAt 26 g3_1 0) fun t20_1 =>
  rop P (Instr.loadAt 24 t20_1) h_4 fun t21_1 =>
  pop P (lenS 24 3 t21_1) fun t22_1 =>
  callM P 52 #[c0_1, t22_1] h_4 fun t23_1 h_7 =>
  K t23_1 h_7)
theorem e140 (c0_1 : Value) (g1_1 : Value) (h : Heap) (K : Value → Heap → Prop) : wpA Tryz.prog 24 (anOf []) (bodyOf Tryz.f140) 1 (fun A h => resA Tryz.prog A h K [.tmp 4]) (fun _ _ _ => False) (fun A h => resA Tryz.prog A h K [.tmp 4]) (aargs [c0_1, g1_1] 0) h = t140 Tryz.prog c0_1 g1_1 h K := by kernel_rfl
theorem c140 (c0_1 : Value) (g1_1 : Value) (h : Heap) (K : Value → Heap → Prop) (H : t140 Tryz.prog c0_1 g1_1 h K) : callM Tryz.prog 140 #[c0_1, g1_1] h K :=
  callM_of_wpA mixed (fn := Tryz.f140) Tryz.func140 (c := bodyOf Tryz.f140) rfl (of_decide_eq_true (by kernel_rfl)) (anOf []) 22 24 (by kernel_rfl) rfl [.tmp 4] (by kernel_rfl) (args := [c0_1, g1_1]) (by rw [e140]; exact H)
def t141 (P : Program) (s0_1 : Value) (f1_1 : Value) (h : Heap) (K : Value → Heap → Prop) : Prop :=
  pop P (lenS 29 3 s0_1) fun t7_1 =>
  ∃ (I_1 : List Value → Heap → Prop) (μ_1 : List Value → Heap → Nat), I_1 [(Value.int IntKind.i64 0)] h ∧
  ∀ (junk_1 : Nat → Value) (t8_1 : Value) (h_1 : Heap), I_1 [t8_1] h_1 →
  pop P (binA .lss 3 t8_1 t7_1) fun t9_1 =>
  condM t9_1
  (pop P (Instr.indexAt 29 s0_1 t8_1) fun t14_1 =>
  rop P (Instr.loadAt 3 t14_1) h_1 fun t15_1 =>
  callV P f1_1 [t15_1] h_1 fun t16_1 h_2 =>
  condM t16_1
  (K t8_1 h_2)
  (pop P (binA .add 3 t8_1 (Value.int IntKind.i64 1)) fun t18_1 =>
  I_1 [t18_1] h_2 ∧ μ_1 [t18_1] h_2 < μ_1 [t8_1] h_1))
  (K (Value.int IntKind.i64 (-1)) h_1)
theorem e141 (s0_1 : Value) (f1_1 : Value) (h : Heap) (K : Value → Heap → Prop) : wpA Tryz.prog 19 (anOf [(26, [8])]) (bodyOf Tryz.f141) 1 (fun A h => resA Tryz.prog A h K [.tmp 4]) (fun _ _ _ => False) (fun A h => resA Tryz.prog A h K [.tmp 4]) (aargs [s0_1, f1_1] 0) h = t141 Tryz.prog s0_1 f1_1 h K := by kernel_rfl
theorem c141 (s0_1 : Value) (f1_1 : Value) (h : Heap) (K : Value → Heap → Prop) (H : t141 Tryz.prog s0_1 f1_1 h K) : callM Tryz.prog 141 #[s0_1, f1_1] h K :=
  callM_of_wpA mixed (fn := Tryz.f141) Tryz.func141 (c := bodyOf Tryz.f141) rfl (of_decide_eq_true (by kernel_rfl)) (anOf [(26, [8])]) 17 19 (by kernel_rfl) rfl [.tmp 4] (by kernel_rfl) (args := [s0_1, f1_1]) (by rw [e141]; exact H)
def t142 (P : Program) (g0_1 : Value) (s1_1 : Value) (p2_1 : Value) (h : Heap) (K : Value → Heap → Prop) : Prop :=
  eop P (Instr.box 26 g0_1) h fun g3_1 h_1 =>
  eop P (Instr.box 28 s1_1) h_1 fun s4_1 h_2 =>
  eop P (Instr.buildSlice 29 1 #[(0, p2_1)]) h_2 fun t14_1 h_3 =>
  rop P (Instr.loadAt 26 g3_1) h_3 fun t15_1 =>
  rop P (Instr.loadAt 28 s4_1) h_3 fun t16_1 =>
  callM P 120 #[t15_1, t16_1, p2_1] h_3 fun t18_1 h_4 =>
  ∃ (I_1 : List Value → Heap → Prop) (μ_1 : List Value → Heap → Nat), I_1 [t14_1, t18_1, (Value.int IntKind.i64 0)] h_4 ∧
  ∀ (junk_1 : Nat → Value) (out7_1 : Value) (q8_1 : Value) (n9_1 : Value) (h_5 : Heap), I_1 [out7_1, q8_1, n9_1] h_5 →
  pop P (Instr.fieldAt 26 g3_1 0) fun t20_1 =>
  rop P (Instr.loadAt 24 t20_1) h_5 fun t21_1 =>
  pop P (lenS 24 3 t21_1) fun t22_1 =>
  pop P (binA .lss 3 n9_1 t22_1) fun t23_1 =>
  guardM (asG t23_1 true) true (fun k_1 => k_1 q8_1 h_5) h_5 fun t25_1 h_6 =>
  guardM (asG t23_1 true) true (fun k_2 => pop P (binA .geq 3 t25_1 (Value.int IntKind.i64 0)) fun t26_1 =>
  k_2 t26_1 h_6) h_6 fun t26_2 h_7 =>
  pop P (pickS t23_1 t26_2 (Value.bool false)) fun t27_1 =>
  guardM (asG t27_1 true) true (fun k_3 => k_3 q8_1 h_7) h_7 fun t29_1 h_8 =>
  guardM (asG t27_1 true) true (fun k_4 => k_4 p2_1 h_8) h_8 fun t30_1 h_9 =>
  guardM (asG t27_1 true) true (fun k_5 => pop P (binE .neq 3 (.tmp 29) (.tmp 30) t29_1 t30_1) fun t31_1 =>
  k_5 t31_1 h_9) h_9 fun t31_2 h_10 =>
  pop P (pickS t27_1 t31_2 (Value.bool false)) fun t32_1 =>
  condM t32_1
  (eop P (Instr.buildSlice 29 1 #[(0, q8_1)]) h_10 fun t37_1 h_11 =>
  eop P (appS 29 29 29 out7_1 t37_1) h_11 fun t38_1 h_12 =>
  rop P (Instr.loadAt 26 g3_1) h_12 fun t39_1 =>
  rop P (Instr.loadAt 28 s4_1) h_12 fun t40_1 =>
  callM P 120 #[t39_1, t40_1, q8_1] h_12 fun t42_1 h_13 =>
  pop P (binA .add 3 n9_1 (Value.int IntKind.i64 1)) fun t34_1 =>
  I_1 [t38_1, t42_1, t34_1] h_13 ∧ μ_1 [t38_1, t42_1, t34_1] h_13 < μ_1 [out7_1, q8_1, n9_1] h_5)
  (pop P (binE .neq 3 (.tmp 43) (.tmp 44) q8_1 p2_1) fun t45_1 =>
  condM t45_1
  (K (Value.slice none 0 0) h_10)
  (pop P (lenS 29 3 out7_1) fun t47_1 =>
  ∃ (I_2 : List Value → Heap → Prop) (μ_2 : List Value → Heap → Nat), I_2 [(Value.int IntKind.i64 0), (Value.int IntKind.i64 0)] h_10 ∧
  ∀ (junk_2 : Nat → Value) (least10_1 : Value) (t48_1 : Value) (h_14 : Heap), I_2 [least10_1, t48_1] h_14 →
  pop P (binA .lss 3 t48_1 t47_1) fun t49_1 =>
  condM t49_1
  (pop P (Instr.indexAt 29 out7_1 t48_1) fun t51_1 =>
  rop P (Instr.loadAt 3 t51_1) h_14 fun t52_1 =>
  pop P (Instr.indexAt 29 out7_1 least10_1) fun t56_1 =>
  rop P (Instr.loadAt 3 t56_1) h_14 fun t57_1 =>
  pop P (binA .lss 3 t52_1 t57_1) fun t58_1 =>
  condM t58_1
  (pop P (binA .add 3 t48_1 (Value.int IntKind.i64 1)) fun t60_1 =>
  I_2 [t48_1, t60_1] h_14 ∧ μ_2 [t48_1, t60_1] h_14 < μ_2 [least10_1, t48_1] h_14)
  (pop P (binA .add 3 t48_1 (Value.int IntKind.i64 1)) fun t60_2 =>
  I_2 [least10_1, t60_2] h_14 ∧ μ_2 [least10_1, t60_2] h_14 < μ_2 [least10_1, t48_1] h_14))
  (pop P (Instr.sliceAt 29 out7_1 (some least10_1) none none) fun t63_1 =>
  pop P (Instr.sliceAt 29 out7_1 none (some least10_1) none) fun t67_1 =>
  callM P 79 #[t63_1] h_14 fun t64_1 h_15 =>
  eop P (appS 29 29 29 t64_1 t67_1) h_15 fun t68_1 h_16 =>
  K t68_1 h_16)))
theorem e142 (g0_1 : Value) (s1_1 : Value) (p2_1 : Value) (h : Heap) (K : Value → Heap → Prop) : wpA Tryz.prog 69 (anOf [(122, [7, 8, 9]), (1018, [10, 48])]) (bodyOf Tryz.f142) 1 (fun A h => resA Tryz.prog A h K [.tmp 6]) (fun _ _ _ => False) (fun A h => resA Tryz.prog A h K [.tmp 6]) (aargs [g0_1, s1_1, p2_1] 0) h = t142 Tryz.prog g0_1 s1_1 p2_1 h K := by kernel_rfl
theorem c142 (g0_1 : Value) (s1_1 : Value) (p2_1 : Value) (h : Heap) (K : Value → Heap → Prop) (H : t142 Tryz.prog g0_1 s1_1 p2_1 h K) : callM Tryz.prog 142 #[g0_1, s1_1, p2_1] h K :=
  callM_of_wpA mixed (fn := Tryz.f142) Tryz.func142 (c := bodyOf Tryz.f142) rfl (of_decide_eq_true (by kernel_rfl)) (anOf [(122, [7, 8, 9]), (1018, [10, 48])]) 66 69 (by kernel_rfl) rfl [.tmp 6] (by kernel_rfl) (args := [g0_1, s1_1, p2_1]) (by rw [e142]; exact H)
def t143 (P : Program) (x0_1 : Value) (h : Heap) (K : Value → Heap → Prop) : Prop :=
  ∃ J_1 : List Value → Heap → Prop, (pop P (lenS 29 3 x0_1) fun t6_1 =>
  pop P (binA .lss 3 t6_1 (Value.int IntKind.i64 1)) fun t7_1 =>
  condM t7_1
  (pop P (Instr.makeInterface 9 (Value.string { data := #[115, 108, 105, 99, 101, 115, 46, 77, 105, 110, 58, 32, 101, 109, 112, 116, 121, 32, 108, 105, 115, 116] })) fun t8_1 =>
  False)
  (J_1 [] h)) ∧
  ∀ (junk_1 : Nat → Value) (h_1 : Heap), J_1 [] h_1 →
  pop P (Instr.indexAt 29 x0_1 (Value.int IntKind.i64 0)) fun t10_1 =>
  rop P (Instr.loadAt 3 t10_1) h_1 fun t11_1 =>
  ∃ (I_1 : List Value → Heap → Prop) (μ_1 : List Value → Heap → Nat), I_1 [t11_1, (Value.int IntKind.i64 1)] h_1 ∧
  ∀ (junk_2 : Nat → Value) (m3_1 : Value) (i4_1 : Value) (h_2 : Heap), I_1 [m3_1, i4_1] h_2 →
  pop P (lenS 29 3 x0_1) fun t14_1 =>
  pop P (binA .lss 3 i4_1 t14_1) fun t15_1 =>
  condM t15_1
  (pop P (Instr.indexAt 29 x0_1 i4_1) fun t21_1 =>
  rop P (Instr.loadAt 3 t21_1) h_2 fun t22_1 =>
  pop P (Builtin.min_ #[3, 3] 3 #[m3_1, t22_1]) fun t23_1 =>
  pop P (binA .add 3 i4_1 (Value.int IntKind.i64 1)) fun t17_1 =>
  I_1 [t23_1, t17_1] h_2 ∧ μ_1 [t23_1, t17_1] h_2 < μ_1 [m3_1, i4_1] h_2)
  (K m3_1 h_2)
theorem e143 (x0_1 : Value) (h : Heap) (K : Value → Heap → Prop) : wpA Tryz.prog 25 (anOf [(3, []), (122, [3, 4])]) (bodyOf Tryz.f143) 1 (fun A h => resA Tryz.prog A h K [.tmp 2]) (fun _ _ _ => False) (fun A h => resA Tryz.prog A h K [.tmp 2]) (aargs [x0_1] 0) h = t143 Tryz.prog x0_1 h K := by kernel_rfl
theorem c143 (x0_1 : Value) (h : Heap) (K : Value → Heap → Prop) (H : t143 Tryz.prog x0_1 h K) : callM Tryz.prog 143 #[x0_1] h K :=
  callM_of_wpA mixed (fn := Tryz.f143) Tryz.func143 (c := bodyOf Tryz.f143) rfl (of_decide_eq_true (by kernel_rfl)) (anOf [(3, []), (122, [3, 4])]) 24 25 (by kernel_rfl) rfl [.tmp 2] (by kernel_rfl) (args := [x0_1]) (by rw [e143]; exact H)
def t144 (P : Program) (slices0_1 : Value) (h : Heap) (K : Value → Heap → Prop) : Prop :=
  pop P (lenS 24 3 slices0_1) fun t10_1 =>
  ∃ (I_1 : List Value → Heap → Prop) (μ_1 : List Value → Heap → Nat), I_1 [(Value.int IntKind.i64 0), (Value.int IntKind.i64 0)] h ∧
  ∀ (junk_1 : Nat → Value) (size3_1 : Value) (t11_1 : Value) (h_1 : Heap), I_1 [size3_1, t11_1] h_1 →
  pop P (binA .lss 3 t11_1 t10_1) fun t12_1 =>
  condM t12_1
  (pop P (Instr.indexAt 24 slices0_1 t11_1) fun t13_1 =>
  rop P (Instr.loadAt 29 t13_1) h_1 fun t14_1 =>
  pop P (lenS 29 3 t14_1) fun t17_1 =>
  pop P (binA .add 3 size3_1 t17_1) fun t18_1 =>
  pop P (binA .lss 3 t18_1 (Value.int IntKind.i64 0)) fun t20_1 =>
  condM t20_1
  (pop P (Instr.makeInterface 9 (Value.string { data := #[108, 101, 110, 32, 111, 117, 116, 32, 111, 102, 32, 114, 97, 110, 103, 101] })) fun t21_1 =>
  False)
  (pop P (binA .add 3 t11_1 (Value.int IntKind.i64 1)) fun t22_1 =>
  I_1 [t18_1, t22_1] h_1 ∧ μ_1 [t18_1, t22_1] h_1 < μ_1 [size3_1, t11_1] h_1))
  (callM P 154 #[(Value.slice none 0 0), size3_1] h_1 fun t24_1 h_2 =>
  pop P (lenS 24 3 slices0_1) fun t26_1 =>
  ∃ (I_2 : List Value → Heap → Prop) (μ_2 : List Value → Heap → Nat), I_2 [t24_1, (Value.int IntKind.i64 0)] h_2 ∧
  ∀ (junk_2 : Nat → Value) (newslice6_1 : Value) (t27_1 : Value) (h_3 : Heap), I_2 [newslice6_1, t27_1] h_3 →
  pop P (binA .lss 3 t27_1 t26_1) fun t28_1 =>
  condM t28_1
  (pop P (Instr.indexAt 24 slices0_1 t27_1) fun t29_1 =>
  rop P (Instr.loadAt 29 t29_1) h_3 fun t30_1 =>
  eop P (appS 29 29 29 newslice6_1 t30_1) h_3 fun t33_1 h_4 =>
  pop P (binA .add 3 t27_1 (Value.int IntKind.i64 1)) fun t34_1 =>
  I_2 [t33_1, t34_1] h_4 ∧ μ_2 [t33_1, t34_1] h_4 < μ_2 [newslice6_1, t27_1] h_3)
  (K newslice6_1 h_3))
theorem e144 (slices0_1 : Value) (h : Heap) (K : Value → Heap → Prop) : wpA Tryz.prog 36 (anOf [(58, [3, 11]), (250, [6, 27])]) (bodyOf Tryz.f144) 1 (fun A h => resA Tryz.prog A h K [.tmp 2]) (fun _ _ _ => False) (fun A h => resA Tryz.prog A h K [.tmp 2]) (aargs [slices0_1] 0) h = t144 Tryz.prog slices0_1 h K := by kernel_rfl
theorem c144 (slices0_1 : Value) (h : Heap) (K : Value → Heap → Prop) (H : t144 Tryz.prog slices0_1 h K) : callM Tryz.prog 144 #[slices0_1] h K :=
  callM_of_wpA mixed (fn := Tryz.f144) Tryz.func144 (c := bodyOf Tryz.f144) rfl (of_decide_eq_true (by kernel_rfl)) (anOf [(58, [3, 11]), (250, [6, 27])]) 35 36 (by kernel_rfl) rfl [.tmp 2] (by kernel_rfl) (args := [slices0_1]) (by rw [e144]; exact H)
def t145 (P : Program) (seq0_1 : Value) (h : Heap) (K : Value → Heap → Prop) : Prop :=
  callM P 155 #[(Value.slice none 0 0), seq0_1] h fun t4_1 h_1 =>
  K t4_1 h_1
theorem e145 (seq0_1 : Value) (h : Heap) (K : Value → Heap → Prop) : wpA Tryz.prog 5 (anOf []) (bodyOf Tryz.f145) 1 (fun A h => resA Tryz.prog A h K [.tmp 2]) (fun _ _ _ => False) (fun A h => resA Tryz.prog A h K [.tmp 2]) (aargs [seq0_1] 0) h = t145 Tryz.prog seq0_1 h K := by kernel_rfl
theorem c145 (seq0_1 : Value) (h : Heap) (K : Value → Heap → Prop) (H : t145 Tryz.prog seq0_1 h K) : callM Tryz.prog 145 #[seq0_1] h K :=
  callM_of_wpA mixed (fn := Tryz.f145) Tryz.func145 (c := bodyOf Tryz.f145) rfl (of_decide_eq_true (by kernel_rfl)) (anOf []) 4 5 (by kernel_rfl) rfl [.tmp 2] (by kernel_rfl) (args := [seq0_1]) (by rw [e145]; exact H)
def t146 (P : Program) (x0_1 : Value) (h : Heap) (K : Value → Heap → Prop) : Prop :=
  pop P (lenS 29 3 x0_1) fun t4_1 =>
  rop P (convert 3 142 t4_1) h fun t8_1 =>
  callM P 157 #[t8_1] h fun t9_1 h_1 =>
  callM P 156 #[x0_1, (Value.int IntKind.i64 0), t4_1, t9_1] h_1 fun t10_1 h_2 =>
  K (.tuple #[]) h_2
theorem e146 (x0_1 : Value) (h : Heap) (K : Value → Heap → Prop) : wpA Tryz.prog 11 (anOf []) (bodyOf Tryz.f146) 1 (fun A h => resA Tryz.prog A h K []) (fun _ _ _ => False) (fun A h => resA Tryz.prog A h K []) (aargs [x0_1] 0) h = t146 Tryz.prog x0_1 h K := by kernel_rfl
theorem c146 (x0_1 : Value) (h : Heap) (K : Value → Heap → Prop) (H : t146 Tryz.prog x0_1 h K) : callM Tryz.prog 146 #[x0_1] h K :=
  callM_of_wpA mixed (fn := Tryz.f146) Tryz.func146 (c := bodyOf Tryz.f146) rfl (of_decide_eq_true (by kernel_rfl)) (anOf []) 10 11 (by kernel_rfl) rfl [] (by kernel_rfl) (args := [x0_1]) (by rw [e146]; exact H)
def t149 (P : Program) (c0_1 : Value) (most1_1 : Value) (h : Heap) (K : Value → Heap → Prop) : Prop :=
  eop P (Instr.alloc 26 true (.tuple #[])) h fun t4_1 h_1 =>
  callM P 52 #[c0_1, most1_1] h_1 fun t13_1 h_2 =>
  pop P (binA .add 3 (Value.int IntKind.i64 1) t13_1) fun t14_1 =>
  callM P 67 #[c0_1, (Value.int IntKind.i64 4)] h_2 fun t16_1 h_3 =>
  condM t16_1
  (callM P 67 #[c0_1, (Value.int IntKind.i64 2)] h_3 fun t19_1 h_4 =>
  callM P 153 #[t14_1, t19_1] h_4 fun t20_1 h_5 =>
  uop P (Instr.storeAt 26 t4_1 t20_1) h_5 fun u_1 h_6 =>
  rop P (Instr.loadAt 26 t4_1) h_6 fun r_1 =>
  K r_1 h_6)
  (pop P (Instr.build 26 #[]) fun t21_1 =>
  eop P (Instr.alloc 26 true (.tuple #[])) h_3 fun g6_1 h_7 =>
  uop P (Instr.storeAt 26 g6_1 t21_1) h_7 fun u_2 h_8 =>
  ∃ (I_1 : List Value → Heap → Prop) (μ_1 : List Value → Heap → Nat), I_1 [(Value.int IntKind.i64 0)] h_8 ∧
  ∀ (junk_1 : Nat → Value) (p7_1 : Value) (h_9 : Heap), I_1 [p7_1] h_9 →
  pop P (binA .lss 3 p7_1 t14_1) fun t24_1 =>
  condM t24_1
  (callM P 52 #[c0_1, (Value.int IntKind.i64 3)] h_9 fun t28_1 h_10 =>
  pop P (binA .add 3 (Value.int IntKind.i64 1) t28_1) fun t29_1 =>
  ∃ (I_2 : List Value → Heap → Prop) (μ_2 : List Value → Heap → Nat), I_2 [(Value.slice none 0 0), t29_1] h_10 ∧
  ∀ (junk_2 : Nat → Value) (list8_1 : Value) (k9_1 : Value) (h_11 : Heap), I_2 [list8_1, k9_1] h_11 →
  pop P (binA .gtr 3 k9_1 (Value.int IntKind.i64 0)) fun t31_1 =>
  condM t31_1
  (callM P 52 #[c0_1, t14_1] h_11 fun t37_1 h_12 =>
  eop P (Instr.buildSlice 29 1 #[(0, t37_1)]) h_12 fun t38_1 h_13 =>
  eop P (appS 29 29 29 list8_1 t38_1) h_13 fun t39_1 h_14 =>
  pop P (binA .sub 3 k9_1 (Value.int IntKind.i64 1)) fun t33_1 =>
  I_2 [t39_1, t33_1] h_14 ∧ μ_2 [t39_1, t33_1] h_14 < μ_2 [list8_1, k9_1] h_11)
  (∃ J_1 : List Value → Heap → Prop, (callM P 67 #[c0_1, (Value.int IntKind.i64 8)] h_11 fun t41_1 h_15 =>
  condM t41_1
  (J_1 [(Value.slice none 0 0)] h_15)
  (J_1 [list8_1] h_15)) ∧
  ∀ (junk_3 : Nat → Value) (list8_2 : Value) (h_16 : Heap), J_1 [list8_2] h_16 →
  pop P (Instr.fieldAt 26 g6_1 0) fun t42_1 =>
  rop P (Instr.loadAt 24 t42_1) h_16 fun t43_1 =>
  eop P (Instr.buildSlice 24 1 #[(0, list8_2)]) h_16 fun t45_1 h_17 =>
  eop P (appS 24 24 24 t43_1 t45_1) h_17 fun t46_1 h_18 =>
  pop P (Instr.fieldAt 26 g6_1 0) fun t47_1 =>
  uop P (Instr.storeAt 24 t47_1 t46_1) h_18 fun u_3 h_19 =>
  pop P (binA .add 3 p7_1 (Value.int IntKind.i64 1)) fun t26_1 =>
  I_1 [t26_1] h_19 ∧ μ_1 [t26_1] h_19 < μ_1 [p7_1] h_9))
  (callM P 67 #[c0_1, (Value.int IntKind.i64 2)] h_9 fun t49_1 h_20 =>
  condM t49_1
  (pop P (Instr.fieldAt 26 g6_1 0) fun t50_1 =>
  rop P (Instr.loadAt 24 t50_1) h_20 fun t51_1 =>
  pop P (lenS 24 3 t51_1) fun t52_1 =>
  ∃ (I_3 : List Value → Heap → Prop) (μ_3 : List Value → Heap → Nat), I_3 [(Value.int IntKind.i64 0)] h_20 ∧
  ∀ (junk_4 : Nat → Value) (t53_1 : Value) (h_21 : Heap), I_3 [t53_1] h_21 →
  pop P (binA .lss 3 t53_1 t52_1) fun t54_1 =>
  condM t54_1
  (pop P (Instr.fieldAt 26 g6_1 0) fun t56_1 =>
  rop P (Instr.loadAt 24 t56_1) h_21 fun t57_1 =>
  pop P (Instr.fieldAt 26 g6_1 0) fun t59_1 =>
  rop P (Instr.loadAt 24 t59_1) h_21 fun t60_1 =>
  pop P (Instr.indexAt 24 t60_1 t53_1) fun t62_1 =>
  rop P (Instr.loadAt 29 t62_1) h_21 fun t63_1 =>
  pop P (binA .add 3 t53_1 (Value.int IntKind.i64 1)) fun t65_1 =>
  pop P (binA .rem 3 t65_1 t14_1) fun t67_1 =>
  eop P (Instr.buildSlice 29 1 #[(0, t67_1)]) h_21 fun t68_1 h_22 =>
  (∀ w : World, w.heap = h_22 → (Instr.loadAt 29 t62_1).run P w = .ok t63_1 w) ∧
  (∀ w : World, w.heap = h_22 → (Instr.loadAt 24 t59_1).run P w = .ok t60_1 w) ∧
  (∀ w : World, w.heap = h_22 → (Instr.loadAt 24 t56_1).run P w = .ok t57_1 w) ∧
  eop P (appS 29 29 29 t63_1 t68_1) h_22 fun t69_1 h_23 =>
  (∀ w : World, w.heap = h_23 → (Instr.loadAt 24 t59_1).run P w = .ok t60_1 w) ∧
  (∀ w : World, w.heap = h_23 → (Instr.loadAt 24 t56_1).run P w = .ok t57_1 w) ∧
  pop P (Instr.indexAt 24 t57_1 t53_1) fun t70_1 =>
  uop P (Instr.storeAt 29 t70_1 t69_1) h_23 fun u_4 h_24 =>
  pop P (binA .add 3 t53_1 (Value.int IntKind.i64 1)) fun t71_1 =>
  I_3 [t71_1] h_24 ∧ μ_3 [t71_1] h_24 < μ_3 [t53_1] h_21)
  (rop P (Instr.loadAt 26 g6_1) h_21 fun t72_1 =>
  uop P (Instr.storeAt 26 t4_1 t72_1) h_21 fun u_5 h_25 =>
  rop P (Instr.loadAt 26 t4_1) h_25 fun r_2 =>
  K r_2 h_25))
  (rop P (Instr.loadAt 26 g6_1) h_20 fun t72_2 =>
  uop P (Instr.storeAt 26 t4_1 t72_2) h_20 fun u_6 h_26 =>
  rop P (Instr.loadAt 26 t4_1) h_26 fun r_3 =>
  K r_3 h_26)))
theorem e149 (c0_1 : Value) (most1_1 : Value) (h : Heap) (K : Value → Heap → Prop) : wpA Tryz.prog 73 (anOf [(250, [7]), (2026, [53]), (16019, [8]), (64074, [8, 9])]) (bodyOf Tryz.f149) 1 (fun A h => resA Tryz.prog A h K [.cell 4 26]) (fun _ _ _ => False) (fun A h => resA Tryz.prog A h K [.cell 4 26]) (aargs [c0_1, most1_1] 0) h = t149 Tryz.prog c0_1 most1_1 h K := by kernel_rfl
theorem c149 (c0_1 : Value) (most1_1 : Value) (h : Heap) (K : Value → Heap → Prop) (H : t149 Tryz.prog c0_1 most1_1 h K) : callM Tryz.prog 149 #[c0_1, most1_1] h K :=
  callM_of_wpA mixed (fn := Tryz.f149) Tryz.func149 (c := bodyOf Tryz.f149) rfl (of_decide_eq_true (by kernel_rfl)) (anOf [(250, [7]), (2026, [53]), (16019, [8]), (64074, [8, 9])]) 71 73 (by kernel_rfl) rfl [.cell 4 26] (by kernel_rfl) (args := [c0_1, most1_1]) (by rw [e149]; exact H)
def t153 (P : Program) (n0_1 : Value) (both1_1 : Value) (h : Heap) (K : Value → Heap → Prop) : Prop :=
  eop P (Instr.alloc 26 true (.tuple #[])) h fun t4_1 h_1 =>
  pop P (Instr.build 26 #[]) fun t8_1 =>
  eop P (Instr.alloc 26 true (.tuple #[])) h_1 fun g5_1 h_2 =>
  uop P (Instr.storeAt 26 g5_1 t8_1) h_2 fun u_1 h_3 =>
  ∃ (I_1 : List Value → Heap → Prop) (μ_1 : List Value → Heap → Nat), I_1 [(Value.int IntKind.i64 0)] h_3 ∧
  ∀ (junk_1 : Nat → Value) (p6_1 : Value) (h_4 : Heap), I_1 [p6_1] h_4 →
  pop P (binA .lss 3 p6_1 n0_1) fun t11_1 =>
  condM t11_1
  (pop P (binA .add 3 p6_1 (Value.int IntKind.i64 1)) fun t15_1 =>
  pop P (binA .rem 3 t15_1 n0_1) fun t17_1 =>
  eop P (Instr.buildSlice 29 1 #[(0, t17_1)]) h_4 fun t18_1 h_5 =>
  ∃ J_1 : List Value → Heap → Prop, (condM both1_1
  (pop P (binA .add 3 p6_1 n0_1) fun t23_1 =>
  pop P (binA .sub 3 t23_1 (Value.int IntKind.i64 1)) fun t24_1 =>
  pop P (binA .rem 3 t24_1 n0_1) fun t26_1 =>
  eop P (Instr.buildSlice 29 1 #[(0, t26_1)]) h_5 fun t27_1 h_6 =>
  eop P (appS 29 29 29 t18_1 t27_1) h_6 fun t28_1 h_7 =>
  J_1 [t28_1] h_7)
  (J_1 [t18_1] h_5)) ∧
  ∀ (junk_2 : Nat → Value) (list7_1 : Value) (h_8 : Heap), J_1 [list7_1] h_8 →
  pop P (Instr.fieldAt 26 g5_1 0) fun t29_1 =>
  rop P (Instr.loadAt 24 t29_1) h_8 fun t30_1 =>
  eop P (Instr.buildSlice 24 1 #[(0, list7_1)]) h_8 fun t32_1 h_9 =>
  eop P (appS 24 24 24 t30_1 t32_1) h_9 fun t33_1 h_10 =>
  pop P (Instr.fieldAt 26 g5_1 0) fun t34_1 =>
  uop P (Instr.storeAt 24 t34_1 t33_1) h_10 fun u_2 h_11 =>
  pop P (binA .add 3 p6_1 (Value.int IntKind.i64 1)) fun t13_1 =>
  I_1 [t13_1] h_11 ∧ μ_1 [t13_1] h_11 < μ_1 [p6_1] h_4)
  (rop P (Instr.loadAt 26 g5_1) h_4 fun t35_1 =>
  uop P (Instr.storeAt 26 t4_1 t35_1) h_4 fun u_3 h_12 =>
  rop P (Instr.loadAt 26 t4_1) h_12 fun r_1 =>
  K r_1 h_12)
theorem e153 (n0_1 : Value) (both1_1 : Value) (h : Heap) (K : Value → Heap → Prop) : wpA Tryz.prog 36 (anOf [(58, [6]), (1865, [7])]) (bodyOf Tryz.f153) 1 (fun A h => resA Tryz.prog A h K [.cell 4 26]) (fun _ _ _ => False) (fun A h => resA Tryz.prog A h K [.cell 4 26]) (aargs [n0_1, both1_1] 0) h = t153 Tryz.prog n0_1 both1_1 h K := by kernel_rfl
theorem c153 (n0_1 : Value) (both1_1 : Value) (h : Heap) (K : Value → Heap → Prop) (H : t153 Tryz.prog n0_1 both1_1 h K) : callM Tryz.prog 153 #[n0_1, both1_1] h K :=
  callM_of_wpA mixed (fn := Tryz.f153) Tryz.func153 (c := bodyOf Tryz.f153) rfl (of_decide_eq_true (by kernel_rfl)) (anOf [(58, [6]), (1865, [7])]) 34 36 (by kernel_rfl) rfl [.cell 4 26] (by kernel_rfl) (args := [n0_1, both1_1]) (by rw [e153]; exact H)
def t154 (P : Program) (s0_1 : Value) (n1_1 : Value) (h : Heap) (K : Value → Heap → Prop) : Prop :=
  ∃ J_1 : List Value → Heap → Prop, (pop P (binA .lss 3 n1_1 (Value.int IntKind.i64 0)) fun t6_1 =>
  condM t6_1
  (pop P (Instr.makeInterface 9 (Value.string { data := #[99, 97, 110, 110, 111, 116, 32, 98, 101, 32, 110, 101, 103, 97, 116, 105, 118, 101] })) fun t7_1 =>
  False)
  (J_1 [] h)) ∧
  ∀ (junk_1 : Nat → Value) (h_1 : Heap), J_1 [] h_1 →
  pop P (Builtin.cap_ #[29] 3 #[s0_1]) fun t10_1 =>
  pop P (lenS 29 3 s0_1) fun t12_1 =>
  pop P (binA .sub 3 t10_1 t12_1) fun t13_1 =>
  pop P (binA .sub 3 n1_1 t13_1) fun t14_1 =>
  pop P (binA .gtr 3 t14_1 (Value.int IntKind.i64 0)) fun t16_1 =>
  condM t16_1
  (pop P (Builtin.cap_ #[29] 3 #[s0_1]) fun t19_1 =>
  pop P (Instr.sliceAt 29 s0_1 none (some t19_1) none) fun t20_1 =>
  eop P (appS 29 3 29 t20_1 t14_1) h_1 fun t22_1 h_2 =>
  pop P (lenS 29 3 s0_1) fun t24_1 =>
  pop P (Instr.sliceAt 29 t22_1 none (some t24_1) none) fun t25_1 =>
  K t25_1 h_2)
  (K s0_1 h_1)
theorem e154 (s0_1 : Value) (n1_1 : Value) (h : Heap) (K : Value → Heap → Prop) : wpA Tryz.prog 27 (anOf [(3, [])]) (bodyOf Tryz.f154) 1 (fun A h => resA Tryz.prog A h K [.tmp 4]) (fun _ _ _ => False) (fun A h => resA Tryz.prog A h K [.tmp 4]) (aargs [s0_1, n1_1] 0) h = t154 Tryz.prog s0_1 n1_1 h K := by kernel_rfl
theorem c154 (s0_1 : Value) (n1_1 : Value) (h : Heap) (K : Value → Heap → Prop) (H : t154 Tryz.prog s0_1 n1_1 h K) : callM Tryz.prog 154 #[s0_1, n1_1] h K :=
  callM_of_wpA mixed (fn := Tryz.f154) Tryz.func154 (c := bodyOf Tryz.f154) rfl (of_decide_eq_true (by kernel_rfl)) (anOf [(3, [])]) 25 27 (by kernel_rfl) rfl [.tmp 4] (by kernel_rfl) (args := [s0_1, n1_1]) (by rw [e154]; exact H)
def t156 (P : Program) (data0_1 : Value) (a1_1 : Value) (b2_1 : Value) (limit3_1 : Value) (h : Heap) (K : Value → Heap → Prop) : Prop :=
  ∃ (I_1 : List Value → Heap → Prop) (μ_1 : List Value → Heap → Nat), I_1 [a1_1, b2_1, limit3_1, (Value.bool true), (Value.bool true)] h ∧
  ∀ (junk_1 : Nat → Value) (a1_2 : Value) (b2_2 : Value) (limit3_2 : Value) (wasBalanced8_1 : Value) (wasPartitioned9_1 : Value) (h_1 : Heap), I_1 [a1_2, b2_2, limit3_2, wasBalanced8_1, wasPartitioned9_1] h_1 →
  pop P (binA .sub 3 b2_2 a1_2) fun t21_1 =>
  pop P (binA .leq 3 t21_1 (Value.int IntKind.i64 12)) fun t23_1 =>
  condM t23_1
  (callM P 158 #[data0_1, a1_2, b2_2] h_1 fun t27_1 h_2 =>
  K (.tuple #[]) h_2)
  (pop P (binE .eql 3 (.tmp 28) (.const (Value.int IntKind.i64 0)) limit3_2 (Value.int IntKind.i64 0)) fun t29_1 =>
  condM t29_1
  (callM P 159 #[data0_1, a1_2, b2_2] h_1 fun t33_1 h_3 =>
  K (.tuple #[]) h_3)
  (∃ J_1 : List Value → Heap → Prop, (pop P (Op.unary .not wasBalanced8_1) fun t35_1 =>
  condM t35_1
  (callM P 160 #[data0_1, a1_2, b2_2] h_1 fun t39_1 h_4 =>
  pop P (binA .sub 3 limit3_2 (Value.int IntKind.i64 1)) fun t41_1 =>
  J_1 [t41_1] h_4)
  (J_1 [limit3_2] h_1)) ∧
  ∀ (junk_2 : Nat → Value) (limit3_3 : Value) (h_5 : Heap), J_1 [limit3_3] h_5 →
  callM P 161 #[data0_1, a1_2, b2_2] h_5 fun t46_1 h_6 =>
  pop P (Instr.extract t46_1 0) fun t47_1 =>
  pop P (Instr.extract t46_1 1) fun t48_1 =>
  ∃ J_2 : List Value → Heap → Prop, (pop P (binE .eql 154 (.tmp 49) (.const (Value.int IntKind.i64 2)) t48_1 (Value.int IntKind.i64 2)) fun t50_1 =>
  condM t50_1
  (callM P 162 #[data0_1, a1_2, b2_2] h_6 fun t54_1 h_7 =>
  pop P (binA .sub 3 b2_2 (Value.int IntKind.i64 1)) fun t56_1 =>
  pop P (binA .sub 3 t47_1 a1_2) fun t59_1 =>
  pop P (binA .sub 3 t56_1 t59_1) fun t60_1 =>
  J_2 [t60_1, (Value.int IntKind.i64 1)] h_7)
  (J_2 [t47_1, t48_1] h_6)) ∧
  ∀ (junk_3 : Nat → Value) (pivot11_1 : Value) (hint12_1 : Value) (h_8 : Heap), J_2 [pivot11_1, hint12_1] h_8 →
  ∃ J_3 : List Value → Heap → Prop, (guardM (asG wasBalanced8_1 true) true (fun k_1 => k_1 wasPartitioned9_1 h_8) h_8 fun t63_1 h_9 =>
  pop P (pickS wasBalanced8_1 t63_1 (Value.bool false)) fun t64_1 =>
  guardM (asG t64_1 true) true (fun k_2 => k_2 hint12_1 h_9) h_9 fun t66_1 h_10 =>
  guardM (asG t64_1 true) true (fun k_3 => pop P (binE .eql 154 (.tmp 66) (.const (Value.int IntKind.i64 1)) t66_1 (Value.int IntKind.i64 1)) fun t67_1 =>
  k_3 t67_1 h_10) h_10 fun t67_2 h_11 =>
  pop P (pickS t64_1 t67_2 (Value.bool false)) fun t68_1 =>
  condM t68_1
  (callM P 163 #[data0_1, a1_2, b2_2] h_11 fun t72_1 h_12 =>
  condM t72_1
  (K (.tuple #[]) h_12)
  (J_3 [] h_12))
  (J_3 [] h_11)) ∧
  ∀ (junk_4 : Nat → Value) (h_13 : Heap), J_3 [] h_13 →
  pop P (binA .gtr 3 a1_2 (Value.int IntKind.i64 0)) fun t74_1 =>
  guardM (asG t74_1 true) true (fun k_4 => k_4 data0_1 h_13) h_13 fun t76_1 h_14 =>
  guardM (asG t74_1 true) true (fun k_5 => k_5 a1_2 h_14) h_14 fun t77_1 h_15 =>
  guardM (asG t74_1 true) true (fun k_6 => pop P (binA .sub 3 t77_1 (Value.int IntKind.i64 1)) fun t78_1 =>
  k_6 t78_1 h_15) h_15 fun t78_2 h_16 =>
  guardM (asG t74_1 true) true (fun k_7 => pop P (Instr.indexAt 29 t76_1 t78_2) fun t79_1 =>
  k_7 t79_1 h_16) h_16 fun t79_2 h_17 =>
  guardM (asG t74_1 true) true (fun k_8 => rop P (Instr.loadAt 3 t79_2) h_17 fun t80_1 =>
  k_8 t80_1 h_17) h_17 fun t80_2 h_18 =>
  guardM (asG t74_1 true) true (fun k_9 => k_9 data0_1 h_18) h_18 fun t81_1 h_19 =>
  guardM (asG t74_1 true) true (fun k_10 => k_10 pivot11_1 h_19) h_19 fun t82_1 h_20 =>
  guardM (asG t74_1 true) true (fun k_11 => pop P (Instr.indexAt 29 t81_1 t82_1) fun t83_1 =>
  k_11 t83_1 h_20) h_20 fun t83_2 h_21 =>
  guardM (asG t74_1 true) true (fun k_12 => rop P (Instr.loadAt 3 t83_2) h_21 fun t84_1 =>
  k_12 t84_1 h_21) h_21 fun t84_2 h_22 =>
  guardM (asG t74_1 true) true (fun k_13 => callM P 164 #[t80_2, t84_2] h_22 fun t85_1 h_23 =>
  k_13 t85_1 h_23) h_22 fun t85_2 h_24 =>
  guardM (asG t74_1 true) true (fun k_14 => pop P (Op.unary .not t85_2) fun t86_1 =>
  k_14 t86_1 h_24) h_24 fun t86_2 h_25 =>
  pop P (pickS t74_1 t86_2 (Value.bool false)) fun t87_1 =>
  condM t87_1
  (callM P 165 #[data0_1, a1_2, b2_2, pivot11_1] h_25 fun t92_1 h_26 =>
  I_1 [t92_1, b2_2, limit3_3, wasBalanced8_1, wasPartitioned9_1] h_26 ∧ μ_1 [t92_1, b2_2, limit3_3, wasBalanced8_1, wasPartitioned9_1] h_26 < μ_1 [a1_2, b2_2, limit3_2, wasBalanced8_1, wasPartitioned9_1] h_1)
  (callM P 166 #[data0_1, a1_2, b2_2, pivot11_1] h_25 fun t99_1 h_27 =>
  pop P (Instr.extract t99_1 0) fun t100_1 =>
  pop P (Instr.extract t99_1 1) fun t101_1 =>
  pop P (binA .sub 3 t100_1 a1_2) fun t105_1 =>
  pop P (binA .sub 3 b2_2 t100_1) fun t108_1 =>
  pop P (binA .quo 3 t21_1 (Value.int IntKind.i64 8)) fun t110_1 =>
  pop P (binA .lss 3 t105_1 t108_1) fun t113_1 =>
  condM t113_1
  (pop P (binA .geq 3 t105_1 t110_1) fun t116_1 =>
  callM P 156 #[data0_1, a1_2, t100_1, limit3_3] h_27 fun t121_1 h_28 =>
  pop P (binA .add 3 t100_1 (Value.int IntKind.i64 1)) fun t123_1 =>
  I_1 [t123_1, b2_2, limit3_3, t116_1, t101_1] h_28 ∧ μ_1 [t123_1, b2_2, limit3_3, t116_1, t101_1] h_28 < μ_1 [a1_2, b2_2, limit3_2, wasBalanced8_1, wasPartitioned9_1] h_1)
  (pop P (binA .geq 3 t108_1 t110_1) fun t126_1 =>
  pop P (binA .add 3 t100_1 (Value.int IntKind.i64 1)) fun t129_1 =>
  callM P 156 #[data0_1, t129_1, b2_2, limit3_3] h_27 fun t132_1 h_29 =>
  I_1 [a1_2, t100_1, limit3_3, t126_1, t101_1] h_29 ∧ μ_1 [a1_2, t100_1, limit3_3, t126_1, t101_1] h_29 < μ_1 [a1_2, b2_2, limit3_2, wasBalanced8_1, wasPartitioned9_1] h_1))))
theorem e156 (data0_1 : Value) (a1_1 : Value) (b2_1 : Value) (limit3_1 : Value) (h : Heap) (K : Value → Heap → Prop) : wpA Tryz.prog 134 (anOf [(14, [1, 2, 3, 8, 9]), (455, [3]), (1823, [11, 12]), (3647, [])]) (bodyOf Tryz.f156) 1 (fun A h => resA Tryz.prog A h K []) (fun _ _ _ => False) (fun A h => resA Tryz.prog A h K []) (aargs [data0_1, a1_1, b2_1, limit3_1] 0) h = t156 Tryz.prog data0_1 a1_1 b2_1 limit3_1 h K := by kernel_rfl
theorem c156 (data0_1 : Value) (a1_1 : Value) (b2_1 : Value) (limit3_1 : Value) (h : Heap) (K : Value → Heap → Prop) (H : t156 Tryz.prog data0_1 a1_1 b2_1 limit3_1 h K) : callM Tryz.prog 156 #[data0_1, a1_1, b2_1, limit3_1] h K :=
  callM_of_wpA mixed (fn := Tryz.f156) Tryz.func156 (c := bodyOf Tryz.f156) rfl (of_decide_eq_true (by kernel_rfl)) (anOf [(14, [1, 2, 3, 8, 9]), (455, [3]), (1823, [11, 12]), (3647, [])]) 130 134 (by kernel_rfl) rfl [] (by kernel_rfl) (args := [data0_1, a1_1, b2_1, limit3_1]) (by rw [e156]; exact H)
def t157 (P : Program) (x0_1 : Value) (h : Heap) (K : Value → Heap → Prop) : Prop :=
  condM (Value.bool false)
  (rop P (convert 142 161 x0_1) h fun t4_1 =>
  callM P 167 #[t4_1] h fun t5_1 h_1 =>
  K t5_1 h_1)
  (callM P 168 #[x0_1] h fun t7_1 h_2 =>
  K t7_1 h_2)
theorem e157 (x0_1 : Value) (h : Heap) (K : Value → Heap → Prop) : wpA Tryz.prog 8 (anOf []) (bodyOf Tryz.f157) 1 (fun A h => resA Tryz.prog A h K [.tmp 2]) (fun _ _ _ => False) (fun A h => resA Tryz.prog A h K [.tmp 2]) (aargs [x0_1] 0) h = t157 Tryz.prog x0_1 h K := by kernel_rfl
theorem c157 (x0_1 : Value) (h : Heap) (K : Value → Heap → Prop) (H : t157 Tryz.prog x0_1 h K) : callM Tryz.prog 157 #[x0_1] h K :=
  callM_of_wpA mixed (fn := Tryz.f157) Tryz.func157 (c := bodyOf Tryz.f157) rfl (of_decide_eq_true (by kernel_rfl)) (anOf []) 7 8 (by kernel_rfl) rfl [.tmp 2] (by kernel_rfl) (args := [x0_1]) (by rw [e157]; exact H)
def t158 (P : Program) (data0_1 : Value) (a1_1 : Value) (b2_1 : Value) (h : Heap) (K : Value → Heap → Prop) : Prop :=
  pop P (binA .add 3 a1_1 (Value.int IntKind.i64 1)) fun t9_1 =>
  ∃ (I_1 : List Value → Heap → Prop) (μ_1 : List Value → Heap → Nat), I_1 [t9_1] h ∧
  ∀ (junk_1 : Nat → Value) (i6_1 : Value) (h_1 : Heap), I_1 [i6_1] h_1 →
  pop P (binA .lss 3 i6_1 b2_1) fun t12_1 =>
  condM t12_1
  (∃ (I_2 : List Value → Heap → Prop) (μ_2 : List Value → Heap → Nat), I_2 [i6_1] h_1 ∧
  ∀ (junk_2 : Nat → Value) (j7_1 : Value) (h_2 : Heap), I_2 [j7_1] h_2 →
  pop P (binA .gtr 3 j7_1 a1_1) fun t18_1 =>
  guardM (asG t18_1 true) true (fun k_1 => k_1 data0_1 h_2) h_2 fun t20_1 h_3 =>
  guardM (asG t18_1 true) true (fun k_2 => k_2 j7_1 h_3) h_3 fun t21_1 h_4 =>
  guardM (asG t18_1 true) true (fun k_3 => pop P (Instr.indexAt 29 t20_1 t21_1) fun t22_1 =>
  k_3 t22_1 h_4) h_4 fun t22_2 h_5 =>
  guardM (asG t18_1 true) true (fun k_4 => rop P (Instr.loadAt 3 t22_2) h_5 fun t23_1 =>
  k_4 t23_1 h_5) h_5 fun t23_2 h_6 =>
  guardM (asG t18_1 true) true (fun k_5 => k_5 data0_1 h_6) h_6 fun t24_1 h_7 =>
  guardM (asG t18_1 true) true (fun k_6 => k_6 j7_1 h_7) h_7 fun t25_1 h_8 =>
  guardM (asG t18_1 true) true (fun k_7 => pop P (binA .sub 3 t25_1 (Value.int IntKind.i64 1)) fun t26_1 =>
  k_7 t26_1 h_8) h_8 fun t26_2 h_9 =>
  guardM (asG t18_1 true) true (fun k_8 => pop P (Instr.indexAt 29 t24_1 t26_2) fun t27_1 =>
  k_8 t27_1 h_9) h_9 fun t27_2 h_10 =>
  guardM (asG t18_1 true) true (fun k_9 => rop P (Instr.loadAt 3 t27_2) h_10 fun t28_1 =>
  k_9 t28_1 h_10) h_10 fun t28_2 h_11 =>
  guardM (asG t18_1 true) true (fun k_10 => callM P 164 #[t23_2, t28_2] h_11 fun t29_1 h_12 =>
  k_10 t29_1 h_12) h_11 fun t29_2 h_13 =>
  pop P (pickS t18_1 t29_2 (Value.bool false)) fun t30_1 =>
  condM t30_1
  (pop P (binA .sub 3 j7_1 (Value.int IntKind.i64 1)) fun t37_1 =>
  pop P (binA .sub 3 j7_1 (Value.int IntKind.i64 1)) fun t40_1 =>
  pop P (Instr.indexAt 29 data0_1 t40_1) fun t41_1 =>
  rop P (Instr.loadAt 3 t41_1) h_13 fun t42_1 =>
  pop P (Instr.indexAt 29 data0_1 j7_1) fun t45_1 =>
  rop P (Instr.loadAt 3 t45_1) h_13 fun t46_1 =>
  pop P (Instr.indexAt 29 data0_1 j7_1) fun t47_1 =>
  uop P (Instr.storeAt 3 t47_1 t42_1) h_13 fun u_1 h_14 =>
  pop P (Instr.indexAt 29 data0_1 t37_1) fun t48_1 =>
  uop P (Instr.storeAt 3 t48_1 t46_1) h_14 fun u_2 h_15 =>
  pop P (binA .sub 3 j7_1 (Value.int IntKind.i64 1)) fun t32_1 =>
  I_2 [t32_1] h_15 ∧ μ_2 [t32_1] h_15 < μ_2 [j7_1] h_2)
  (pop P (binA .add 3 i6_1 (Value.int IntKind.i64 1)) fun t14_1 =>
  I_1 [t14_1] h_13 ∧ μ_1 [t14_1] h_13 < μ_1 [i6_1] h_1))
  (K (.tuple #[]) h_1)
theorem e158 (data0_1 : Value) (a1_1 : Value) (b2_1 : Value) (h : Heap) (K : Value → Heap → Prop) : wpA Tryz.prog 49 (anOf [(6, [6]), (402, [7])]) (bodyOf Tryz.f158) 1 (fun A h => resA Tryz.prog A h K []) (fun _ _ _ => False) (fun A h => resA Tryz.prog A h K []) (aargs [data0_1, a1_1, b2_1] 0) h = t158 Tryz.prog data0_1 a1_1 b2_1 h K := by kernel_rfl
theorem c158 (data0_1 : Value) (a1_1 : Value) (b2_1 : Value) (h : Heap) (K : Value → Heap → Prop) (H : t158 Tryz.prog data0_1 a1_1 b2_1 h K) : callM Tryz.prog 158 #[data0_1, a1_1, b2_1] h K :=
  callM_of_wpA mixed (fn := Tryz.f158) Tryz.func158 (c := bodyOf Tryz.f158) rfl (of_decide_eq_true (by kernel_rfl)) (anOf [(6, [6]), (402, [7])]) 46 49 (by kernel_rfl) rfl [] (by kernel_rfl) (args := [data0_1, a1_1, b2_1]) (by rw [e158]; exact H)
end Go.Proofs.YtkjkfjkapbpgiaaGreat
