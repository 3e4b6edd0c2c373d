import Derived.Test.YtkjkfjkapbpgiaaGreatDoorProg
import Derived.Test.YtkjkfjkapbpgiaaGreatDoorM1
set_option linter.unusedVariables false
namespace Go.Proofs.YtkjkfjkapbpgiaaGreatDoor
open Go Go.Mx
theorem mixed : Tryz.prog.follows .mixedOrders = true := by kernel_rfl
def t3 (P : Program) (code0_1 : Value) (more1_1 : Value) (h : Heap) (K : Value -> Heap -> Prop) : Prop :=
 callM P 5 #[code0_1, more1_1] h fun s63 h1 =>
 condM s63
 (K (Value.bool true) h1)
 (callM P 6 #[code0_1] h1 fun s66 h2 =>
 pop P (Instr.extract s66 0) fun s67 =>
 pop P (Instr.extract s66 1) fun s68 =>
 pop P (Instr.extract s66 2) fun s69 =>
 eop P (Instr.alloc 26 true (.tuple #[])) h2 fun g5_1 h3 =>
 eop P (Instr.alloc 28 true (.tuple #[])) h3 fun s7_1 h4 =>
 uop P (Instr.storeAt 26 g5_1 s67) h4 fun q1 h5 =>
 uop P (Instr.storeAt 28 s7_1 s69) h5 fun q2 h6 =>
 rop P (Instr.loadAt 26 g5_1) h6 fun s71 =>
 rop P (Instr.loadAt 28 s7_1) h6 fun s73 =>
 callM P 7 #[s71, s68, s73] h6 fun s74 h7 =>
 pop P (Instr.extract s74 0) fun s75 =>
 pop P (Instr.extract s74 1) fun s76 =>
 rop P (Instr.loadAt 26 g5_1) h7 fun s78 =>
 rop P (Instr.loadAt 28 s7_1) h7 fun s80 =>
 callM P 8 #[s78, s68, s80] h7 fun s81 h8 =>
 pop P (Instr.extract s81 0) fun s82 =>
 pop P (Instr.extract s81 1) fun s83 =>
 rop P (Instr.loadAt 26 g5_1) h8 fun s85 =>
 rop P (Instr.loadAt 28 s7_1) h8 fun s87 =>
 callM P 9 #[s85, s68, s87] h8 fun s88 h9 =>
 pop P (Instr.extract s88 0) fun s89 =>
 pop P (Instr.extract s88 1) fun s90 =>
 rop P (Instr.loadAt 26 g5_1) h9 fun s92 =>
 rop P (Instr.loadAt 28 s7_1) h9 fun s94 =>
 callM P 10 #[s92, s68, s94] h9 fun s95 h10 =>
 pop P (Instr.extract s95 0) fun s96 =>
 pop P (Instr.extract s95 1) fun s97 =>
 rop P (Instr.loadAt 26 g5_1) h10 fun s99 =>
 rop P (Instr.loadAt 28 s7_1) h10 fun s101 =>
 callM P 11 #[s99, s68, s101] h10 fun s102 h11 =>
 pop P (Instr.extract s102 0) fun s103 =>
 pop P (Instr.extract s102 1) fun s104 =>
 rop P (Instr.loadAt 26 g5_1) h11 fun s106 =>
 rop P (Instr.loadAt 28 s7_1) h11 fun s108 =>
 callM P 12 #[s106, s68, s108] h11 fun s109 h12 =>
 pop P (Instr.extract s109 0) fun s110 =>
 pop P (Instr.extract s109 1) fun s111 =>
 rop P (Instr.loadAt 26 g5_1) h12 fun s113 =>
 rop P (Instr.loadAt 28 s7_1) h12 fun s115 =>
 callM P 13 #[s113, s68, s115] h12 fun s116 h13 =>
 pop P (Instr.extract s116 0) fun s117 =>
 pop P (Instr.extract s116 1) fun s118 =>
 rop P (Instr.loadAt 26 g5_1) h13 fun s120 =>
 rop P (Instr.loadAt 28 s7_1) h13 fun s122 =>
 callM P 14 #[s120, s68, s122] h13 fun s123 h14 =>
 pop P (Instr.extract s123 0) fun s124 =>
 pop P (Instr.extract s123 1) fun s125 =>
 pop P (binE .neq 4 (.tmp 126) (.tmp 127) s76 s83) fun s128 =>
 guardM (asG s128 false) false (fun k_1 => k_1 s75 h14) h14 fun s130 h15 =>
 guardM (asG s128 false) false (fun k_2 => k_2 s82 h15) h15 fun s131 h16 =>
 guardM (asG s128 false) false (fun k_3 => callM P 15 #[s130, s131] h16 fun s132 h17 =>
 k_3 s132 h17) h16 fun s132b h18 =>
 guardM (asG s128 false) false (fun k_4 => pop P (Op.unary .not s132b) fun s133 =>
 k_4 s133 h18) h18 fun s133b h19 =>
 pop P (pickS s128 (Value.bool true) s133b) fun s134 =>
 guardM (asG s134 false) false (fun k_5 => k_5 s90 h19) h19 fun s136 h20 =>
 guardM (asG s134 false) false (fun k_6 => k_6 s97 h20) h20 fun s137 h21 =>
 guardM (asG s134 false) false (fun k_7 => pop P (binE .neq 4 (.tmp 136) (.tmp 137) s136 s137) fun s138 =>
 k_7 s138 h21) h21 fun s138b h22 =>
 pop P (pickS s134 (Value.bool true) s138b) fun s139 =>
 guardM (asG s139 false) false (fun k_8 => k_8 s89 h22) h22 fun s141 h23 =>
 guardM (asG s139 false) false (fun k_9 => k_9 s96 h23) h23 fun s142 h24 =>
 guardM (asG s139 false) false (fun k_10 => callM P 16 #[s141, s142] h24 fun s143 h25 =>
 k_10 s143 h25) h24 fun s143b h26 =>
 guardM (asG s139 false) false (fun k_11 => pop P (Op.unary .not s143b) fun s144 =>
 k_11 s144 h26) h26 fun s144b h27 =>
 pop P (pickS s139 (Value.bool true) s144b) fun s145 =>
 guardM (asG s145 false) false (fun k_12 => k_12 s104 h27) h27 fun s147 h28 =>
 guardM (asG s145 false) false (fun k_13 => k_13 s111 h28) h28 fun s148 h29 =>
 guardM (asG s145 false) false (fun k_14 => pop P (binE .neq 4 (.tmp 147) (.tmp 148) s147 s148) fun s149 =>
 k_14 s149 h29) h29 fun s149b h30 =>
 pop P (pickS s145 (Value.bool true) s149b) fun s150 =>
 guardM (asG s150 false) false (fun k_15 => k_15 s103 h30) h30 fun s152 h31 =>
 guardM (asG s150 false) false (fun k_16 => k_16 s110 h31) h31 fun s153 h32 =>
 guardM (asG s150 false) false (fun k_17 => pop P (binE .neq 4 (.tmp 152) (.tmp 153) s152 s153) fun s154 =>
 k_17 s154 h32) h32 fun s154b h33 =>
 pop P (pickS s150 (Value.bool true) s154b) fun s155 =>
 guardM (asG s155 false) false (fun k_18 => k_18 s118 h33) h33 fun s157 h34 =>
 guardM (asG s155 false) false (fun k_19 => k_19 s125 h34) h34 fun s158 h35 =>
 guardM (asG s155 false) false (fun k_20 => pop P (binE .neq 4 (.tmp 157) (.tmp 158) s157 s158) fun s159 =>
 k_20 s159 h35) h35 fun s159b h36 =>
 pop P (pickS s155 (Value.bool true) s159b) fun s160 =>
 guardM (asG s160 false) false (fun k_21 => k_21 s117 h36) h36 fun s162 h37 =>
 guardM (asG s160 false) false (fun k_22 => k_22 s124 h37) h37 fun s163 h38 =>
 guardM (asG s160 false) false (fun k_23 => callM P 16 #[s162, s163] h38 fun s164 h39 =>
 k_23 s164 h39) h38 fun s164b h40 =>
 guardM (asG s160 false) false (fun k_24 => pop P (Op.unary .not s164b) fun s165 =>
 k_24 s165 h40) h40 fun s165b h41 =>
 pop P (pickS s160 (Value.bool true) s165b) fun s166 =>
 guardM (asG s166 false) false (fun k_25 => k_25 s76 h41) h41 fun s168 h42 =>
 guardM (asG s166 false) false (fun k_26 => k_26 s104 h42) h42 fun s169 h43 =>
 guardM (asG s166 false) false (fun k_27 => k_27 s169 h43) h43 fun s170 h44 =>
 guardM (asG s170 true) true (fun k_28 => k_28 s103 h44) h44 fun s171 h45 =>
 guardM (asG s166 false) false (fun k_29 => pop P (pickS s170 s171 (Value.bool false)) fun s172 =>
 k_29 s172 h45) h45 fun s172b h46 =>
 guardM (asG s166 false) false (fun k_30 => pop P (binE .neq 4 (.tmp 168) (.tmp 172) s168 s172b) fun s173 =>
 k_30 s173 h46) h46 fun s173b h47 =>
 pop P (pickS s166 (Value.bool true) s173b) fun s174 =>
 guardM (asG s174 false) false (fun k_31 => k_31 s90 h47) h47 fun s176 h48 =>
 guardM (asG s174 false) false (fun k_32 => k_32 s76 h48) h48 fun s177 h49 =>
 guardM (asG s174 false) false (fun k_33 => k_33 s177 h49) h49 fun s178 h50 =>
 guardM (asG s178 true) true (fun k_34 => k_34 s75 h50) h50 fun s179 h51 =>
 guardM (asG s178 true) true (fun k_35 => pop P (lenS 24 3 s179) fun s180 =>
 k_35 s180 h51) h51 fun s180b h52 =>
 guardM (asG s178 true) true (fun k_36 => pop P (binA .gtr 3 s180b (.int .i64 0)) fun s181 =>
 k_36 s181 h52) h52 fun s181b h53 =>
 guardM (asG s174 false) false (fun k_37 => pop P (pickS s178 s181b (Value.bool false)) fun s182 =>
 k_37 s182 h53) h53 fun s182b h54 =>
 guardM (asG s174 false) false (fun k_38 => pop P (binE .neq 4 (.tmp 176) (.tmp 182) s176 s182b) fun s183 =>
 k_38 s183 h54) h54 fun s183b h55 =>
 pop P (pickS s174 (Value.bool true) s183b) fun s184 =>
 guardM (asG s184 false) false (fun k_39 => k_39 s118 h55) h55 fun s186 h56 =>
 guardM (asG s184 false) false (fun k_40 => k_40 s186 h56) h56 fun s187 h57 =>
 guardM (asG s187 true) true (fun k_41 => k_41 s76 h57) h57 fun s188 h58 =>
 guardM (asG s187 true) true (fun k_42 => pop P (Op.unary .not s188) fun s189 =>
 k_42 s189 h58) h58 fun s189b h59 =>
 guardM (asG s184 false) false (fun k_43 => pop P (pickS s187 s189b (Value.bool false)) fun s190 =>
 k_43 s190 h59) h59 fun s190b h60 =>
 pop P (pickS s184 (Value.bool true) s190b) fun s191 =>
 condM s191
 (K (Value.bool false) h60)
 (∃ J1 : List Value -> Heap -> Prop, (condM s76
 (pop P (lenS 24 3 s75) fun s194 =>
 ∃ (I1 : List Value -> Heap -> Prop) (μ_1 : List Value -> Heap -> Nat), I1 [(.int .i64 0), (.int .i64 0)] h60 /\
 ∀ (junk1 : Nat -> Value) (seen24_1 : Value) (s195 : Value) (h61 : Heap), I1 [seen24_1, s195] h61 ->
 pop P (binA .lss 3 s195 s194) fun s196 =>
 condM s196
 (pop P (Instr.indexAt 24 s75 s195) fun s198 =>
 rop P (Instr.loadAt 33 s198) h61 fun s199 =>
 pop P (binA .gtr 3 s195 (.int .i64 0)) fun s201 =>
 guardM (asG s201 true) true (fun k_44 => k_44 s75 h61) h61 fun s203 h62 =>
 guardM (asG s201 true) true (fun k_45 => k_45 s195 h62) h62 fun s204 h63 =>
 guardM (asG s201 true) true (fun k_46 => pop P (binA .sub 3 s204 (.int .i64 1)) fun s205 =>
 k_46 s205 h63) h63 fun s205b h64 =>
 guardM (asG s201 true) true (fun k_47 => pop P (Instr.indexAt 24 s203 s205b) fun s206 =>
 k_47 s206 h64) h64 fun s206b h65 =>
 guardM (asG s201 true) true (fun k_48 => rop P (Instr.loadAt 33 s206b) h65 fun s207 =>
 k_48 s207 h65) h65 fun s207b h66 =>
 guardM (asG s201 true) true (fun k_49 => pop P (Instr.indexAt 33 s207b (.int .i64 0)) fun s208 =>
 k_49 s208 h66) h66 fun s208b h67 =>
 guardM (asG s201 true) true (fun k_50 => rop P (Instr.loadAt 3 s208b) h67 fun s209 =>
 k_50 s209 h67) h67 fun s209b h68 =>
 guardM (asG s201 true) true (fun k_51 => k_51 s199 h68) h68 fun s210 h69 =>
 guardM (asG s201 true) true (fun k_52 => pop P (Instr.indexAt 33 s210 (.int .i64 0)) fun s211 =>
 k_52 s211 h69) h69 fun s211b h70 =>
 guardM (asG s201 true) true (fun k_53 => rop P (Instr.loadAt 3 s211b) h70 fun s212 =>
 k_53 s212 h70) h70 fun s212b h71 =>
 guardM (asG s201 true) true (fun k_54 => pop P (binA .geq 3 s209b s212b) fun s213 =>
 k_54 s213 h71) h71 fun s213b h72 =>
 pop P (pickS s201 s213b (Value.bool false)) fun s214 =>
 condM s214
 (K (Value.bool false) h72)
 (pop P (lenS 33 3 s199) fun s216 =>
 ∃ (I2 : List Value -> Heap -> Prop) (μ_2 : List Value -> Heap -> Nat), I2 [seen24_1, (.int .i64 0)] h72 /\
 ∀ (junk2 : Nat -> Value) (seen24_2 : Value) (s217 : Value) (h73 : Heap), I2 [seen24_2, s217] h73 ->
 pop P (binA .lss 3 s217 s216) fun s218 =>
 condM s218
 (pop P (Instr.indexAt 33 s199 s217) fun s220 =>
 rop P (Instr.loadAt 3 s220) h73 fun s221 =>
 pop P (Instr.indexAt 33 s199 (.int .i64 0)) fun s224 =>
 rop P (Instr.loadAt 3 s224) h73 fun s225 =>
 pop P (binA .lss 3 s221 s225) fun s226 =>
 guardM (asG s226 false) false (fun k_55 => k_55 s221 h73) h73 fun s228 h74 =>
 guardM (asG s226 false) false (fun k_56 => k_56 s68 h74) h74 fun s229 h75 =>
 guardM (asG s226 false) false (fun k_57 => pop P (binE .eql 3 (.tmp 228) (.tmp 229) s228 s229) fun s230 =>
 k_57 s230 h75) h75 fun s230b h76 =>
 pop P (pickS s226 (Value.bool true) s230b) fun s231 =>
 guardM (asG s231 false) false (fun k_58 => k_58 seen24_2 h76) h76 fun s233 h77 =>
 guardM (asG s231 false) false (fun k_59 => k_59 s221 h77) h77 fun s234 h78 =>
 guardM (asG s231 false) false (fun k_60 => pop P (binA .shr 3 s233 s234) fun s235 =>
 k_60 s235 h78) h78 fun s235b h79 =>
 guardM (asG s231 false) false (fun k_61 => pop P (binA .rem 3 s235b (.int .i64 2)) fun s236 =>
 k_61 s236 h79) h79 fun s236b h80 =>
 guardM (asG s231 false) false (fun k_62 => pop P (binE .eql 3 (.tmp 236) (.const (.int .i64 1)) s236b (.int .i64 1)) fun s237 =>
 k_62 s237 h80) h80 fun s237b h81 =>
 pop P (pickS s231 (Value.bool true) s237b) fun s238 =>
 guardM (asG s238 false) false (fun k_63 => pop P (Instr.fieldAt 28 s7_1 0) fun s240 =>
 k_63 s240 h81) h81 fun s240b h82 =>
 guardM (asG s238 false) false (fun k_64 => rop P (Instr.loadAt 24 s240b) h82 fun s241 =>
 k_64 s241 h82) h82 fun s241b h83 =>
 guardM (asG s238 false) false (fun k_65 => k_65 s221 h83) h83 fun s242 h84 =>
 guardM (asG s238 false) false (fun k_66 => pop P (Instr.indexAt 24 s241b s242) fun s243 =>
 k_66 s243 h84) h84 fun s243b h85 =>
 guardM (asG s238 false) false (fun k_67 => rop P (Instr.loadAt 33 s243b) h85 fun s244 =>
 k_67 s244 h85) h85 fun s244b h86 =>
 guardM (asG s238 false) false (fun k_68 => pop P (lenS 33 3 s244b) fun s245 =>
 k_68 s245 h86) h86 fun s245b h87 =>
 guardM (asG s238 false) false (fun k_69 => pop P (binE .eql 3 (.tmp 245) (.const (.int .i64 0)) s245b (.int .i64 0)) fun s246 =>
 k_69 s246 h87) h87 fun s246b h88 =>
 pop P (pickS s238 (Value.bool true) s246b) fun s247 =>
 guardM (asG s247 false) false (fun k_70 => pop P (Instr.fieldAt 26 g5_1 0) fun s249 =>
 k_70 s249 h88) h88 fun s249b h89 =>
 guardM (asG s247 false) false (fun k_71 => rop P (Instr.loadAt 24 s249b) h89 fun s250 =>
 k_71 s250 h89) h89 fun s250b h90 =>
 guardM (asG s247 false) false (fun k_72 => k_72 s221 h90) h90 fun s251 h91 =>
 guardM (asG s247 false) false (fun k_73 => pop P (Instr.indexAt 24 s250b s251) fun s252 =>
 k_73 s252 h91) h91 fun s252b h92 =>
 guardM (asG s247 false) false (fun k_74 => rop P (Instr.loadAt 33 s252b) h92 fun s253 =>
 k_74 s253 h92) h92 fun s253b h93 =>
 guardM (asG s247 false) false (fun k_75 => pop P (Instr.fieldAt 28 s7_1 0) fun s254 =>
 k_75 s254 h93) h93 fun s254b h94 =>
 guardM (asG s247 false) false (fun k_76 => rop P (Instr.loadAt 24 s254b) h94 fun s255 =>
 k_76 s255 h94) h94 fun s255b h95 =>
 guardM (asG s247 false) false (fun k_77 => k_77 s221 h95) h95 fun s256 h96 =>
 guardM (asG s247 false) false (fun k_78 => pop P (Instr.indexAt 24 s255b s256) fun s257 =>
 k_78 s257 h96) h96 fun s257b h97 =>
 guardM (asG s247 false) false (fun k_79 => rop P (Instr.loadAt 33 s257b) h97 fun s258 =>
 k_79 s258 h97) h97 fun s258b h98 =>
 guardM (asG s247 false) false (fun k_80 => pop P (Instr.indexAt 33 s258b (.int .i64 0)) fun s259 =>
 k_80 s259 h98) h98 fun s259b h99 =>
 guardM (asG s247 false) false (fun k_81 => rop P (Instr.loadAt 3 s259b) h99 fun s260 =>
 k_81 s260 h99) h99 fun s260b h100 =>
 guardM (asG s247 false) false (fun k_82 => pop P (Instr.indexAt 33 s253b s260b) fun s261 =>
 k_82 s261 h100) h100 fun s261b h101 =>
 guardM (asG s247 false) false (fun k_83 => rop P (Instr.loadAt 3 s261b) h101 fun s262 =>
 k_83 s262 h101) h101 fun s262b h102 =>
 guardM (asG s247 false) false (fun k_84 => k_84 s199 h102) h102 fun s263 h103 =>
 guardM (asG s247 false) false (fun k_85 => k_85 s217 h103) h103 fun s264 h104 =>
 guardM (asG s247 false) false (fun k_86 => pop P (binA .add 3 s264 (.int .i64 1)) fun s265 =>
 k_86 s265 h104) h104 fun s265b h105 =>
 guardM (asG s247 false) false (fun k_87 => k_87 s199 h105) h105 fun s266 h106 =>
 guardM (asG s247 false) false (fun k_88 => pop P (lenS 33 3 s266) fun s267 =>
 k_88 s267 h106) h106 fun s267b h107 =>
 guardM (asG s247 false) false (fun k_89 => pop P (binA .rem 3 s265b s267b) fun s268 =>
 k_89 s268 h107) h107 fun s268b h108 =>
 guardM (asG s247 false) false (fun k_90 => pop P (Instr.indexAt 33 s263 s268b) fun s269 =>
 k_90 s269 h108) h108 fun s269b h109 =>
 guardM (asG s247 false) false (fun k_91 => rop P (Instr.loadAt 3 s269b) h109 fun s270 =>
 k_91 s270 h109) h109 fun s270b h110 =>
 guardM (asG s247 false) false (fun k_92 => pop P (binE .neq 3 (.tmp 262) (.tmp 270) s262b s270b) fun s271 =>
 k_92 s271 h110) h110 fun s271b h111 =>
 pop P (pickS s247 (Value.bool true) s271b) fun s272 =>
 condM s272
 (K (Value.bool false) h111)
 (pop P (binA .shl 3 (.int .i64 1) s221) fun s275 =>
 pop P (binA .or 3 seen24_2 s275) fun s276 =>
 pop P (binA .add 3 s217 (.int .i64 1)) fun s277 =>
 I2 [s276, s277] h111 /\ μ_2 [s276, s277] h111 < μ_2 [seen24_2, s217] h73))
 (pop P (binA .add 3 s195 (.int .i64 1)) fun s278 =>
 I1 [seen24_2, s278] h73 /\ μ_1 [seen24_2, s278] h73 < μ_1 [seen24_1, s195] h61)))
 (guardM (asG s90 true) true (fun k_93 => k_93 s89 h61) h61 fun s281 h112 =>
 guardM (asG s90 true) true (fun k_94 => k_94 s75 h112) h112 fun s282 h113 =>
 guardM (asG s90 true) true (fun k_95 => pop P (Instr.indexAt 24 s282 (.int .i64 0)) fun s283 =>
 k_95 s283 h113) h113 fun s283b h114 =>
 guardM (asG s90 true) true (fun k_96 => rop P (Instr.loadAt 33 s283b) h114 fun s284 =>
 k_96 s284 h114) h114 fun s284b h115 =>
 guardM (asG s90 true) true (fun k_97 => callM P 16 #[s281, s284b] h115 fun s285 h116 =>
 k_97 s285 h116) h115 fun s285b h117 =>
 guardM (asG s90 true) true (fun k_98 => pop P (Op.unary .not s285b) fun s286 =>
 k_98 s286 h117) h117 fun s286b h118 =>
 pop P (pickS s90 s286b (Value.bool false)) fun s287 =>
 condM s287
 (K (Value.bool false) h118)
 (guardM (asG s118 true) true (fun k_99 => k_99 s75 h118) h118 fun s290 h119 =>
 guardM (asG s118 true) true (fun k_100 => pop P (lenS 24 3 s290) fun s291 =>
 k_100 s291 h119) h119 fun s291b h120 =>
 guardM (asG s118 true) true (fun k_101 => pop P (binE .eql 3 (.tmp 291) (.const (.int .i64 0)) s291b (.int .i64 0)) fun s292 =>
 k_101 s292 h120) h120 fun s292b h121 =>
 pop P (pickS s118 s292b (Value.bool false)) fun s293 =>
 condM s293
 (rop P (Instr.loadAt 26 g5_1) h121 fun s295 =>
 callM P 17 #[s295, s68, s117] h121 fun s298 h122 =>
 pop P (Instr.extract s298 0) fun s299 =>
 pop P (Instr.extract s298 1) fun s300 =>
 pop P (Op.unary .not s300) fun s302 =>
 guardM (asG s302 false) false (fun k_102 => k_102 s299 h122) h122 fun s304 h123 =>
 guardM (asG s302 false) false (fun k_103 => pop P (Op.unary .not s304) fun s305 =>
 k_103 s305 h123) h123 fun s305b h124 =>
 pop P (pickS s302 (Value.bool true) s305b) fun s306 =>
 condM s306
 (K (Value.bool false) h124)
 (J1 [] h124))
 (J1 [] h121))))
 (J1 [] h60)) /\
 ∀ (junk3 : Nat -> Value) (h125 : Heap), J1 [] h125 ->
 callM P 18 #[more1_1] h125 fun s309 h126 =>
 pop P (Instr.extract s309 0) fun s310 =>
 pop P (Instr.extract s309 1) fun s311 =>
 pop P (Instr.extract s309 2) fun s312 =>
 pop P (Instr.extract s309 3) fun s313 =>
 eop P (Instr.alloc 26 true (.tuple #[])) h126 fun x31_1 h127 =>
 eop P (Instr.alloc 28 true (.tuple #[])) h127 fun u33_1 h128 =>
 uop P (Instr.storeAt 26 x31_1 s310) h128 fun q3 h129 =>
 uop P (Instr.storeAt 28 u33_1 s312) h129 fun q4 h130 =>
 rop P (Instr.loadAt 26 x31_1) h130 fun s315 =>
 rop P (Instr.loadAt 28 u33_1) h130 fun s317 =>
 callM P 19 #[s315, s311, s317, s313] h130 fun s319 h131 =>
 pop P (Instr.extract s319 0) fun s320 =>
 pop P (Instr.extract s319 1) fun s321 =>
 eop P (Instr.alloc 28 true (.tuple #[])) h131 fun popped35_1 h132 =>
 uop P (Instr.storeAt 28 popped35_1 s320) h132 fun q5 h133 =>
 rop P (Instr.loadAt 26 x31_1) h133 fun s323 =>
 rop P (Instr.loadAt 28 u33_1) h133 fun s325 =>
 callM P 20 #[s323, s311, s325, s313] h133 fun s327 h134 =>
 pop P (Instr.extract s327 0) fun s328 =>
 pop P (Instr.extract s327 1) fun s329 =>
 eop P (Instr.alloc 28 true (.tuple #[])) h134 fun value37_1 h135 =>
 uop P (Instr.storeAt 28 value37_1 s328) h135 fun q6 h136 =>
 pop P (binE .neq 4 (.tmp 330) (.tmp 331) s321 s329) fun s332 =>
 guardM (asG s332 false) false (fun k_104 => rop P (Instr.loadAt 28 popped35_1) h136 fun s334 =>
 k_104 s334 h136) h136 fun s334b h137 =>
 guardM (asG s332 false) false (fun k_105 => rop P (Instr.loadAt 28 value37_1) h137 fun s335 =>
 k_105 s335 h137) h137 fun s335b h138 =>
 guardM (asG s332 false) false (fun k_106 => callM P 21 #[s334b, s335b] h138 fun s336 h139 =>
 k_106 s336 h139) h138 fun s336b h140 =>
 guardM (asG s332 false) false (fun k_107 => pop P (Op.unary .not s336b) fun s337 =>
 k_107 s337 h140) h140 fun s337b h141 =>
 pop P (pickS s332 (Value.bool true) s337b) fun s338 =>
 condM s338
 (K (Value.bool false) h141)
 (∃ J2 : List Value -> Heap -> Prop, (condM s321
 (rop P (Instr.loadAt 26 x31_1) h141 fun s341 =>
 rop P (Instr.loadAt 28 u33_1) h141 fun s343 =>
 callM P 7 #[s341, s311, s343] h141 fun s344 h142 =>
 pop P (Instr.extract s344 0) fun s345 =>
 pop P (Instr.extract s344 1) fun s346 =>
 pop P (lenS 24 3 s345) fun s348 =>
 ∃ (I3 : List Value -> Heap -> Prop) (μ_3 : List Value -> Heap -> Nat), I3 [(Value.slice none 0 0), (.int .i64 0)] h142 /\
 ∀ (junk4 : Nat -> Value) (own41_1 : Value) (s349 : Value) (h143 : Heap), I3 [own41_1, s349] h143 ->
 pop P (binA .lss 3 s349 s348) fun s350 =>
 condM s350
 (pop P (Instr.indexAt 24 s345 s349) fun s351 =>
 rop P (Instr.loadAt 33 s351) h143 fun s352 =>
 callM P 22 #[s352, s313] h143 fun s355 h144 =>
 condM s355
 (pop P (binA .add 3 s349 (.int .i64 1)) fun s357 =>
 I3 [s352, s357] h144 /\ μ_3 [s352, s357] h144 < μ_3 [own41_1, s349] h143)
 (pop P (binA .add 3 s349 (.int .i64 1)) fun s357b =>
 I3 [own41_1, s357b] h144 /\ μ_3 [own41_1, s357b] h144 < μ_3 [own41_1, s349] h143))
 (pop P (Op.unary .not s346) fun s359 =>
 guardM (asG s359 false) false (fun k_108 => k_108 own41_1 h143) h143 fun s361 h145 =>
 guardM (asG s359 false) false (fun k_109 => pop P (lenS 33 3 s361) fun s362 =>
 k_109 s362 h145) h145 fun s362b h146 =>
 guardM (asG s359 false) false (fun k_110 => pop P (binE .eql 3 (.tmp 362) (.const (.int .i64 0)) s362b (.int .i64 0)) fun s363 =>
 k_110 s363 h146) h146 fun s363b h147 =>
 pop P (pickS s359 (Value.bool true) s363b) fun s364 =>
 condM s364
 (K (Value.bool false) h147)
 (pop P (Instr.fieldAt 26 x31_1 0) fun s365 =>
 rop P (Instr.loadAt 24 s365) h147 fun s366 =>
 pop P (lenS 24 3 s366) fun s367 =>
 ∃ (I4 : List Value -> Heap -> Prop) (μ_4 : List Value -> Heap -> Nat), I4 [(.int .i64 0)] h147 /\
 ∀ (junk5 : Nat -> Value) (s368 : Value) (h148 : Heap), I4 [s368] h148 ->
 pop P (binA .lss 3 s368 s367) fun s369 =>
 condM s369
 (∃ J3 : List Value -> Heap -> Prop, (callM P 22 #[own41_1, s368] h148 fun s373 h149 =>
 condM s373
 (J3 [(.int .i64 1)] h149)
 (J3 [(.int .i64 0)] h149)) /\
 ∀ (junk6 : Nat -> Value) (n45_1 : Value) (h150 : Heap), J3 [n45_1] h150 ->
 pop P (Instr.fieldAt 28 popped35_1 0) fun s374 =>
 rop P (Instr.loadAt 24 s374) h150 fun s375 =>
 pop P (Instr.indexAt 24 s375 s368) fun s377 =>
 rop P (Instr.loadAt 33 s377) h150 fun s378 =>
 pop P (Instr.fieldAt 28 u33_1 0) fun s379 =>
 rop P (Instr.loadAt 24 s379) h150 fun s380 =>
 pop P (Instr.indexAt 24 s380 s368) fun s382 =>
 rop P (Instr.loadAt 33 s382) h150 fun s383 =>
 pop P (Instr.sliceAt 33 s383 (some n45_1) none none) fun s385 =>
 callM P 16 #[s378, s385] h150 fun s386 h151 =>
 (∀ w : World, w.heap = h151 -> (Instr.loadAt 33 s382).run P w = .ok s383 w) /\
 (∀ w : World, w.heap = h151 -> (Instr.loadAt 24 s379).run P w = .ok s380 w) /\
 (∀ w : World, w.heap = h151 -> (Instr.loadAt 24 s374).run P w = .ok s375 w) /\
 pop P (Op.unary .not s386) fun s387 =>
 condM s387
 (K (Value.bool false) h151)
 (pop P (binA .add 3 s368 (.int .i64 1)) fun s388 =>
 I4 [s388] h151 /\ μ_4 [s388] h151 < μ_4 [s368] h148))
 (J2 [] h148))))
 (J2 [] h141)) /\
 ∀ (junk7 : Nat -> Value) (h152 : Heap), J2 [] h152 ->
 callM P 23 #[more1_1] h152 fun s391 h153 =>
 pop P (Instr.extract s391 0) fun s392 =>
 pop P (Instr.extract s391 1) fun s393 =>
 pop P (Instr.extract s391 2) fun s394 =>
 pop P (Instr.extract s391 3) fun s395 =>
 eop P (Instr.alloc 26 true (.tuple #[])) h153 fun h46_1 h154 =>
 uop P (Instr.storeAt 26 h46_1 s392) h154 fun q7 h155 =>
 rop P (Instr.loadAt 26 h46_1) h155 fun s397 =>
 callM P 24 #[s397, s393, s394, s395] h155 fun s401 h156 =>
 pop P (Instr.extract s401 0) fun s402 =>
 pop P (Instr.extract s401 1) fun s403 =>
 eop P (Instr.alloc 28 true (.tuple #[])) h156 fun made50_1 h157 =>
 uop P (Instr.storeAt 28 made50_1 s402) h157 fun q8 h158 =>
 rop P (Instr.loadAt 26 h46_1) h158 fun s405 =>
 callM P 25 #[s405, s393, s394, s395] h158 fun s409 h159 =>
 pop P (Instr.extract s409 0) fun s410 =>
 pop P (Instr.extract s409 1) fun s411 =>
 eop P (Instr.alloc 28 true (.tuple #[])) h159 fun due52_1 h160 =>
 uop P (Instr.storeAt 28 due52_1 s410) h160 fun q9 h161 =>
 callM P 26 #[more1_1] h161 fun s413 h162 =>
 eop P (Instr.alloc 28 true (.tuple #[])) h162 fun y54_1 h163 =>
 uop P (Instr.storeAt 28 y54_1 s413) h163 fun q10 h164 =>
 rop P (Instr.loadAt 28 y54_1) h164 fun s415 =>
 callM P 27 #[s415] h164 fun s416 h165 =>
 pop P (Instr.extract s416 0) fun s417 =>
 pop P (Instr.extract s416 1) fun s418 =>
 rop P (Instr.loadAt 28 y54_1) h165 fun s420 =>
 callM P 28 #[s420] h165 fun s421 h166 =>
 pop P (Instr.extract s421 0) fun s422 =>
 pop P (Instr.extract s421 1) fun s423 =>
 pop P (binE .neq 4 (.tmp 424) (.tmp 425) s403 s411) fun s426 =>
 guardM (asG s426 false) false (fun k_111 => rop P (Instr.loadAt 28 made50_1) h166 fun s428 =>
 k_111 s428 h166) h166 fun s428b h167 =>
 guardM (asG s426 false) false (fun k_112 => rop P (Instr.loadAt 28 due52_1) h167 fun s429 =>
 k_112 s429 h167) h167 fun s429b h168 =>
 guardM (asG s426 false) false (fun k_113 => callM P 21 #[s428b, s429b] h168 fun s430 h169 =>
 k_113 s430 h169) h168 fun s430b h170 =>
 guardM (asG s426 false) false (fun k_114 => pop P (Op.unary .not s430b) fun s431 =>
 k_114 s431 h170) h170 fun s431b h171 =>
 pop P (pickS s426 (Value.bool true) s431b) fun s432 =>
 guardM (asG s432 false) false (fun k_115 => k_115 s418 h171) h171 fun s434 h172 =>
 guardM (asG s432 false) false (fun k_116 => k_116 s423 h172) h172 fun s435 h173 =>
 guardM (asG s432 false) false (fun k_117 => pop P (binE .neq 4 (.tmp 434) (.tmp 435) s434 s435) fun s436 =>
 k_117 s436 h173) h173 fun s436b h174 =>
 pop P (pickS s432 (Value.bool true) s436b) fun s437 =>
 guardM (asG s437 false) false (fun k_118 => k_118 s417 h174) h174 fun s439 h175 =>
 guardM (asG s437 false) false (fun k_119 => k_119 s422 h175) h175 fun s440 h176 =>
 guardM (asG s437 false) false (fun k_120 => pop P (binE .neq 9 (.tmp 439) (.tmp 440) s439 s440) fun s441 =>
 k_120 s441 h176) h176 fun s441b h177 =>
 pop P (pickS s437 (Value.bool true) s441b) fun s442 =>
 condM s442
 (K (Value.bool false) h177)
 (condM s403
 (rop P (Instr.loadAt 26 h46_1) h177 fun s445 =>
 rop P (Instr.loadAt 28 made50_1) h177 fun s447 =>
 callM P 11 #[s445, s393, s447] h177 fun s448 h178 =>
 pop P (Instr.extract s448 0) fun s449 =>
 pop P (Instr.extract s448 1) fun s450 =>
 guardM (asG s450 true) true (fun k_121 => k_121 s449 h178) h178 fun s453 h179 =>
 pop P (pickS s450 s453 (Value.bool false)) fun s454 =>
 K s454 h179)
 (K (Value.bool true) h177)))))
theorem e3 (code0_1 : Value) (more1_1 : Value) (h : Heap) (K : Value -> Heap -> Prop) : wpA Tryz.prog 455 (anOf [(8191, []), (262143, []), (1048490, [24, 195]), (67108698, [41, 349]), (134217406, [368]), (536827086, [24, 217]), (17179828019, [45])]) (bodyOf Tryz.f3) 1 (fun A h => resA Tryz.prog A h K [.tmp 4]) (fun _ _ _ => False) (fun A h => resA Tryz.prog A h K [.tmp 4]) (aargs [code0_1, more1_1] 0) h = t3 Tryz.prog code0_1 more1_1 h K := by kernel_rfl
theorem c3 (code0_1 : Value) (more1_1 : Value) (h : Heap) (K : Value -> Heap -> Prop) (H : t3 Tryz.prog code0_1 more1_1 h K) : callM Tryz.prog 3 #[code0_1, more1_1] h K :=
  callM_of_wpA mixed (fn := Tryz.f3) Tryz.func3 (c := bodyOf Tryz.f3) rfl (of_decide_eq_true (by kernel_rfl)) (anOf [(8191, []), (262143, []), (1048490, [24, 195]), (67108698, [41, 349]), (134217406, [368]), (536827086, [24, 217]), (17179828019, [45])]) 453 455 (by kernel_rfl) rfl [.tmp 4] (by kernel_rfl) (args := [code0_1, more1_1]) (by rw [e3]; exact H)
def t5 (P : Program) (code0_1 : Value) (more1_1 : Value) (h : Heap) (K : Value -> Heap -> Prop) : Prop :=
 pop P (lenS 22 3 code0_1) fun s6 =>
 pop P (binA .gtr 3 s6 (.int .i64 1048576)) fun s7 =>
 guardM (asG s7 false) false (fun k_1 => k_1 more1_1 h) h fun s9 h1 =>
 guardM (asG s7 false) false (fun k_2 => pop P (lenS 22 3 s9) fun s10 =>
 k_2 s10 h1) h1 fun s10b h2 =>
 guardM (asG s7 false) false (fun k_3 => k_3 code0_1 h2) h2 fun s11 h3 =>
 guardM (asG s7 false) false (fun k_4 => pop P (lenS 22 3 s11) fun s12 =>
 k_4 s12 h3) h3 fun s12b h4 =>
 guardM (asG s7 false) false (fun k_5 => pop P (binA .sub 3 (.int .i64 1048576) s12b) fun s13 =>
 k_5 s13 h4) h4 fun s13b h5 =>
 guardM (asG s7 false) false (fun k_6 => pop P (binA .gtr 3 s10b s13b) fun s14 =>
 k_6 s14 h5) h5 fun s14b h6 =>
 pop P (pickS s7 (Value.bool true) s14b) fun s15 =>
 K s15 h6
theorem e5 (code0_1 : Value) (more1_1 : Value) (h : Heap) (K : Value -> Heap -> Prop) : wpA Tryz.prog 16 (anOf []) (bodyOf Tryz.f5) 1 (fun A h => resA Tryz.prog A h K [.tmp 4]) (fun _ _ _ => False) (fun A h => resA Tryz.prog A h K [.tmp 4]) (aargs [code0_1, more1_1] 0) h = t5 Tryz.prog code0_1 more1_1 h K := by kernel_rfl
theorem c5 (code0_1 : Value) (more1_1 : Value) (h : Heap) (K : Value -> Heap -> Prop) (H : t5 Tryz.prog code0_1 more1_1 h K) : callM Tryz.prog 5 #[code0_1, more1_1] h K :=
  callM_of_wpA mixed (fn := Tryz.f5) Tryz.func5 (c := bodyOf Tryz.f5) rfl (of_decide_eq_true (by kernel_rfl)) (anOf []) 14 16 (by kernel_rfl) rfl [.tmp 4] (by kernel_rfl) (args := [code0_1, more1_1]) (by rw [e5]; exact H)
def t6 (P : Program) (code0_1 : Value) (h : Heap) (K : Value -> Heap -> Prop) : Prop :=
 eop P (Instr.alloc 26 true (.tuple #[])) h fun s2 h1 =>
 eop P (Instr.alloc 28 true (.tuple #[])) h1 fun s4 h2 =>
 callM P 49 #[code0_1] h2 fun s6 h3 =>
 pop P (Instr.extract s6 0) fun s7 =>
 pop P (Instr.extract s6 1) fun s8 =>
 pop P (Instr.extract s6 2) fun s9 =>
 uop P (Instr.storeAt 26 s2 s7) h3 fun q1 h4 =>
 uop P (Instr.storeAt 28 s4 s9) h4 fun q2 h5 =>
 rop P (Instr.loadAt 26 s2) h5 fun r_1 =>
 rop P (Instr.loadAt 28 s4) h5 fun r_2 =>
 K (.tuple #[r_1, s8, r_2]) h5
theorem e6 (code0_1 : Value) (h : Heap) (K : Value -> Heap -> Prop) : wpA Tryz.prog 10 (anOf []) (bodyOf Tryz.f6) 1 (fun A h => resA Tryz.prog A h K [.cell 2 26, .tmp 3, .cell 4 28]) (fun _ _ _ => False) (fun A h => resA Tryz.prog A h K [.cell 2 26, .tmp 3, .cell 4 28]) (aargs [code0_1] 0) h = t6 Tryz.prog code0_1 h K := by kernel_rfl
theorem c6 (code0_1 : Value) (h : Heap) (K : Value -> Heap -> Prop) (H : t6 Tryz.prog code0_1 h K) : callM Tryz.prog 6 #[code0_1] h K :=
  callM_of_wpA mixed (fn := Tryz.f6) Tryz.func6 (c := bodyOf Tryz.f6) rfl (of_decide_eq_true (by kernel_rfl)) (anOf []) 9 10 (by kernel_rfl) rfl [.cell 2 26, .tmp 3, .cell 4 28] (by kernel_rfl) (args := [code0_1]) (by rw [e6]; exact H)
def t7 (P : Program) (g0_1 : Value) (sink1_1 : Value) (s2_1 : Value) (h : Heap) (K : Value -> Heap -> Prop) : Prop :=
 eop P (Instr.box 26 g0_1) h fun g3_1 h1 =>
 eop P (Instr.box 28 s2_1) h1 fun s5_1 h2 =>
 rop P (Instr.loadAt 26 g3_1) h2 fun s8 =>
 rop P (Instr.loadAt 28 s5_1) h2 fun s10 =>
 callM P 50 #[s8, sink1_1, s10] h2 fun s11 h3 =>
 pop P (Op.unary .not s11) fun s12 =>
 condM s12
 (K (.tuple #[(Value.slice none 0 0), (Value.bool false)]) h3)
 (rop P (Instr.loadAt 28 s5_1) h3 fun s13 =>
 rop P (Instr.loadAt 26 g3_1) h3 fun s14 =>
 callM P 51 #[s13, s14] h3 fun s15 h4 =>
 K (.tuple #[s15, (Value.bool true)]) h4)
theorem e7 (g0_1 : Value) (sink1_1 : Value) (s2_1 : Value) (h : Heap) (K : Value -> Heap -> Prop) : wpA Tryz.prog 16 (anOf []) (bodyOf Tryz.f7) 1 (fun A h => resA Tryz.prog A h K [.tmp 6, .tmp 7]) (fun _ _ _ => False) (fun A h => resA Tryz.prog A h K [.tmp 6, .tmp 7]) (aargs [g0_1, sink1_1, s2_1] 0) h = t7 Tryz.prog g0_1 sink1_1 s2_1 h K := by kernel_rfl
theorem c7 (g0_1 : Value) (sink1_1 : Value) (s2_1 : Value) (h : Heap) (K : Value -> Heap -> Prop) (H : t7 Tryz.prog g0_1 sink1_1 s2_1 h K) : callM Tryz.prog 7 #[g0_1, sink1_1, s2_1] h K :=
  callM_of_wpA mixed (fn := Tryz.f7) Tryz.func7 (c := bodyOf Tryz.f7) rfl (of_decide_eq_true (by kernel_rfl)) (anOf []) 13 16 (by kernel_rfl) rfl [.tmp 6, .tmp 7] (by kernel_rfl) (args := [g0_1, sink1_1, s2_1]) (by rw [e7]; exact H)
def t8 (P : Program) (g0_1 : Value) (sink1_1 : Value) (s2_1 : Value) (h : Heap) (K : Value -> Heap -> Prop) : Prop :=
 eop P (Instr.box 26 g0_1) h fun g3_1 h1 =>
 eop P (Instr.box 28 s2_1) h1 fun s5_1 h2 =>
 rop P (Instr.loadAt 26 g3_1) h2 fun s8 =>
 rop P (Instr.loadAt 28 s5_1) h2 fun s10 =>
 callM P 52 #[s8, sink1_1, s10] h2 fun s11 h3 =>
 pop P (Op.unary .not s11) fun s12 =>
 condM s12
 (K (.tuple #[(Value.slice none 0 0), (Value.bool false)]) h3)
 (rop P (Instr.loadAt 26 g3_1) h3 fun s13 =>
 rop P (Instr.loadAt 28 s5_1) h3 fun s14 =>
 callM P 53 #[s13, s14] h3 fun s15 h4 =>
 K (.tuple #[s15, (Value.bool true)]) h4)
theorem e8 (g0_1 : Value) (sink1_1 : Value) (s2_1 : Value) (h : Heap) (K : Value -> Heap -> Prop) : wpA Tryz.prog 16 (anOf []) (bodyOf Tryz.f8) 1 (fun A h => resA Tryz.prog A h K [.tmp 6, .tmp 7]) (fun _ _ _ => False) (fun A h => resA Tryz.prog A h K [.tmp 6, .tmp 7]) (aargs [g0_1, sink1_1, s2_1] 0) h = t8 Tryz.prog g0_1 sink1_1 s2_1 h K := by kernel_rfl
theorem c8 (g0_1 : Value) (sink1_1 : Value) (s2_1 : Value) (h : Heap) (K : Value -> Heap -> Prop) (H : t8 Tryz.prog g0_1 sink1_1 s2_1 h K) : callM Tryz.prog 8 #[g0_1, sink1_1, s2_1] h K :=
  callM_of_wpA mixed (fn := Tryz.f8) Tryz.func8 (c := bodyOf Tryz.f8) rfl (of_decide_eq_true (by kernel_rfl)) (anOf []) 13 16 (by kernel_rfl) rfl [.tmp 6, .tmp 7] (by kernel_rfl) (args := [g0_1, sink1_1, s2_1]) (by rw [e8]; exact H)
def t9 (P : Program) (g0_1 : Value) (sink1_1 : Value) (s2_1 : Value) (h : Heap) (K : Value -> Heap -> Prop) : Prop :=
 eop P (Instr.box 26 g0_1) h fun g3_1 h1 =>
 eop P (Instr.box 28 s2_1) h1 fun s5_1 h2 =>
 rop P (Instr.loadAt 26 g3_1) h2 fun s11 =>
 rop P (Instr.loadAt 28 s5_1) h2 fun s13 =>
 callM P 7 #[s11, sink1_1, s13] h2 fun s14 h3 =>
 pop P (Instr.extract s14 0) fun s15 =>
 pop P (Instr.extract s14 1) fun s16 =>
 pop P (Op.unary .not s16) fun s18 =>
 guardM (asG s18 false) false (fun k_1 => k_1 s15 h3) h3 fun s20 h4 =>
 guardM (asG s18 false) false (fun k_2 => pop P (lenS 24 3 s20) fun s21 =>
 k_2 s21 h4) h4 fun s21b h5 =>
 guardM (asG s18 false) false (fun k_3 => pop P (binE .eql 3 (.tmp 21) (.const (.int .i64 0)) s21b (.int .i64 0)) fun s22 =>
 k_3 s22 h5) h5 fun s22b h6 =>
 pop P (pickS s18 (Value.bool true) s22b) fun s23 =>
 condM s23
 (K (.tuple #[(Value.slice none 0 0), (Value.bool false)]) h6)
 (pop P (Instr.indexAt 24 s15 (.int .i64 0)) fun s25 =>
 rop P (Instr.loadAt 33 s25) h6 fun s26 =>
 K (.tuple #[s26, (Value.bool true)]) h6)
theorem e9 (g0_1 : Value) (sink1_1 : Value) (s2_1 : Value) (h : Heap) (K : Value -> Heap -> Prop) : wpA Tryz.prog 27 (anOf []) (bodyOf Tryz.f9) 1 (fun A h => resA Tryz.prog A h K [.tmp 6, .tmp 7]) (fun _ _ _ => False) (fun A h => resA Tryz.prog A h K [.tmp 6, .tmp 7]) (aargs [g0_1, sink1_1, s2_1] 0) h = t9 Tryz.prog g0_1 sink1_1 s2_1 h K := by kernel_rfl
theorem c9 (g0_1 : Value) (sink1_1 : Value) (s2_1 : Value) (h : Heap) (K : Value -> Heap -> Prop) (H : t9 Tryz.prog g0_1 sink1_1 s2_1 h K) : callM Tryz.prog 9 #[g0_1, sink1_1, s2_1] h K :=
  callM_of_wpA mixed (fn := Tryz.f9) Tryz.func9 (c := bodyOf Tryz.f9) rfl (of_decide_eq_true (by kernel_rfl)) (anOf []) 24 27 (by kernel_rfl) rfl [.tmp 6, .tmp 7] (by kernel_rfl) (args := [g0_1, sink1_1, s2_1]) (by rw [e9]; exact H)
def t10 (P : Program) (g0_1 : Value) (sink1_1 : Value) (s2_1 : Value) (h : Heap) (K : Value -> Heap -> Prop) : Prop :=
 eop P (Instr.box 26 g0_1) h fun g3_1 h1 =>
 eop P (Instr.box 28 s2_1) h1 fun s5_1 h2 =>
 rop P (Instr.loadAt 26 g3_1) h2 fun s9 =>
 rop P (Instr.loadAt 28 s5_1) h2 fun s11 =>
 callM P 52 #[s9, sink1_1, s11] h2 fun s12 h3 =>
 pop P (Op.unary .not s12) fun s13 =>
 condM s13
 (K (.tuple #[(Value.slice none 0 0), (Value.bool false)]) h3)
 (rop P (Instr.loadAt 26 g3_1) h3 fun s14 =>
 rop P (Instr.loadAt 28 s5_1) h3 fun s15 =>
 callM P 53 #[s14, s15] h3 fun s16 h4 =>
 pop P (lenS 24 3 s16) fun s18 =>
 pop P (binE .eql 3 (.tmp 18) (.const (.int .i64 0)) s18 (.int .i64 0)) fun s19 =>
 condM s19
 (K (.tuple #[(Value.slice none 0 0), (Value.bool false)]) h4)
 (pop P (Instr.indexAt 24 s16 (.int .i64 0)) fun s21 =>
 rop P (Instr.loadAt 33 s21) h4 fun s22 =>
 K (.tuple #[s22, (Value.bool true)]) h4))
theorem e10 (g0_1 : Value) (sink1_1 : Value) (s2_1 : Value) (h : Heap) (K : Value -> Heap -> Prop) : wpA Tryz.prog 23 (anOf []) (bodyOf Tryz.f10) 1 (fun A h => resA Tryz.prog A h K [.tmp 6, .tmp 7]) (fun _ _ _ => False) (fun A h => resA Tryz.prog A h K [.tmp 6, .tmp 7]) (aargs [g0_1, sink1_1, s2_1] 0) h = t10 Tryz.prog g0_1 sink1_1 s2_1 h K := by kernel_rfl
theorem c10 (g0_1 : Value) (sink1_1 : Value) (s2_1 : Value) (h : Heap) (K : Value -> Heap -> Prop) (H : t10 Tryz.prog g0_1 sink1_1 s2_1 h K) : callM Tryz.prog 10 #[g0_1, sink1_1, s2_1] h K :=
  callM_of_wpA mixed (fn := Tryz.f10) Tryz.func10 (c := bodyOf Tryz.f10) rfl (of_decide_eq_true (by kernel_rfl)) (anOf []) 20 23 (by kernel_rfl) rfl [.tmp 6, .tmp 7] (by kernel_rfl) (args := [g0_1, sink1_1, s2_1]) (by rw [e10]; exact H)
def t11 (P : Program) (g0_1 : Value) (sink1_1 : Value) (s2_1 : Value) (h : Heap) (K : Value -> Heap -> Prop) : Prop :=
 eop P (Instr.box 26 g0_1) h fun g3_1 h1 =>
 eop P (Instr.box 28 s2_1) h1 fun s5_1 h2 =>
 rop P (Instr.loadAt 26 g3_1) h2 fun s8 =>
 eop P (Instr.buildSlice 33 1 #[(0, sink1_1)]) h2 fun s10 h3 =>
 callM P 54 #[s8, s10] h3 fun s11 h4 =>
 pop P (Op.unary .not s11) fun s12 =>
 condM s12
 (K (.tuple #[(Value.bool false), (Value.bool false)]) h4)
 (rop P (Instr.loadAt 26 g3_1) h4 fun s13 =>
 rop P (Instr.loadAt 28 s5_1) h4 fun s15 =>
 callM P 50 #[s13, sink1_1, s15] h4 fun s16 h5 =>
 K (.tuple #[s16, (Value.bool true)]) h5)
theorem e11 (g0_1 : Value) (sink1_1 : Value) (s2_1 : Value) (h : Heap) (K : Value -> Heap -> Prop) : wpA Tryz.prog 17 (anOf []) (bodyOf Tryz.f11) 1 (fun A h => resA Tryz.prog A h K [.tmp 6, .tmp 7]) (fun _ _ _ => False) (fun A h => resA Tryz.prog A h K [.tmp 6, .tmp 7]) (aargs [g0_1, sink1_1, s2_1] 0) h = t11 Tryz.prog g0_1 sink1_1 s2_1 h K := by kernel_rfl
theorem c11 (g0_1 : Value) (sink1_1 : Value) (s2_1 : Value) (h : Heap) (K : Value -> Heap -> Prop) (H : t11 Tryz.prog g0_1 sink1_1 s2_1 h K) : callM Tryz.prog 11 #[g0_1, sink1_1, s2_1] h K :=
  callM_of_wpA mixed (fn := Tryz.f11) Tryz.func11 (c := bodyOf Tryz.f11) rfl (of_decide_eq_true (by kernel_rfl)) (anOf []) 14 17 (by kernel_rfl) rfl [.tmp 6, .tmp 7] (by kernel_rfl) (args := [g0_1, sink1_1, s2_1]) (by rw [e11]; exact H)
def t12 (P : Program) (g0_1 : Value) (sink1_1 : Value) (s2_1 : Value) (h : Heap) (K : Value -> Heap -> Prop) : Prop :=
 eop P (Instr.box 26 g0_1) h fun g3_1 h1 =>
 eop P (Instr.box 28 s2_1) h1 fun s5_1 h2 =>
 rop P (Instr.loadAt 26 g3_1) h2 fun s8 =>
 callM P 55 #[s8, sink1_1] h2 fun s10 h3 =>
 pop P (Op.unary .not s10) fun s11 =>
 condM s11
 (K (.tuple #[(Value.bool false), (Value.bool false)]) h3)
 (rop P (Instr.loadAt 26 g3_1) h3 fun s12 =>
 rop P (Instr.loadAt 28 s5_1) h3 fun s14 =>
 callM P 52 #[s12, sink1_1, s14] h3 fun s15 h4 =>
 K (.tuple #[s15, (Value.bool true)]) h4)
theorem e12 (g0_1 : Value) (sink1_1 : Value) (s2_1 : Value) (h : Heap) (K : Value -> Heap -> Prop) : wpA Tryz.prog 16 (anOf []) (bodyOf Tryz.f12) 1 (fun A h => resA Tryz.prog A h K [.tmp 6, .tmp 7]) (fun _ _ _ => False) (fun A h => resA Tryz.prog A h K [.tmp 6, .tmp 7]) (aargs [g0_1, sink1_1, s2_1] 0) h = t12 Tryz.prog g0_1 sink1_1 s2_1 h K := by kernel_rfl
theorem c12 (g0_1 : Value) (sink1_1 : Value) (s2_1 : Value) (h : Heap) (K : Value -> Heap -> Prop) (H : t12 Tryz.prog g0_1 sink1_1 s2_1 h K) : callM Tryz.prog 12 #[g0_1, sink1_1, s2_1] h K :=
  callM_of_wpA mixed (fn := Tryz.f12) Tryz.func12 (c := bodyOf Tryz.f12) rfl (of_decide_eq_true (by kernel_rfl)) (anOf []) 13 16 (by kernel_rfl) rfl [.tmp 6, .tmp 7] (by kernel_rfl) (args := [g0_1, sink1_1, s2_1]) (by rw [e12]; exact H)
def t13 (P : Program) (g0_1 : Value) (sink1_1 : Value) (s2_1 : Value) (h : Heap) (K : Value -> Heap -> Prop) : Prop :=
 eop P (Instr.box 26 g0_1) h fun g3_1 h1 =>
 eop P (Instr.box 28 s2_1) h1 fun s5_1 h2 =>
 rop P (Instr.loadAt 26 g3_1) h2 fun s8 =>
 rop P (Instr.loadAt 28 s5_1) h2 fun s10 =>
 callM P 50 #[s8, sink1_1, s10] h2 fun s11 h3 =>
 pop P (Op.unary .not s11) fun s12 =>
 condM s12
 (K (.tuple #[(Value.slice none 0 0), (Value.bool false)]) h3)
 (rop P (Instr.loadAt 28 s5_1) h3 fun s13 =>
 callM P 56 #[s13, sink1_1] h3 fun s15 h4 =>
 pop P (Instr.extract s15 0) fun s16 =>
 pop P (Instr.extract s15 1) fun s17 =>
 K (.tuple #[s16, s17]) h4)
theorem e13 (g0_1 : Value) (sink1_1 : Value) (s2_1 : Value) (h : Heap) (K : Value -> Heap -> Prop) : wpA Tryz.prog 18 (anOf []) (bodyOf Tryz.f13) 1 (fun A h => resA Tryz.prog A h K [.tmp 6, .tmp 7]) (fun _ _ _ => False) (fun A h => resA Tryz.prog A h K [.tmp 6, .tmp 7]) (aargs [g0_1, sink1_1, s2_1] 0) h = t13 Tryz.prog g0_1 sink1_1 s2_1 h K := by kernel_rfl
theorem c13 (g0_1 : Value) (sink1_1 : Value) (s2_1 : Value) (h : Heap) (K : Value -> Heap -> Prop) (H : t13 Tryz.prog g0_1 sink1_1 s2_1 h K) : callM Tryz.prog 13 #[g0_1, sink1_1, s2_1] h K :=
  callM_of_wpA mixed (fn := Tryz.f13) Tryz.func13 (c := bodyOf Tryz.f13) rfl (of_decide_eq_true (by kernel_rfl)) (anOf []) 15 18 (by kernel_rfl) rfl [.tmp 6, .tmp 7] (by kernel_rfl) (args := [g0_1, sink1_1, s2_1]) (by rw [e13]; exact H)
def t14 (P : Program) (g0_1 : Value) (sink1_1 : Value) (s2_1 : Value) (h : Heap) (K : Value -> Heap -> Prop) : Prop :=
 eop P (Instr.box 26 g0_1) h fun g3_1 h1 =>
 eop P (Instr.box 28 s2_1) h1 fun s5_1 h2 =>
 rop P (Instr.loadAt 26 g3_1) h2 fun s8 =>
 rop P (Instr.loadAt 28 s5_1) h2 fun s10 =>
 callM P 52 #[s8, sink1_1, s10] h2 fun s11 h3 =>
 pop P (Op.unary .not s11) fun s12 =>
 condM s12
 (K (.tuple #[(Value.slice none 0 0), (Value.bool false)]) h3)
 (rop P (Instr.loadAt 26 g3_1) h3 fun s13 =>
 rop P (Instr.loadAt 28 s5_1) h3 fun s15 =>
 callM P 57 #[s13, sink1_1, s15] h3 fun s16 h4 =>
 pop P (Instr.extract s16 0) fun s17 =>
 pop P (Instr.extract s16 1) fun s18 =>
 K (.tuple #[s17, s18]) h4)
theorem e14 (g0_1 : Value) (sink1_1 : Value) (s2_1 : Value) (h : Heap) (K : Value -> Heap -> Prop) : wpA Tryz.prog 19 (anOf []) (bodyOf Tryz.f14) 1 (fun A h => resA Tryz.prog A h K [.tmp 6, .tmp 7]) (fun _ _ _ => False) (fun A h => resA Tryz.prog A h K [.tmp 6, .tmp 7]) (aargs [g0_1, sink1_1, s2_1] 0) h = t14 Tryz.prog g0_1 sink1_1 s2_1 h K := by kernel_rfl
theorem c14 (g0_1 : Value) (sink1_1 : Value) (s2_1 : Value) (h : Heap) (K : Value -> Heap -> Prop) (H : t14 Tryz.prog g0_1 sink1_1 s2_1 h K) : callM Tryz.prog 14 #[g0_1, sink1_1, s2_1] h K :=
  callM_of_wpA mixed (fn := Tryz.f14) Tryz.func14 (c := bodyOf Tryz.f14) rfl (of_decide_eq_true (by kernel_rfl)) (anOf []) 16 19 (by kernel_rfl) rfl [.tmp 6, .tmp 7] (by kernel_rfl) (args := [g0_1, sink1_1, s2_1]) (by rw [e14]; exact H)
def t15 (P : Program) (a0_1 : Value) (b1_1 : Value) (h : Heap) (K : Value -> Heap -> Prop) : Prop :=
 pop P (lenS 24 3 a0_1) fun s7 =>
 pop P (lenS 24 3 b1_1) fun s9 =>
 pop P (binE .neq 3 (.tmp 7) (.tmp 9) s7 s9) fun s10 =>
 condM s10
 (K (Value.bool false) h)
 (pop P (lenS 24 3 a0_1) fun s12 =>
 ∃ (I1 : List Value -> Heap -> Prop) (μ_1 : List Value -> Heap -> Nat), I1 [(.int .i64 0)] h /\
 ∀ (junk1 : Nat -> Value) (s13 : Value) (h1 : Heap), I1 [s13] h1 ->
 pop P (binA .lss 3 s13 s12) fun s14 =>
 condM s14
 (pop P (Instr.indexAt 24 a0_1 s13) fun s18 =>
 rop P (Instr.loadAt 33 s18) h1 fun s19 =>
 pop P (Instr.indexAt 24 b1_1 s13) fun s22 =>
 rop P (Instr.loadAt 33 s22) h1 fun s23 =>
 callM P 16 #[s19, s23] h1 fun s24 h2 =>
 pop P (Op.unary .not s24) fun s25 =>
 condM s25
 (K (Value.bool false) h2)
 (pop P (binA .add 3 s13 (.int .i64 1)) fun s26 =>
 I1 [s26] h2 /\ μ_1 [s26] h2 < μ_1 [s13] h1))
 (K (Value.bool true) h1))
theorem e15 (a0_1 : Value) (b1_1 : Value) (h : Heap) (K : Value -> Heap -> Prop) : wpA Tryz.prog 27 (anOf [(58, [13])]) (bodyOf Tryz.f15) 1 (fun A h => resA Tryz.prog A h K [.tmp 4]) (fun _ _ _ => False) (fun A h => resA Tryz.prog A h K [.tmp 4]) (aargs [a0_1, b1_1] 0) h = t15 Tryz.prog a0_1 b1_1 h K := by kernel_rfl
theorem c15 (a0_1 : Value) (b1_1 : Value) (h : Heap) (K : Value -> Heap -> Prop) (H : t15 Tryz.prog a0_1 b1_1 h K) : callM Tryz.prog 15 #[a0_1, b1_1] h K :=
  callM_of_wpA mixed (fn := Tryz.f15) Tryz.func15 (c := bodyOf Tryz.f15) rfl (of_decide_eq_true (by kernel_rfl)) (anOf [(58, [13])]) 25 27 (by kernel_rfl) rfl [.tmp 4] (by kernel_rfl) (args := [a0_1, b1_1]) (by rw [e15]; exact H)
def t16 (P : Program) (a0_1 : Value) (b1_1 : Value) (h : Heap) (K : Value -> Heap -> Prop) : Prop :=
 pop P (lenS 33 3 a0_1) fun s7 =>
 pop P (lenS 33 3 b1_1) fun s9 =>
 pop P (binE .neq 3 (.tmp 7) (.tmp 9) s7 s9) fun s10 =>
 condM s10
 (K (Value.bool false) h)
 (pop P (lenS 33 3 a0_1) fun s12 =>
 ∃ (I1 : List Value -> Heap -> Prop) (μ_1 : List Value -> Heap -> Nat), I1 [(.int .i64 0)] h /\
 ∀ (junk1 : Nat -> Value) (s13 : Value) (h1 : Heap), I1 [s13] h1 ->
 pop P (binA .lss 3 s13 s12) fun s14 =>
 condM s14
 (pop P (Instr.indexAt 33 a0_1 s13) fun s18 =>
 rop P (Instr.loadAt 3 s18) h1 fun s19 =>
 pop P (Instr.indexAt 33 b1_1 s13) fun s22 =>
 rop P (Instr.loadAt 3 s22) h1 fun s23 =>
 pop P (binE .neq 3 (.tmp 19) (.tmp 23) s19 s23) fun s24 =>
 condM s24
 (K (Value.bool false) h1)
 (pop P (binA .add 3 s13 (.int .i64 1)) fun s25 =>
 I1 [s25] h1 /\ μ_1 [s25] h1 < μ_1 [s13] h1))
 (K (Value.bool true) h1))
theorem e16 (a0_1 : Value) (b1_1 : Value) (h : Heap) (K : Value -> Heap -> Prop) : wpA Tryz.prog 26 (anOf [(58, [13])]) (bodyOf Tryz.f16) 1 (fun A h => resA Tryz.prog A h K [.tmp 4]) (fun _ _ _ => False) (fun A h => resA Tryz.prog A h K [.tmp 4]) (aargs [a0_1, b1_1] 0) h = t16 Tryz.prog a0_1 b1_1 h K := by kernel_rfl
theorem c16 (a0_1 : Value) (b1_1 : Value) (h : Heap) (K : Value -> Heap -> Prop) (H : t16 Tryz.prog a0_1 b1_1 h K) : callM Tryz.prog 16 #[a0_1, b1_1] h K :=
  callM_of_wpA mixed (fn := Tryz.f16) Tryz.func16 (c := bodyOf Tryz.f16) rfl (of_decide_eq_true (by kernel_rfl)) (anOf [(58, [13])]) 24 26 (by kernel_rfl) rfl [.tmp 4] (by kernel_rfl) (args := [a0_1, b1_1]) (by rw [e16]; exact H)
def t17 (P : Program) (g0_1 : Value) (sink1_1 : Value) (rotors2_1 : Value) (h : Heap) (K : Value -> Heap -> Prop) : Prop :=
 eop P (Instr.box 26 g0_1) h fun g3_1 h1 =>
 rop P (Instr.loadAt 26 g3_1) h1 fun s8 =>
 callM P 58 #[s8, sink1_1, rotors2_1] h1 fun s11 h2 =>
 pop P (Op.unary .not s11) fun s12 =>
 condM s12
 (K (.tuple #[(Value.bool false), (Value.bool false)]) h2)
 (rop P (Instr.loadAt 26 g3_1) h2 fun s13 =>
 callM P 59 #[s13, sink1_1, rotors2_1] h2 fun s16 h3 =>
 K (.tuple #[s16, (Value.bool true)]) h3)
theorem e17 (g0_1 : Value) (sink1_1 : Value) (rotors2_1 : Value) (h : Heap) (K : Value -> Heap -> Prop) : wpA Tryz.prog 17 (anOf []) (bodyOf Tryz.f17) 1 (fun A h => resA Tryz.prog A h K [.tmp 6, .tmp 7]) (fun _ _ _ => False) (fun A h => resA Tryz.prog A h K [.tmp 6, .tmp 7]) (aargs [g0_1, sink1_1, rotors2_1] 0) h = t17 Tryz.prog g0_1 sink1_1 rotors2_1 h K := by kernel_rfl
theorem c17 (g0_1 : Value) (sink1_1 : Value) (rotors2_1 : Value) (h : Heap) (K : Value -> Heap -> Prop) (H : t17 Tryz.prog g0_1 sink1_1 rotors2_1 h K) : callM Tryz.prog 17 #[g0_1, sink1_1, rotors2_1] h K :=
  callM_of_wpA mixed (fn := Tryz.f17) Tryz.func17 (c := bodyOf Tryz.f17) rfl (of_decide_eq_true (by kernel_rfl)) (anOf []) 14 17 (by kernel_rfl) rfl [.tmp 6, .tmp 7] (by kernel_rfl) (args := [g0_1, sink1_1, rotors2_1]) (by rw [e17]; exact H)
def t18 (P : Program) (code0_1 : Value) (h : Heap) (K : Value -> Heap -> Prop) : Prop :=
 eop P (Instr.alloc 26 true (.tuple #[])) h fun s2 h1 =>
 eop P (Instr.alloc 28 true (.tuple #[])) h1 fun s4 h2 =>
 pop P (Instr.build 84 #[(0, code0_1)]) fun s11 =>
 eop P (Instr.box 84 s11) h2 fun s12 h3 =>
 callM P 60 #[s12] h3 fun s15 h4 =>
 pop P (Instr.extract s15 0) fun s16 =>
 pop P (Instr.extract s15 1) fun s17 =>
 pop P (Instr.extract s15 2) fun s18 =>
 eop P (Instr.alloc 26 true (.tuple #[])) h4 fun g7_1 h5 =>
 eop P (Instr.alloc 28 true (.tuple #[])) h5 fun s9_1 h6 =>
 uop P (Instr.storeAt 26 g7_1 s16) h6 fun q1 h7 =>
 uop P (Instr.storeAt 28 s9_1 s18) h7 fun q2 h8 =>
 rop P (Instr.loadAt 26 g7_1) h8 fun s19 =>
 rop P (Instr.loadAt 28 s9_1) h8 fun s21 =>
 rop P (Instr.loadAt 26 g7_1) h8 fun s23 =>
 callM P 61 #[s12, s23] h8 fun s24 h9 =>
 (∀ w : World, w.heap = h9 -> (Instr.loadAt 28 s9_1).run P w = .ok s21 w) /\
 (∀ w : World, w.heap = h9 -> (Instr.loadAt 26 g7_1).run P w = .ok s19 w) /\
 uop P (Instr.storeAt 26 s2 s19) h9 fun q3 h10 =>
 (∀ w : World, w.heap = h10 -> (Instr.loadAt 28 s9_1).run P w = .ok s21 w) /\
 uop P (Instr.storeAt 28 s4 s21) h10 fun q4 h11 =>
 rop P (Instr.loadAt 26 s2) h11 fun r_1 =>
 rop P (Instr.loadAt 28 s4) h11 fun r_2 =>
 K (.tuple #[r_1, s17, r_2, s24]) h11
theorem e18 (code0_1 : Value) (h : Heap) (K : Value -> Heap -> Prop) : wpA Tryz.prog 25 (anOf []) (bodyOf Tryz.f18) 1 (fun A h => resA Tryz.prog A h K [.cell 2 26, .tmp 3, .cell 4 28, .tmp 5]) (fun _ _ _ => False) (fun A h => resA Tryz.prog A h K [.cell 2 26, .tmp 3, .cell 4 28, .tmp 5]) (aargs [code0_1] 0) h = t18 Tryz.prog code0_1 h K := by kernel_rfl
theorem c18 (code0_1 : Value) (h : Heap) (K : Value -> Heap -> Prop) (H : t18 Tryz.prog code0_1 h K) : callM Tryz.prog 18 #[code0_1] h K :=
  callM_of_wpA mixed (fn := Tryz.f18) Tryz.func18 (c := bodyOf Tryz.f18) rfl (of_decide_eq_true (by kernel_rfl)) (anOf []) 24 25 (by kernel_rfl) rfl [.cell 2 26, .tmp 3, .cell 4 28, .tmp 5] (by kernel_rfl) (args := [code0_1]) (by rw [e18]; exact H)
def t19 (P : Program) (g0_1 : Value) (sink1_1 : Value) (s2_1 : Value) (p3_1 : Value) (h : Heap) (K : Value -> Heap -> Prop) : Prop :=
 eop P (Instr.box 26 g0_1) h fun g4_1 h1 =>
 eop P (Instr.box 28 s2_1) h1 fun s6_1 h2 =>
 eop P (Instr.alloc 28 true (.tuple #[])) h2 fun s8 h3 =>
 rop P (Instr.loadAt 26 g4_1) h3 fun s12 =>
 rop P (Instr.loadAt 28 s6_1) h3 fun s14 =>
 callM P 50 #[s12, sink1_1, s14] h3 fun s15 h4 =>
 pop P (Op.unary .not s15) fun s16 =>
 guardM (asG s16 false) false (fun k_1 => rop P (Instr.loadAt 26 g4_1) h4 fun s18 =>
 k_1 s18 h4) h4 fun s18b h5 =>
 guardM (asG s16 false) false (fun k_2 => k_2 p3_1 h5) h5 fun s19 h6 =>
 guardM (asG s16 false) false (fun k_3 => eop P (Instr.buildSlice 33 1 #[(0, s19)]) h6 fun s20 h7 =>
 k_3 s20 h7) h6 fun s20b h8 =>
 guardM (asG s16 false) false (fun k_4 => callM P 54 #[s18b, s20b] h8 fun s21 h9 =>
 k_4 s21 h9) h8 fun s21b h10 =>
 guardM (asG s16 false) false (fun k_5 => pop P (Op.unary .not s21b) fun s22 =>
 k_5 s22 h10) h10 fun s22b h11 =>
 pop P (pickS s16 (Value.bool true) s22b) fun s23 =>
 condM s23
 (pop P (Instr.build 28 #[]) fun s24 =>
 uop P (Instr.storeAt 28 s8 s24) h11 fun q1 h12 =>
 rop P (Instr.loadAt 28 s8) h12 fun r_1 =>
 K (.tuple #[r_1, (Value.bool false)]) h12)
 (rop P (Instr.loadAt 28 s6_1) h11 fun s25 =>
 rop P (Instr.loadAt 26 g4_1) h11 fun s26 =>
 callM P 62 #[s25, s26, p3_1] h11 fun s28 h13 =>
 pop P (binE .eql 33 (.tmp 29) (.const (Value.slice none 0 0)) s28 (Value.slice none 0 0)) fun s30 =>
 condM s30
 (pop P (Instr.build 28 #[]) fun s31 =>
 uop P (Instr.storeAt 28 s8 s31) h13 fun q2 h14 =>
 rop P (Instr.loadAt 28 s8) h14 fun r_2 =>
 K (.tuple #[r_2, (Value.bool false)]) h14)
 (rop P (Instr.loadAt 28 s6_1) h13 fun s32 =>
 callM P 63 #[s32] h13 fun s33 h15 =>
 eop P (Instr.alloc 28 true (.tuple #[])) h15 fun out11_1 h16 =>
 uop P (Instr.storeAt 28 out11_1 s33) h16 fun q3 h17 =>
 rop P (Instr.loadAt 28 out11_1) h17 fun s34 =>
 callM P 64 #[s34, s28] h17 fun s36 h18 =>
 rop P (Instr.loadAt 28 out11_1) h18 fun s37 =>
 callM P 63 #[s37] h18 fun s38 h19 =>
 uop P (Instr.storeAt 28 s8 s38) h19 fun q4 h20 =>
 rop P (Instr.loadAt 28 s8) h20 fun r_3 =>
 K (.tuple #[r_3, (Value.bool true)]) h20))
theorem e19 (g0_1 : Value) (sink1_1 : Value) (s2_1 : Value) (p3_1 : Value) (h : Heap) (K : Value -> Heap -> Prop) : wpA Tryz.prog 39 (anOf []) (bodyOf Tryz.f19) 1 (fun A h => resA Tryz.prog A h K [.cell 8 28, .tmp 9]) (fun _ _ _ => False) (fun A h => resA Tryz.prog A h K [.cell 8 28, .tmp 9]) (aargs [g0_1, sink1_1, s2_1, p3_1] 0) h = t19 Tryz.prog g0_1 sink1_1 s2_1 p3_1 h K := by kernel_rfl
theorem c19 (g0_1 : Value) (sink1_1 : Value) (s2_1 : Value) (p3_1 : Value) (h : Heap) (K : Value -> Heap -> Prop) (H : t19 Tryz.prog g0_1 sink1_1 s2_1 p3_1 h K) : callM Tryz.prog 19 #[g0_1, sink1_1, s2_1, p3_1] h K :=
  callM_of_wpA mixed (fn := Tryz.f19) Tryz.func19 (c := bodyOf Tryz.f19) rfl (of_decide_eq_true (by kernel_rfl)) (anOf []) 35 39 (by kernel_rfl) rfl [.cell 8 28, .tmp 9] (by kernel_rfl) (args := [g0_1, sink1_1, s2_1, p3_1]) (by rw [e19]; exact H)
def t20 (P : Program) (g0_1 : Value) (sink1_1 : Value) (s2_1 : Value) (p3_1 : Value) (h : Heap) (K : Value -> Heap -> Prop) : Prop :=
 eop P (Instr.box 26 g0_1) h fun g4_1 h1 =>
 eop P (Instr.box 28 s2_1) h1 fun s6_1 h2 =>
 eop P (Instr.alloc 28 true (.tuple #[])) h2 fun s8 h3 =>
 rop P (Instr.loadAt 26 g4_1) h3 fun s11 =>
 rop P (Instr.loadAt 28 s6_1) h3 fun s13 =>
 callM P 52 #[s11, sink1_1, s13] h3 fun s14 h4 =>
 pop P (Op.unary .not s14) fun s15 =>
 guardM (asG s15 false) false (fun k_1 => rop P (Instr.loadAt 26 g4_1) h4 fun s17 =>
 k_1 s17 h4) h4 fun s17b h5 =>
 guardM (asG s15 false) false (fun k_2 => k_2 p3_1 h5) h5 fun s18 h6 =>
 guardM (asG s15 false) false (fun k_3 => callM P 55 #[s17b, s18] h6 fun s19 h7 =>
 k_3 s19 h7) h6 fun s19b h8 =>
 guardM (asG s15 false) false (fun k_4 => pop P (Op.unary .not s19b) fun s20 =>
 k_4 s20 h8) h8 fun s20b h9 =>
 pop P (pickS s15 (Value.bool true) s20b) fun s21 =>
 condM s21
 (pop P (Instr.build 28 #[]) fun s22 =>
 uop P (Instr.storeAt 28 s8 s22) h9 fun q1 h10 =>
 rop P (Instr.loadAt 28 s8) h10 fun r_1 =>
 K (.tuple #[r_1, (Value.bool false)]) h10)
 (rop P (Instr.loadAt 26 g4_1) h9 fun s23 =>
 rop P (Instr.loadAt 28 s6_1) h9 fun s24 =>
 callM P 65 #[s23, s24, p3_1] h9 fun s26 h11 =>
 pop P (lenS 33 3 s26) fun s28 =>
 pop P (binE .eql 3 (.tmp 28) (.const (.int .i64 0)) s28 (.int .i64 0)) fun s29 =>
 condM s29
 (pop P (Instr.build 28 #[]) fun s30 =>
 uop P (Instr.storeAt 28 s8 s30) h11 fun q2 h12 =>
 rop P (Instr.loadAt 28 s8) h12 fun r_2 =>
 K (.tuple #[r_2, (Value.bool false)]) h12)
 (rop P (Instr.loadAt 28 s6_1) h11 fun s31 =>
 callM P 66 #[s31, s26] h11 fun s33 h13 =>
 uop P (Instr.storeAt 28 s8 s33) h13 fun q3 h14 =>
 rop P (Instr.loadAt 28 s8) h14 fun r_3 =>
 K (.tuple #[r_3, (Value.bool true)]) h14))
theorem e20 (g0_1 : Value) (sink1_1 : Value) (s2_1 : Value) (p3_1 : Value) (h : Heap) (K : Value -> Heap -> Prop) : wpA Tryz.prog 34 (anOf []) (bodyOf Tryz.f20) 1 (fun A h => resA Tryz.prog A h K [.cell 8 28, .tmp 9]) (fun _ _ _ => False) (fun A h => resA Tryz.prog A h K [.cell 8 28, .tmp 9]) (aargs [g0_1, sink1_1, s2_1, p3_1] 0) h = t20 Tryz.prog g0_1 sink1_1 s2_1 p3_1 h K := by kernel_rfl
theorem c20 (g0_1 : Value) (sink1_1 : Value) (s2_1 : Value) (p3_1 : Value) (h : Heap) (K : Value -> Heap -> Prop) (H : t20 Tryz.prog g0_1 sink1_1 s2_1 p3_1 h K) : callM Tryz.prog 20 #[g0_1, sink1_1, s2_1, p3_1] h K :=
  callM_of_wpA mixed (fn := Tryz.f20) Tryz.func20 (c := bodyOf Tryz.f20) rfl (of_decide_eq_true (by kernel_rfl)) (anOf []) 30 34 (by kernel_rfl) rfl [.cell 8 28, .tmp 9] (by kernel_rfl) (args := [g0_1, sink1_1, s2_1, p3_1]) (by rw [e20]; exact H)
def t21 (P : Program) (a0_1 : Value) (b1_1 : Value) (h : Heap) (K : Value -> Heap -> Prop) : Prop :=
 eop P (Instr.box 28 a0_1) h fun a2_1 h1 =>
 eop P (Instr.box 28 b1_1) h1 fun b3_1 h2 =>
 pop P (Instr.fieldAt 28 a2_1 0) fun s5 =>
 rop P (Instr.loadAt 24 s5) h2 fun s6 =>
 pop P (Instr.fieldAt 28 b3_1 0) fun s7 =>
 rop P (Instr.loadAt 24 s7) h2 fun s8 =>
 callM P 15 #[s6, s8] h2 fun s9 h3 =>
 K s9 h3
theorem e21 (a0_1 : Value) (b1_1 : Value) (h : Heap) (K : Value -> Heap -> Prop) : wpA Tryz.prog 10 (anOf []) (bodyOf Tryz.f21) 1 (fun A h => resA Tryz.prog A h K [.tmp 4]) (fun _ _ _ => False) (fun A h => resA Tryz.prog A h K [.tmp 4]) (aargs [a0_1, b1_1] 0) h = t21 Tryz.prog a0_1 b1_1 h K := by kernel_rfl
theorem c21 (a0_1 : Value) (b1_1 : Value) (h : Heap) (K : Value -> Heap -> Prop) (H : t21 Tryz.prog a0_1 b1_1 h K) : callM Tryz.prog 21 #[a0_1, b1_1] h K :=
  callM_of_wpA mixed (fn := Tryz.f21) Tryz.func21 (c := bodyOf Tryz.f21) rfl (of_decide_eq_true (by kernel_rfl)) (anOf []) 8 10 (by kernel_rfl) rfl [.tmp 4] (by kernel_rfl) (args := [a0_1, b1_1]) (by rw [e21]; exact H)
def t22 (P : Program) (a0_1 : Value) (n1_1 : Value) (h : Heap) (K : Value -> Heap -> Prop) : Prop :=
 pop P (lenS 33 3 a0_1) fun s8 =>
 ∃ (I1 : List Value -> Heap -> Prop) (μ_1 : List Value -> Heap -> Nat), I1 [(.int .i64 0)] h /\
 ∀ (junk1 : Nat -> Value) (s9 : Value) (h1 : Heap), I1 [s9] h1 ->
 pop P (binA .lss 3 s9 s8) fun s10 =>
 condM s10
 (pop P (Instr.indexAt 33 a0_1 s9) fun s11 =>
 rop P (Instr.loadAt 3 s11) h1 fun s12 =>
 pop P (binE .eql 3 (.tmp 13) (.tmp 14) s12 n1_1) fun s15 =>
 condM s15
 (K (Value.bool true) h1)
 (pop P (binA .add 3 s9 (.int .i64 1)) fun s16 =>
 I1 [s16] h1 /\ μ_1 [s16] h1 < μ_1 [s9] h1))
 (K (Value.bool false) h1)
theorem e22 (a0_1 : Value) (n1_1 : Value) (h : Heap) (K : Value -> Heap -> Prop) : wpA Tryz.prog 17 (anOf [(26, [9])]) (bodyOf Tryz.f22) 1 (fun A h => resA Tryz.prog A h K [.tmp 4]) (fun _ _ _ => False) (fun A h => resA Tryz.prog A h K [.tmp 4]) (aargs [a0_1, n1_1] 0) h = t22 Tryz.prog a0_1 n1_1 h K := by kernel_rfl
theorem c22 (a0_1 : Value) (n1_1 : Value) (h : Heap) (K : Value -> Heap -> Prop) (H : t22 Tryz.prog a0_1 n1_1 h K) : callM Tryz.prog 22 #[a0_1, n1_1] h K :=
  callM_of_wpA mixed (fn := Tryz.f22) Tryz.func22 (c := bodyOf Tryz.f22) rfl (of_decide_eq_true (by kernel_rfl)) (anOf [(26, [9])]) 15 17 (by kernel_rfl) rfl [.tmp 4] (by kernel_rfl) (args := [a0_1, n1_1]) (by rw [e22]; exact H)
def t23 (P : Program) (code0_1 : Value) (h : Heap) (K : Value -> Heap -> Prop) : Prop :=
 eop P (Instr.alloc 26 true (.tuple #[])) h fun s2 h1 =>
 pop P (Instr.build 84 #[(0, code0_1)]) fun s10 =>
 eop P (Instr.box 84 s10) h1 fun s11 h2 =>
 callM P 67 #[s11] h2 fun s14 h3 =>
 pop P (Instr.extract s14 0) fun s15 =>
 pop P (Instr.extract s14 1) fun s16 =>
 eop P (Instr.alloc 26 true (.tuple #[])) h3 fun g7_1 h4 =>
 eop P (Instr.alloc 54 true (.tuple #[])) h4 fun w8_1 h5 =>
 uop P (Instr.storeAt 26 g7_1 s15) h5 fun q1 h6 =>
 uop P (Instr.storeAt 54 w8_1 s16) h6 fun q2 h7 =>
 callM P 68 #[s11, (.int .i64 10)] h7 fun s18 h8 =>
 condM s18
 (rop P (Instr.loadAt 26 g7_1) h8 fun s19 =>
 rop P (Instr.loadAt 26 g7_1) h8 fun s21 =>
 pop P (Instr.fieldAt 54 w8_1 0) fun s23 =>
 rop P (Instr.loadAt 33 s23) h8 fun s24 =>
 (callM P 61 #[s11, s21] h8 fun s22 h9 =>
 (∀ w : World, w.heap = h9 -> (Instr.loadAt 33 s23).run P w = .ok s24 w) /\
 (∀ w : World, w.heap = h9 -> (Instr.loadAt 26 g7_1).run P w = .ok s19 w) /\
 eop P (Instr.buildSlice 33 3 #[(0, (.int .i64 (-1))), (1, (.int .i64 12)), (2, (.int .i64 13))]) h9 fun s26 h10 =>
 (∀ w : World, w.heap = h10 -> (Instr.loadAt 33 s23).run P w = .ok s24 w) /\
 (∀ w : World, w.heap = h10 -> (Instr.loadAt 26 g7_1).run P w = .ok s19 w) /\
 callM P 69 #[s11, s26] h10 fun s27 h11 =>
 (∀ w : World, w.heap = h11 -> (Instr.loadAt 33 s23).run P w = .ok s24 w) /\
 (∀ w : World, w.heap = h11 -> (Instr.loadAt 26 g7_1).run P w = .ok s19 w) /\
 uop P (Instr.storeAt 26 s2 s19) h11 fun q3 h12 =>
 (∀ w : World, w.heap = h12 -> (Instr.loadAt 33 s23).run P w = .ok s24 w) /\
 rop P (Instr.loadAt 26 s2) h12 fun r_1 =>
 K (.tuple #[r_1, s22, s24, s27]) h12) /\
 (eop P (Instr.buildSlice 33 3 #[(0, (.int .i64 (-1))), (1, (.int .i64 12)), (2, (.int .i64 13))]) h8 fun s26b h13 =>
 (∀ w : World, w.heap = h13 -> (Instr.loadAt 33 s23).run P w = .ok s24 w) /\
 (∀ w : World, w.heap = h13 -> (Instr.loadAt 26 g7_1).run P w = .ok s21 w) /\
 (∀ w : World, w.heap = h13 -> (Instr.loadAt 26 g7_1).run P w = .ok s19 w) /\
 callM P 61 #[s11, s21] h13 fun s22b h14 =>
 (∀ w : World, w.heap = h14 -> (Instr.loadAt 33 s23).run P w = .ok s24 w) /\
 (∀ w : World, w.heap = h14 -> (Instr.loadAt 26 g7_1).run P w = .ok s19 w) /\
 callM P 69 #[s11, s26b] h14 fun s27b h15 =>
 (∀ w : World, w.heap = h15 -> (Instr.loadAt 33 s23).run P w = .ok s24 w) /\
 (∀ w : World, w.heap = h15 -> (Instr.loadAt 26 g7_1).run P w = .ok s19 w) /\
 uop P (Instr.storeAt 26 s2 s19) h15 fun q4 h16 =>
 (∀ w : World, w.heap = h16 -> (Instr.loadAt 33 s23).run P w = .ok s24 w) /\
 rop P (Instr.loadAt 26 s2) h16 fun r_2 =>
 K (.tuple #[r_2, s22b, s24, s27b]) h16))
 (rop P (Instr.loadAt 26 g7_1) h8 fun s28 =>
 rop P (Instr.loadAt 26 g7_1) h8 fun s30 =>
 pop P (Instr.fieldAt 54 w8_1 0) fun s32 =>
 rop P (Instr.loadAt 33 s32) h8 fun s33 =>
 callM P 61 #[s11, s30] h8 fun s31 h17 =>
 (∀ w : World, w.heap = h17 -> (Instr.loadAt 33 s32).run P w = .ok s33 w) /\
 (∀ w : World, w.heap = h17 -> (Instr.loadAt 26 g7_1).run P w = .ok s28 w) /\
 callM P 70 #[s11, (.int .i64 8)] h17 fun s35 h18 =>
 (∀ w : World, w.heap = h18 -> (Instr.loadAt 33 s32).run P w = .ok s33 w) /\
 (∀ w : World, w.heap = h18 -> (Instr.loadAt 26 g7_1).run P w = .ok s28 w) /\
 uop P (Instr.storeAt 26 s2 s28) h18 fun q5 h19 =>
 (∀ w : World, w.heap = h19 -> (Instr.loadAt 33 s32).run P w = .ok s33 w) /\
 rop P (Instr.loadAt 26 s2) h19 fun r_3 =>
 K (.tuple #[r_3, s31, s33, s35]) h19)
theorem e23 (code0_1 : Value) (h : Heap) (K : Value -> Heap -> Prop) : wpA Tryz.prog 36 (anOf []) (bodyOf Tryz.f23) 1 (fun A h => resA Tryz.prog A h K [.cell 2 26, .tmp 3, .tmp 4, .tmp 5]) (fun _ _ _ => False) (fun A h => resA Tryz.prog A h K [.cell 2 26, .tmp 3, .tmp 4, .tmp 5]) (aargs [code0_1] 0) h = t23 Tryz.prog code0_1 h K := by kernel_rfl
theorem c23 (code0_1 : Value) (h : Heap) (K : Value -> Heap -> Prop) (H : t23 Tryz.prog code0_1 h K) : callM Tryz.prog 23 #[code0_1] h K :=
  callM_of_wpA mixed (fn := Tryz.f23) Tryz.func23 (c := bodyOf Tryz.f23) rfl (of_decide_eq_true (by kernel_rfl)) (anOf []) 35 36 (by kernel_rfl) rfl [.cell 2 26, .tmp 3, .tmp 4, .tmp 5] (by kernel_rfl) (args := [code0_1]) (by rw [e23]; exact H)
def t24 (P : Program) (g0_1 : Value) (sink1_1 : Value) (rotors2_1 : Value) (n3_1 : Value) (h : Heap) (K : Value -> Heap -> Prop) : Prop :=
 eop P (Instr.box 26 g0_1) h fun g4_1 h1 =>
 eop P (Instr.alloc 28 true (.tuple #[])) h1 fun s8 h2 =>
 rop P (Instr.loadAt 26 g4_1) h2 fun s15 =>
 eop P (Instr.buildSlice 33 1 #[(0, sink1_1)]) h2 fun s17 h3 =>
 callM P 54 #[s15, s17] h3 fun s18 h4 =>
 pop P (Op.unary .not s18) fun s19 =>
 guardM (asG s19 false) false (fun k_1 => rop P (Instr.loadAt 26 g4_1) h4 fun s21 =>
 k_1 s21 h4) h4 fun s21b h5 =>
 guardM (asG s19 false) false (fun k_2 => k_2 rotors2_1 h5) h5 fun s22 h6 =>
 guardM (asG s19 false) false (fun k_3 => callM P 71 #[s21b, s22] h6 fun s23 h7 =>
 k_3 s23 h7) h6 fun s23b h8 =>
 guardM (asG s19 false) false (fun k_4 => pop P (Op.unary .not s23b) fun s24 =>
 k_4 s24 h8) h8 fun s24b h9 =>
 pop P (pickS s19 (Value.bool true) s24b) fun s25 =>
 guardM (asG s25 false) false (fun k_5 => k_5 n3_1 h9) h9 fun s27 h10 =>
 guardM (asG s25 false) false (fun k_6 => callM P 72 #[s27, (.int .i64 0), (.int .i64 12)] h10 fun s28 h11 =>
 k_6 s28 h11) h10 fun s28b h12 =>
 guardM (asG s25 false) false (fun k_7 => pop P (Op.unary .not s28b) fun s29 =>
 k_7 s29 h12) h12 fun s29b h13 =>
 pop P (pickS s25 (Value.bool true) s29b) fun s30 =>
 condM s30
 (pop P (Instr.build 28 #[]) fun s31 =>
 uop P (Instr.storeAt 28 s8 s31) h13 fun q1 h14 =>
 rop P (Instr.loadAt 28 s8) h14 fun r_1 =>
 K (.tuple #[r_1, (Value.bool false)]) h14)
 (pop P (Instr.build 28 #[]) fun s32 =>
 eop P (Instr.alloc 28 true (.tuple #[])) h13 fun out10_1 h15 =>
 uop P (Instr.storeAt 28 out10_1 s32) h15 fun q2 h16 =>
 pop P (Instr.fieldAt 26 g4_1 0) fun s33 =>
 rop P (Instr.loadAt 24 s33) h16 fun s34 =>
 pop P (lenS 24 3 s34) fun s35 =>
 ∃ (I1 : List Value -> Heap -> Prop) (μ_1 : List Value -> Heap -> Nat), I1 [(.int .i64 0)] h16 /\
 ∀ (junk1 : Nat -> Value) (s36 : Value) (h17 : Heap), I1 [s36] h17 ->
 pop P (binA .lss 3 s36 s35) fun s37 =>
 condM s37
 (pop P (Instr.indexAt 24 s34 s36) fun s39 =>
 rop P (Instr.loadAt 33 s39) h17 fun s40 =>
 eop P (Instr.buildSlice 33 0 #[]) h17 fun s41 h18 =>
 ∃ (I2 : List Value -> Heap -> Prop) (μ_2 : List Value -> Heap -> Nat), I2 [s41, (.int .i64 1)] h18 /\
 ∀ (junk2 : Nat -> Value) (list13_1 : Value) (k14_1 : Value) (h19 : Heap), I2 [list13_1, k14_1] h19 ->
 pop P (binA .leq 3 k14_1 n3_1) fun s44 =>
 guardM (asG s44 true) true (fun k_8 => k_8 s36 h19) h19 fun s46 h20 =>
 guardM (asG s44 true) true (fun k_9 => k_9 sink1_1 h20) h20 fun s47 h21 =>
 guardM (asG s44 true) true (fun k_10 => pop P (binE .neq 3 (.tmp 46) (.tmp 47) s46 s47) fun s48 =>
 k_10 s48 h21) h21 fun s48b h22 =>
 pop P (pickS s44 s48b (Value.bool false)) fun s49 =>
 guardM (asG s49 true) true (fun k_11 => k_11 s40 h22) h22 fun s51 h23 =>
 guardM (asG s49 true) true (fun k_12 => pop P (lenS 33 3 s51) fun s52 =>
 k_12 s52 h23) h23 fun s52b h24 =>
 guardM (asG s49 true) true (fun k_13 => pop P (binA .gtr 3 s52b (.int .i64 0)) fun s53 =>
 k_13 s53 h24) h24 fun s53b h25 =>
 pop P (pickS s49 s53b (Value.bool false)) fun s54 =>
 condM s54
 (pop P (Instr.indexAt 33 rotors2_1 s36) fun s60 =>
 rop P (Instr.loadAt 3 s60) h25 fun s61 =>
 pop P (binA .add 3 s61 k14_1) fun s63 =>
 pop P (lenS 33 3 s40) fun s65 =>
 pop P (binA .rem 3 s63 s65) fun s66 =>
 eop P (Instr.buildSlice 33 1 #[(0, s66)]) h25 fun s67 h26 =>
 eop P (appS 33 33 33 list13_1 s67) h26 fun s68 h27 =>
 pop P (binA .add 3 k14_1 (.int .i64 1)) fun s56 =>
 I2 [s68, s56] h27 /\ μ_2 [s68, s56] h27 < μ_2 [list13_1, k14_1] h19)
 (pop P (Instr.fieldAt 28 out10_1 0) fun s69 =>
 rop P (Instr.loadAt 24 s69) h25 fun s70 =>
 eop P (Instr.buildSlice 24 1 #[(0, list13_1)]) h25 fun s72 h28 =>
 eop P (appS 24 24 24 s70 s72) h28 fun s73 h29 =>
 pop P (Instr.fieldAt 28 out10_1 0) fun s74 =>
 uop P (Instr.storeAt 24 s74 s73) h29 fun q3 h30 =>
 pop P (binA .add 3 s36 (.int .i64 1)) fun s75 =>
 I1 [s75] h30 /\ μ_1 [s75] h30 < μ_1 [s36] h17))
 (rop P (Instr.loadAt 28 out10_1) h17 fun s76 =>
 uop P (Instr.storeAt 28 s8 s76) h17 fun q4 h31 =>
 rop P (Instr.loadAt 28 s8) h31 fun r_2 =>
 K (.tuple #[r_2, (Value.bool true)]) h31))
theorem e24 (g0_1 : Value) (sink1_1 : Value) (rotors2_1 : Value) (n3_1 : Value) (h : Heap) (K : Value -> Heap -> Prop) : wpA Tryz.prog 77 (anOf [(122, [36]), (125338, [13, 14])]) (bodyOf Tryz.f24) 1 (fun A h => resA Tryz.prog A h K [.cell 8 28, .tmp 9]) (fun _ _ _ => False) (fun A h => resA Tryz.prog A h K [.cell 8 28, .tmp 9]) (aargs [g0_1, sink1_1, rotors2_1, n3_1] 0) h = t24 Tryz.prog g0_1 sink1_1 rotors2_1 n3_1 h K := by kernel_rfl
theorem c24 (g0_1 : Value) (sink1_1 : Value) (rotors2_1 : Value) (n3_1 : Value) (h : Heap) (K : Value -> Heap -> Prop) (H : t24 Tryz.prog g0_1 sink1_1 rotors2_1 n3_1 h K) : callM Tryz.prog 24 #[g0_1, sink1_1, rotors2_1, n3_1] h K :=
  callM_of_wpA mixed (fn := Tryz.f24) Tryz.func24 (c := bodyOf Tryz.f24) rfl (of_decide_eq_true (by kernel_rfl)) (anOf [(122, [36]), (125338, [13, 14])]) 73 77 (by kernel_rfl) rfl [.cell 8 28, .tmp 9] (by kernel_rfl) (args := [g0_1, sink1_1, rotors2_1, n3_1]) (by rw [e24]; exact H)
def t25 (P : Program) (g0_1 : Value) (sink1_1 : Value) (rotors2_1 : Value) (n3_1 : Value) (h : Heap) (K : Value -> Heap -> Prop) : Prop :=
 eop P (Instr.box 26 g0_1) h fun g4_1 h1 =>
 eop P (Instr.alloc 28 true (.tuple #[])) h1 fun s8 h2 =>
 rop P (Instr.loadAt 26 g4_1) h2 fun s15 =>
 callM P 55 #[s15, sink1_1] h2 fun s17 h3 =>
 pop P (Op.unary .not s17) fun s18 =>
 guardM (asG s18 false) false (fun k_1 => rop P (Instr.loadAt 26 g4_1) h3 fun s20 =>
 k_1 s20 h3) h3 fun s20b h4 =>
 guardM (asG s18 false) false (fun k_2 => k_2 rotors2_1 h4) h4 fun s21 h5 =>
 guardM (asG s18 false) false (fun k_3 => k_3 sink1_1 h5) h5 fun s22 h6 =>
 guardM (asG s18 false) false (fun k_4 => pop P (Instr.build 54 #[(0, s21), (1, s22)]) fun s23 =>
 k_4 s23 h6) h6 fun s23b h7 =>
 guardM (asG s18 false) false (fun k_5 => callM P 73 #[s20b, s23b] h7 fun s24 h8 =>
 k_5 s24 h8) h7 fun s24b h9 =>
 guardM (asG s18 false) false (fun k_6 => pop P (Op.unary .not s24b) fun s25 =>
 k_6 s25 h9) h9 fun s25b h10 =>
 pop P (pickS s18 (Value.bool true) s25b) fun s26 =>
 guardM (asG s26 false) false (fun k_7 => k_7 n3_1 h10) h10 fun s28 h11 =>
 guardM (asG s26 false) false (fun k_8 => callM P 74 #[s28, (.int .i64 0), (.int .i64 12)] h11 fun s29 h12 =>
 k_8 s29 h12) h11 fun s29b h13 =>
 guardM (asG s26 false) false (fun k_9 => pop P (Op.unary .not s29b) fun s30 =>
 k_9 s30 h13) h13 fun s30b h14 =>
 pop P (pickS s26 (Value.bool true) s30b) fun s31 =>
 condM s31
 (pop P (Instr.build 28 #[]) fun s32 =>
 uop P (Instr.storeAt 28 s8 s32) h14 fun q1 h15 =>
 rop P (Instr.loadAt 28 s8) h15 fun r_1 =>
 K (.tuple #[r_1, (Value.bool false)]) h15)
 (pop P (Instr.build 28 #[]) fun s33 =>
 eop P (Instr.alloc 28 true (.tuple #[])) h14 fun out10_1 h16 =>
 uop P (Instr.storeAt 28 out10_1 s33) h16 fun q2 h17 =>
 pop P (Instr.fieldAt 26 g4_1 0) fun s34 =>
 rop P (Instr.loadAt 24 s34) h17 fun s35 =>
 pop P (lenS 24 3 s35) fun s36 =>
 ∃ (I1 : List Value -> Heap -> Prop) (μ_1 : List Value -> Heap -> Nat), I1 [(.int .i64 0)] h17 /\
 ∀ (junk1 : Nat -> Value) (s37 : Value) (h18 : Heap), I1 [s37] h18 ->
 pop P (binA .lss 3 s37 s36) fun s38 =>
 condM s38
 (pop P (Instr.indexAt 24 s35 s37) fun s40 =>
 rop P (Instr.loadAt 33 s40) h18 fun s41 =>
 ∃ (I2 : List Value -> Heap -> Prop) (μ_2 : List Value -> Heap -> Nat), I2 [(Value.slice none 0 0), (.int .i64 1)] h18 /\
 ∀ (junk2 : Nat -> Value) (list13_1 : Value) (k14_1 : Value) (h19 : Heap), I2 [list13_1, k14_1] h19 ->
 pop P (binA .leq 3 k14_1 n3_1) fun s44 =>
 guardM (asG s44 true) true (fun k_10 => k_10 s37 h19) h19 fun s46 h20 =>
 guardM (asG s44 true) true (fun k_11 => k_11 sink1_1 h20) h20 fun s47 h21 =>
 guardM (asG s44 true) true (fun k_12 => pop P (binE .neq 3 (.tmp 46) (.tmp 47) s46 s47) fun s48 =>
 k_12 s48 h21) h21 fun s48b h22 =>
 pop P (pickS s44 s48b (Value.bool false)) fun s49 =>
 guardM (asG s49 true) true (fun k_13 => k_13 s41 h22) h22 fun s51 h23 =>
 guardM (asG s49 true) true (fun k_14 => pop P (lenS 33 3 s51) fun s52 =>
 k_14 s52 h23) h23 fun s52b h24 =>
 guardM (asG s49 true) true (fun k_15 => pop P (binA .gtr 3 s52b (.int .i64 0)) fun s53 =>
 k_15 s53 h24) h24 fun s53b h25 =>
 pop P (pickS s49 s53b (Value.bool false)) fun s54 =>
 condM s54
 (pop P (Instr.indexAt 33 rotors2_1 s37) fun s60 =>
 rop P (Instr.loadAt 3 s60) h25 fun s61 =>
 pop P (binA .add 3 s61 k14_1) fun s63 =>
 pop P (lenS 33 3 s41) fun s65 =>
 pop P (binA .rem 3 s63 s65) fun s66 =>
 eop P (Instr.buildSlice 33 1 #[(0, s66)]) h25 fun s67 h26 =>
 eop P (appS 33 33 33 list13_1 s67) h26 fun s68 h27 =>
 pop P (binA .add 3 k14_1 (.int .i64 1)) fun s56 =>
 I2 [s68, s56] h27 /\ μ_2 [s68, s56] h27 < μ_2 [list13_1, k14_1] h19)
 (pop P (Instr.fieldAt 28 out10_1 0) fun s69 =>
 rop P (Instr.loadAt 24 s69) h25 fun s70 =>
 eop P (Instr.buildSlice 24 1 #[(0, list13_1)]) h25 fun s72 h28 =>
 eop P (appS 24 24 24 s70 s72) h28 fun s73 h29 =>
 pop P (Instr.fieldAt 28 out10_1 0) fun s74 =>
 uop P (Instr.storeAt 24 s74 s73) h29 fun q3 h30 =>
 pop P (binA .add 3 s37 (.int .i64 1)) fun s75 =>
 I1 [s75] h30 /\ μ_1 [s75] h30 < μ_1 [s37] h18))
 (rop P (Instr.loadAt 28 out10_1) h18 fun s76 =>
 uop P (Instr.storeAt 28 s8 s76) h18 fun q4 h31 =>
 rop P (Instr.loadAt 28 s8) h31 fun r_2 =>
 K (.tuple #[r_2, (Value.bool true)]) h31))
theorem e25 (g0_1 : Value) (sink1_1 : Value) (rotors2_1 : Value) (n3_1 : Value) (h : Heap) (K : Value -> Heap -> Prop) : wpA Tryz.prog 77 (anOf [(122, [37]), (125338, [13, 14])]) (bodyOf Tryz.f25) 1 (fun A h => resA Tryz.prog A h K [.cell 8 28, .tmp 9]) (fun _ _ _ => False) (fun A h => resA Tryz.prog A h K [.cell 8 28, .tmp 9]) (aargs [g0_1, sink1_1, rotors2_1, n3_1] 0) h = t25 Tryz.prog g0_1 sink1_1 rotors2_1 n3_1 h K := by kernel_rfl
theorem c25 (g0_1 : Value) (sink1_1 : Value) (rotors2_1 : Value) (n3_1 : Value) (h : Heap) (K : Value -> Heap -> Prop) (H : t25 Tryz.prog g0_1 sink1_1 rotors2_1 n3_1 h K) : callM Tryz.prog 25 #[g0_1, sink1_1, rotors2_1, n3_1] h K :=
  callM_of_wpA mixed (fn := Tryz.f25) Tryz.func25 (c := bodyOf Tryz.f25) rfl (of_decide_eq_true (by kernel_rfl)) (anOf [(122, [37]), (125338, [13, 14])]) 73 77 (by kernel_rfl) rfl [.cell 8 28, .tmp 9] (by kernel_rfl) (args := [g0_1, sink1_1, rotors2_1, n3_1]) (by rw [e25]; exact H)
def t26 (P : Program) (code0_1 : Value) (h : Heap) (K : Value -> Heap -> Prop) : Prop :=
 eop P (Instr.alloc 28 true (.tuple #[])) h fun s2 h1 =>
 pop P (Instr.build 84 #[(0, code0_1)]) fun s8 =>
 eop P (Instr.box 84 s8) h1 fun s9 h2 =>
 callM P 60 #[s9] h2 fun s12 h3 =>
 pop P (Instr.extract s12 0) fun s13 =>
 pop P (Instr.extract s12 1) fun s14 =>
 pop P (Instr.extract s12 2) fun s15 =>
 eop P (Instr.alloc 26 true (.tuple #[])) h3 fun _4_1 h4 =>
 eop P (Instr.alloc 28 true (.tuple #[])) h4 fun s6_1 h5 =>
 uop P (Instr.storeAt 26 _4_1 s13) h5 fun q1 h6 =>
 uop P (Instr.storeAt 28 s6_1 s15) h6 fun q2 h7 =>
 rop P (Instr.loadAt 28 s6_1) h7 fun s16 =>
 uop P (Instr.storeAt 28 s2 s16) h7 fun q3 h8 =>
 rop P (Instr.loadAt 28 s2) h8 fun r_1 =>
 K r_1 h8
theorem e26 (code0_1 : Value) (h : Heap) (K : Value -> Heap -> Prop) : wpA Tryz.prog 17 (anOf []) (bodyOf Tryz.f26) 1 (fun A h => resA Tryz.prog A h K [.cell 2 28]) (fun _ _ _ => False) (fun A h => resA Tryz.prog A h K [.cell 2 28]) (aargs [code0_1] 0) h = t26 Tryz.prog code0_1 h K := by kernel_rfl
theorem c26 (code0_1 : Value) (h : Heap) (K : Value -> Heap -> Prop) (H : t26 Tryz.prog code0_1 h K) : callM Tryz.prog 26 #[code0_1] h K :=
  callM_of_wpA mixed (fn := Tryz.f26) Tryz.func26 (c := bodyOf Tryz.f26) rfl (of_decide_eq_true (by kernel_rfl)) (anOf []) 16 17 (by kernel_rfl) rfl [.cell 2 28] (by kernel_rfl) (args := [code0_1]) (by rw [e26]; exact H)
def t27 (P : Program) (s0_1 : Value) (h : Heap) (K : Value -> Heap -> Prop) : Prop :=
 eop P (Instr.box 28 s0_1) h fun s1_1 h1 =>
 pop P (Instr.fieldAt 28 s1_1 0) fun s8 =>
 rop P (Instr.loadAt 24 s8) h1 fun s9 =>
 pop P (lenS 24 3 s9) fun s10 =>
 callM P 72 #[s10, (.int .i64 1), (.int .i64 8)] h1 fun s11 h2 =>
 pop P (Op.unary .not s11) fun s12 =>
 condM s12
 (K (.tuple #[(Value.string { data := #[] }), (Value.bool false)]) h2)
 (eop P (Instr.buildSlice 99 0 #[]) h2 fun s13 h3 =>
 pop P (Instr.fieldAt 28 s1_1 0) fun s14 =>
 rop P (Instr.loadAt 24 s14) h3 fun s15 =>
 pop P (lenS 24 3 s15) fun s16 =>
 ∃ (I1 : List Value -> Heap -> Prop) (μ_1 : List Value -> Heap -> Nat), I1 [(Value.bool false), s13, (.int .i64 0)] h3 /\
 ∀ (junk1 : Nat -> Value) (empty4_1 : Value) (words5_1 : Value) (s17 : Value) (h4 : Heap), I1 [empty4_1, words5_1, s17] h4 ->
 pop P (binA .lss 3 s17 s16) fun s18 =>
 condM s18
 (pop P (Instr.indexAt 24 s15 s17) fun s19 =>
 rop P (Instr.loadAt 33 s19) h4 fun s20 =>
 pop P (lenS 33 3 s20) fun s22 =>
 pop P (binA .gtr 3 s22 (.int .i64 12)) fun s23 =>
 guardM (asG s23 false) false (fun k_1 => k_1 s20 h4) h4 fun s25 h5 =>
 guardM (asG s23 false) false (fun k_2 => callM P 75 #[s25, (.func (.func 76) #[] #[])] h5 fun s26 h6 =>
 k_2 s26 h6) h5 fun s26b h7 =>
 pop P (pickS s23 (Value.bool true) s26b) fun s27 =>
 condM s27
 (K (.tuple #[(Value.string { data := #[] }), (Value.bool false)]) h7)
 (guardM (asG empty4_1 false) false (fun k_3 => k_3 s20 h7) h7 fun s30 h8 =>
 guardM (asG empty4_1 false) false (fun k_4 => pop P (lenS 33 3 s30) fun s31 =>
 k_4 s31 h8) h8 fun s31b h9 =>
 guardM (asG empty4_1 false) false (fun k_5 => pop P (binE .eql 3 (.tmp 31) (.const (.int .i64 0)) s31b (.int .i64 0)) fun s32 =>
 k_5 s32 h9) h9 fun s32b h10 =>
 pop P (pickS empty4_1 (Value.bool true) s32b) fun s33 =>
 callM P 77 #[s20] h10 fun s36 h11 =>
 eop P (Instr.buildSlice 99 1 #[(0, s36)]) h11 fun s37 h12 =>
 eop P (appS 99 99 99 words5_1 s37) h12 fun s38 h13 =>
 pop P (binA .add 3 s17 (.int .i64 1)) fun s39 =>
 I1 [s33, s38, s39] h13 /\ μ_1 [s33, s38, s39] h13 < μ_1 [empty4_1, words5_1, s17] h4))
 (pop P (Op.unary .not empty4_1) fun s41 =>
 condM s41
 (K (.tuple #[(Value.string { data := #[] }), (Value.bool false)]) h4)
 (callM P 78 #[words5_1, (Value.string { data := #[59] })] h4 fun s43 h14 =>
 K (.tuple #[s43, (Value.bool true)]) h14)))
theorem e27 (s0_1 : Value) (h : Heap) (K : Value -> Heap -> Prop) : wpA Tryz.prog 44 (anOf [(122, [4, 5, 17])]) (bodyOf Tryz.f27) 1 (fun A h => resA Tryz.prog A h K [.tmp 2, .tmp 3]) (fun _ _ _ => False) (fun A h => resA Tryz.prog A h K [.tmp 2, .tmp 3]) (aargs [s0_1] 0) h = t27 Tryz.prog s0_1 h K := by kernel_rfl
theorem c27 (s0_1 : Value) (h : Heap) (K : Value -> Heap -> Prop) (H : t27 Tryz.prog s0_1 h K) : callM Tryz.prog 27 #[s0_1] h K :=
  callM_of_wpA mixed (fn := Tryz.f27) Tryz.func27 (c := bodyOf Tryz.f27) rfl (of_decide_eq_true (by kernel_rfl)) (anOf [(122, [4, 5, 17])]) 43 44 (by kernel_rfl) rfl [.tmp 2, .tmp 3] (by kernel_rfl) (args := [s0_1]) (by rw [e27]; exact H)
def t28 (P : Program) (s0_1 : Value) (h : Heap) (K : Value -> Heap -> Prop) : Prop :=
 eop P (Instr.box 28 s0_1) h fun s1_1 h1 =>
 pop P (Instr.fieldAt 28 s1_1 0) fun s10 =>
 rop P (Instr.loadAt 24 s10) h1 fun s11 =>
 pop P (lenS 24 3 s11) fun s12 =>
 callM P 74 #[s12, (.int .i64 1), (.int .i64 8)] h1 fun s13 h2 =>
 pop P (Op.unary .not s13) fun s14 =>
 condM s14
 (K (.tuple #[(Value.string { data := #[] }), (Value.bool false)]) h2)
 (pop P (Instr.fieldAt 28 s1_1 0) fun s15 =>
 rop P (Instr.loadAt 24 s15) h2 fun s16 =>
 pop P (lenS 24 3 s16) fun s17 =>
 ∃ (I1 : List Value -> Heap -> Prop) (μ_1 : List Value -> Heap -> Nat), I1 [(Value.string { data := #[] }), (Value.bool false), (.int .i64 0)] h2 /\
 ∀ (junk1 : Nat -> Value) (out4_1 : Value) (empty5_1 : Value) (s18 : Value) (h3 : Heap), I1 [out4_1, empty5_1, s18] h3 ->
 pop P (binA .lss 3 s18 s17) fun s19 =>
 condM s19
 (pop P (Instr.indexAt 24 s16 s18) fun s21 =>
 rop P (Instr.loadAt 33 s21) h3 fun s22 =>
 pop P (lenS 33 3 s22) fun s24 =>
 pop P (binA .gtr 3 s24 (.int .i64 12)) fun s25 =>
 guardM (asG s25 false) false (fun k_1 => k_1 s22 h3) h3 fun s27 h4 =>
 guardM (asG s25 false) false (fun k_2 => callM P 79 #[s27, (.int .i64 0), (.int .i64 4)] h4 fun s28 h5 =>
 k_2 s28 h5) h4 fun s28b h6 =>
 guardM (asG s25 false) false (fun k_3 => pop P (Op.unary .not s28b) fun s29 =>
 k_3 s29 h6) h6 fun s29b h7 =>
 pop P (pickS s25 (Value.bool true) s29b) fun s30 =>
 condM s30
 (K (.tuple #[(Value.string { data := #[] }), (Value.bool false)]) h7)
 (∃ J1 : List Value -> Heap -> Prop, (pop P (binA .gtr 3 s18 (.int .i64 0)) fun s32 =>
 condM s32
 (pop P (binA .add 9 out4_1 (Value.string { data := #[59] })) fun s34 =>
 J1 [s34] h7)
 (J1 [out4_1] h7)) /\
 ∀ (junk2 : Nat -> Value) (out4_2 : Value) (h8 : Heap), J1 [out4_2] h8 ->
 ∃ J2 : List Value -> Heap -> Prop, (pop P (lenS 33 3 s22) fun s36 =>
 pop P (binE .eql 3 (.tmp 36) (.const (.int .i64 0)) s36 (.int .i64 0)) fun s37 =>
 condM s37
 (pop P (binA .add 9 out4_2 (Value.string { data := #[45] })) fun s39 =>
 J2 [s39, (Value.bool true)] h8)
 (J2 [out4_2, empty5_1] h8)) /\
 ∀ (junk3 : Nat -> Value) (out4_3 : Value) (empty5_2 : Value) (h9 : Heap), J2 [out4_3, empty5_2] h9 ->
 pop P (lenS 33 3 s22) fun s41 =>
 ∃ (I2 : List Value -> Heap -> Prop) (μ_2 : List Value -> Heap -> Nat), I2 [out4_3, (.int .i64 0)] h9 /\
 ∀ (junk4 : Nat -> Value) (out4_4 : Value) (s42 : Value) (h10 : Heap), I2 [out4_4, s42] h10 ->
 pop P (binA .lss 3 s42 s41) fun s43 =>
 condM s43
 (pop P (Instr.indexAt 33 s22 s42) fun s45 =>
 rop P (Instr.loadAt 3 s45) h10 fun s46 =>
 ∃ J3 : List Value -> Heap -> Prop, (pop P (binA .gtr 3 s42 (.int .i64 0)) fun s48 =>
 condM s48
 (pop P (binA .add 9 out4_4 (Value.string { data := #[44] })) fun s50 =>
 J3 [s50] h10)
 (J3 [out4_4] h10)) /\
 ∀ (junk5 : Nat -> Value) (out4_5 : Value) (h11 : Heap), J3 [out4_5] h11 ->
 callM P 80 #[s46] h11 fun s53 h12 =>
 pop P (binA .add 9 out4_5 s53) fun s54 =>
 pop P (binA .add 3 s42 (.int .i64 1)) fun s55 =>
 I2 [s54, s55] h12 /\ μ_2 [s54, s55] h12 < μ_2 [out4_4, s42] h10)
 (pop P (binA .add 3 s18 (.int .i64 1)) fun s56 =>
 I1 [out4_4, empty5_2, s56] h10 /\ μ_1 [out4_4, empty5_2, s56] h10 < μ_1 [out4_1, empty5_1, s18] h3)))
 (pop P (Op.unary .not empty5_1) fun s58 =>
 condM s58
 (K (.tuple #[(Value.string { data := #[] }), (Value.bool false)]) h3)
 (K (.tuple #[out4_1, (Value.bool true)]) h3)))
theorem e28 (s0_1 : Value) (h : Heap) (K : Value -> Heap -> Prop) : wpA Tryz.prog 60 (anOf [(122, [4, 5, 18]), (15667, [4]), (31335, [4, 5]), (250686, [4, 42]), (16043929, [4])]) (bodyOf Tryz.f28) 1 (fun A h => resA Tryz.prog A h K [.tmp 2, .tmp 3]) (fun _ _ _ => False) (fun A h => resA Tryz.prog A h K [.tmp 2, .tmp 3]) (aargs [s0_1] 0) h = t28 Tryz.prog s0_1 h K := by kernel_rfl
theorem c28 (s0_1 : Value) (h : Heap) (K : Value -> Heap -> Prop) (H : t28 Tryz.prog s0_1 h K) : callM Tryz.prog 28 #[s0_1] h K :=
  callM_of_wpA mixed (fn := Tryz.f28) Tryz.func28 (c := bodyOf Tryz.f28) rfl (of_decide_eq_true (by kernel_rfl)) (anOf [(122, [4, 5, 18]), (15667, [4]), (31335, [4, 5]), (250686, [4, 42]), (16043929, [4])]) 59 60 (by kernel_rfl) rfl [.tmp 2, .tmp 3] (by kernel_rfl) (args := [s0_1]) (by rw [e28]; exact H)
def t49 (P : Program) (code0_1 : Value) (h : Heap) (K : Value -> Heap -> Prop) : Prop :=
 eop P (Instr.alloc 26 true (.tuple #[])) h fun s2 h1 =>
 eop P (Instr.alloc 28 true (.tuple #[])) h1 fun s4 h2 =>
 pop P (Instr.build 84 #[(0, code0_1)]) fun s7 =>
 eop P (Instr.box 84 s7) h2 fun s8 h3 =>
 callM P 60 #[s8] h3 fun s10 h4 =>
 pop P (Instr.extract s10 0) fun s11 =>
 pop P (Instr.extract s10 1) fun s12 =>
 pop P (Instr.extract s10 2) fun s13 =>
 uop P (Instr.storeAt 26 s2 s11) h4 fun q1 h5 =>
 uop P (Instr.storeAt 28 s4 s13) h5 fun q2 h6 =>
 rop P (Instr.loadAt 26 s2) h6 fun r_1 =>
 rop P (Instr.loadAt 28 s4) h6 fun r_2 =>
 K (.tuple #[r_1, s12, r_2]) h6
theorem e49 (code0_1 : Value) (h : Heap) (K : Value -> Heap -> Prop) : wpA Tryz.prog 14 (anOf []) (bodyOf Tryz.f49) 1 (fun A h => resA Tryz.prog A h K [.cell 2 26, .tmp 3, .cell 4 28]) (fun _ _ _ => False) (fun A h => resA Tryz.prog A h K [.cell 2 26, .tmp 3, .cell 4 28]) (aargs [code0_1] 0) h = t49 Tryz.prog code0_1 h K := by kernel_rfl
theorem c49 (code0_1 : Value) (h : Heap) (K : Value -> Heap -> Prop) (H : t49 Tryz.prog code0_1 h K) : callM Tryz.prog 49 #[code0_1] h K :=
  callM_of_wpA mixed (fn := Tryz.f49) Tryz.func49 (c := bodyOf Tryz.f49) rfl (of_decide_eq_true (by kernel_rfl)) (anOf []) 13 14 (by kernel_rfl) rfl [.cell 2 26, .tmp 3, .cell 4 28] (by kernel_rfl) (args := [code0_1]) (by rw [e49]; exact H)
def t50 (P : Program) (g0_1 : Value) (sink1_1 : Value) (s2_1 : Value) (h : Heap) (K : Value -> Heap -> Prop) : Prop :=
 eop P (Instr.box 26 g0_1) h fun g3_1 h1 =>
 eop P (Instr.box 28 s2_1) h1 fun s5_1 h2 =>
 rop P (Instr.loadAt 26 g3_1) h2 fun s9 =>
 eop P (Instr.buildSlice 33 1 #[(0, sink1_1)]) h2 fun s11 h3 =>
 callM P 54 #[s9, s11] h3 fun s12 h4 =>
 pop P (Op.unary .not s12) fun s13 =>
 guardM (asG s13 false) false (fun k_1 => pop P (Instr.fieldAt 28 s5_1 0) fun s15 =>
 k_1 s15 h4) h4 fun s15b h5 =>
 guardM (asG s13 false) false (fun k_2 => rop P (Instr.loadAt 24 s15b) h5 fun s16 =>
 k_2 s16 h5) h5 fun s16b h6 =>
 guardM (asG s13 false) false (fun k_3 => pop P (lenS 24 3 s16b) fun s17 =>
 k_3 s17 h6) h6 fun s17b h7 =>
 guardM (asG s13 false) false (fun k_4 => pop P (Instr.fieldAt 26 g3_1 0) fun s18 =>
 k_4 s18 h7) h7 fun s18b h8 =>
 guardM (asG s13 false) false (fun k_5 => rop P (Instr.loadAt 24 s18b) h8 fun s19 =>
 k_5 s19 h8) h8 fun s19b h9 =>
 guardM (asG s13 false) false (fun k_6 => pop P (lenS 24 3 s19b) fun s20 =>
 k_6 s20 h9) h9 fun s20b h10 =>
 guardM (asG s13 false) false (fun k_7 => pop P (binE .neq 3 (.tmp 17) (.tmp 20) s17b s20b) fun s21 =>
 k_7 s21 h10) h10 fun s21b h11 =>
 pop P (pickS s13 (Value.bool true) s21b) fun s22 =>
 guardM (asG s22 false) false (fun k_8 => pop P (Instr.fieldAt 28 s5_1 0) fun s24 =>
 k_8 s24 h11) h11 fun s24b h12 =>
 guardM (asG s22 false) false (fun k_9 => rop P (Instr.loadAt 24 s24b) h12 fun s25 =>
 k_9 s25 h12) h12 fun s25b h13 =>
 guardM (asG s22 false) false (fun k_10 => k_10 sink1_1 h13) h13 fun s26 h14 =>
 guardM (asG s22 false) false (fun k_11 => pop P (Instr.indexAt 24 s25b s26) fun s27 =>
 k_11 s27 h14) h14 fun s27b h15 =>
 guardM (asG s22 false) false (fun k_12 => rop P (Instr.loadAt 33 s27b) h15 fun s28 =>
 k_12 s28 h15) h15 fun s28b h16 =>
 guardM (asG s22 false) false (fun k_13 => pop P (lenS 33 3 s28b) fun s29 =>
 k_13 s29 h16) h16 fun s29b h17 =>
 guardM (asG s22 false) false (fun k_14 => pop P (binE .neq 3 (.tmp 29) (.const (.int .i64 0)) s29b (.int .i64 0)) fun s30 =>
 k_14 s30 h17) h17 fun s30b h18 =>
 pop P (pickS s22 (Value.bool true) s30b) fun s31 =>
 condM s31
 (K (Value.bool false) h18)
 (pop P (Instr.fieldAt 28 s5_1 0) fun s32 =>
 rop P (Instr.loadAt 24 s32) h18 fun s33 =>
 pop P (lenS 24 3 s33) fun s34 =>
 ∃ (I1 : List Value -> Heap -> Prop) (μ_1 : List Value -> Heap -> Nat), I1 [(.int .i64 0)] h18 /\
 ∀ (junk1 : Nat -> Value) (s35 : Value) (h19 : Heap), I1 [s35] h19 ->
 pop P (binA .lss 3 s35 s34) fun s36 =>
 condM s36
 (pop P (Instr.indexAt 24 s33 s35) fun s38 =>
 rop P (Instr.loadAt 33 s38) h19 fun s39 =>
 eop P (Instr.alloc 3 true (.tuple #[])) h19 fun p7_1 h20 =>
 uop P (Instr.storeAt 3 p7_1 s35) h20 fun q1 h21 =>
 pop P (lenS 33 3 s39) fun s41 =>
 pop P (binA .gtr 3 s41 (.int .i64 12)) fun s42 =>
 guardM (asG s42 false) false (fun k_15 => k_15 s39 h21) h21 fun s44 h22 =>
 guardM (asG s42 false) false (fun k_16 => pop P (Instr.makeFunc (Fn.func 111) #[] #[g3_1, p7_1]) fun s45 =>
 k_16 s45 h22) h22 fun s45b h23 =>
 guardM (asG s42 false) false (fun k_17 => callM P 75 #[s44, s45b] h23 fun s46 h24 =>
 k_17 s46 h24) h23 fun s46b h25 =>
 pop P (pickS s42 (Value.bool true) s46b) fun s47 =>
 condM s47
 (K (Value.bool false) h25)
 (pop P (binA .add 3 s35 (.int .i64 1)) fun s48 =>
 I1 [s48] h25 /\ μ_1 [s48] h25 < μ_1 [s35] h19))
 (K (Value.bool true) h19))
theorem e50 (g0_1 : Value) (sink1_1 : Value) (s2_1 : Value) (h : Heap) (K : Value -> Heap -> Prop) : wpA Tryz.prog 49 (anOf [(58, [35])]) (bodyOf Tryz.f50) 1 (fun A h => resA Tryz.prog A h K [.tmp 6]) (fun _ _ _ => False) (fun A h => resA Tryz.prog A h K [.tmp 6]) (aargs [g0_1, sink1_1, s2_1] 0) h = t50 Tryz.prog g0_1 sink1_1 s2_1 h K := by kernel_rfl
theorem c50 (g0_1 : Value) (sink1_1 : Value) (s2_1 : Value) (h : Heap) (K : Value -> Heap -> Prop) (H : t50 Tryz.prog g0_1 sink1_1 s2_1 h K) : callM Tryz.prog 50 #[g0_1, sink1_1, s2_1] h K :=
  callM_of_wpA mixed (fn := Tryz.f50) Tryz.func50 (c := bodyOf Tryz.f50) rfl (of_decide_eq_true (by kernel_rfl)) (anOf [(58, [35])]) 46 49 (by kernel_rfl) rfl [.tmp 6] (by kernel_rfl) (args := [g0_1, sink1_1, s2_1]) (by rw [e50]; exact H)
def t51 (P : Program) (s0_1 : Value) (g1_1 : Value) (h : Heap) (K : Value -> Heap -> Prop) : Prop :=
 eop P (Instr.box 28 s0_1) h fun s2_1 h1 =>
 eop P (Instr.box 26 g1_1) h1 fun g3_1 h2 =>
 eop P (Instr.buildSlice 24 0 #[]) h2 fun s8 h3 =>
 pop P (Instr.fieldAt 26 g3_1 0) fun s9 =>
 rop P (Instr.loadAt 24 s9) h3 fun s10 =>
 pop P (lenS 24 3 s10) fun s11 =>
 ∃ (I1 : List Value -> Heap -> Prop) (μ_1 : List Value -> Heap -> Nat), I1 [s8, (.int .i64 0)] h3 /\
 ∀ (junk1 : Nat -> Value) (out5_1 : Value) (s12 : Value) (h4 : Heap), I1 [out5_1, s12] h4 ->
 pop P (binA .lss 3 s12 s11) fun s13 =>
 condM s13
 (rop P (Instr.loadAt 28 s2_1) h4 fun s15 =>
 rop P (Instr.loadAt 26 g3_1) h4 fun s16 =>
 callM P 62 #[s15, s16, s12] h4 fun s18 h5 =>
 pop P (binE .neq 33 (.tmp 19) (.const (Value.slice none 0 0)) s18 (Value.slice none 0 0)) fun s20 =>
 guardM (asG s20 true) true (fun k_1 => k_1 s18 h5) h5 fun s22 h6 =>
 guardM (asG s20 true) true (fun k_2 => pop P (Instr.indexAt 33 s22 (.int .i64 0)) fun s23 =>
 k_2 s23 h6) h6 fun s23b h7 =>
 guardM (asG s20 true) true (fun k_3 => rop P (Instr.loadAt 3 s23b) h7 fun s24 =>
 k_3 s24 h7) h7 fun s24b h8 =>
 guardM (asG s20 true) true (fun k_4 => k_4 s12 h8) h8 fun s25 h9 =>
 guardM (asG s20 true) true (fun k_5 => pop P (binE .eql 3 (.tmp 24) (.tmp 25) s24b s25) fun s26 =>
 k_5 s26 h9) h9 fun s26b h10 =>
 pop P (pickS s20 s26b (Value.bool false)) fun s27 =>
 condM s27
 (eop P (Instr.buildSlice 24 1 #[(0, s18)]) h10 fun s30 h11 =>
 eop P (appS 24 24 24 out5_1 s30) h11 fun s31 h12 =>
 pop P (binA .add 3 s12 (.int .i64 1)) fun s32 =>
 I1 [s31, s32] h12 /\ μ_1 [s31, s32] h12 < μ_1 [out5_1, s12] h4)
 (pop P (binA .add 3 s12 (.int .i64 1)) fun s32b =>
 I1 [out5_1, s32b] h10 /\ μ_1 [out5_1, s32b] h10 < μ_1 [out5_1, s12] h4))
 (K out5_1 h4)
theorem e51 (s0_1 : Value) (g1_1 : Value) (h : Heap) (K : Value -> Heap -> Prop) : wpA Tryz.prog 34 (anOf [(58, [5, 12])]) (bodyOf Tryz.f51) 1 (fun A h => resA Tryz.prog A h K [.tmp 4]) (fun _ _ _ => False) (fun A h => resA Tryz.prog A h K [.tmp 4]) (aargs [s0_1, g1_1] 0) h = t51 Tryz.prog s0_1 g1_1 h K := by kernel_rfl
theorem c51 (s0_1 : Value) (g1_1 : Value) (h : Heap) (K : Value -> Heap -> Prop) (H : t51 Tryz.prog s0_1 g1_1 h K) : callM Tryz.prog 51 #[s0_1, g1_1] h K :=
  callM_of_wpA mixed (fn := Tryz.f51) Tryz.func51 (c := bodyOf Tryz.f51) rfl (of_decide_eq_true (by kernel_rfl)) (anOf [(58, [5, 12])]) 32 34 (by kernel_rfl) rfl [.tmp 4] (by kernel_rfl) (args := [s0_1, g1_1]) (by rw [e51]; exact H)
def t52 (P : Program) (g0_1 : Value) (sink1_1 : Value) (s2_1 : Value) (h : Heap) (K : Value -> Heap -> Prop) : Prop :=
 eop P (Instr.box 26 g0_1) h fun g3_1 h1 =>
 eop P (Instr.box 28 s2_1) h1 fun s5_1 h2 =>
 rop P (Instr.loadAt 26 g3_1) h2 fun s9 =>
 callM P 55 #[s9, sink1_1] h2 fun s11 h3 =>
 pop P (Op.unary .not s11) fun s12 =>
 guardM (asG s12 false) false (fun k_1 => pop P (Instr.fieldAt 28 s5_1 0) fun s14 =>
 k_1 s14 h3) h3 fun s14b h4 =>
 guardM (asG s12 false) false (fun k_2 => rop P (Instr.loadAt 24 s14b) h4 fun s15 =>
 k_2 s15 h4) h4 fun s15b h5 =>
 guardM (asG s12 false) false (fun k_3 => pop P (lenS 24 3 s15b) fun s16 =>
 k_3 s16 h5) h5 fun s16b h6 =>
 guardM (asG s12 false) false (fun k_4 => pop P (Instr.fieldAt 26 g3_1 0) fun s17 =>
 k_4 s17 h6) h6 fun s17b h7 =>
 guardM (asG s12 false) false (fun k_5 => rop P (Instr.loadAt 24 s17b) h7 fun s18 =>
 k_5 s18 h7) h7 fun s18b h8 =>
 guardM (asG s12 false) false (fun k_6 => pop P (lenS 24 3 s18b) fun s19 =>
 k_6 s19 h8) h8 fun s19b h9 =>
 guardM (asG s12 false) false (fun k_7 => pop P (binE .neq 3 (.tmp 16) (.tmp 19) s16b s19b) fun s20 =>
 k_7 s20 h9) h9 fun s20b h10 =>
 pop P (pickS s12 (Value.bool true) s20b) fun s21 =>
 guardM (asG s21 false) false (fun k_8 => pop P (Instr.fieldAt 28 s5_1 0) fun s23 =>
 k_8 s23 h10) h10 fun s23b h11 =>
 guardM (asG s21 false) false (fun k_9 => rop P (Instr.loadAt 24 s23b) h11 fun s24 =>
 k_9 s24 h11) h11 fun s24b h12 =>
 guardM (asG s21 false) false (fun k_10 => k_10 sink1_1 h12) h12 fun s25 h13 =>
 guardM (asG s21 false) false (fun k_11 => pop P (Instr.indexAt 24 s24b s25) fun s26 =>
 k_11 s26 h13) h13 fun s26b h14 =>
 guardM (asG s21 false) false (fun k_12 => rop P (Instr.loadAt 33 s26b) h14 fun s27 =>
 k_12 s27 h14) h14 fun s27b h15 =>
 guardM (asG s21 false) false (fun k_13 => pop P (lenS 33 3 s27b) fun s28 =>
 k_13 s28 h15) h15 fun s28b h16 =>
 guardM (asG s21 false) false (fun k_14 => pop P (binA .gtr 3 s28b (.int .i64 0)) fun s29 =>
 k_14 s29 h16) h16 fun s29b h17 =>
 pop P (pickS s21 (Value.bool true) s29b) fun s30 =>
 condM s30
 (K (Value.bool false) h17)
 (pop P (Instr.fieldAt 28 s5_1 0) fun s31 =>
 rop P (Instr.loadAt 24 s31) h17 fun s32 =>
 pop P (lenS 24 3 s32) fun s33 =>
 ∃ (I1 : List Value -> Heap -> Prop) (μ_1 : List Value -> Heap -> Nat), I1 [(.int .i64 0)] h17 /\
 ∀ (junk1 : Nat -> Value) (s34 : Value) (h18 : Heap), I1 [s34] h18 ->
 pop P (binA .lss 3 s34 s33) fun s35 =>
 condM s35
 (pop P (Instr.indexAt 24 s32 s34) fun s37 =>
 rop P (Instr.loadAt 33 s37) h18 fun s38 =>
 pop P (lenS 33 3 s38) fun s40 =>
 pop P (binA .gtr 3 s40 (.int .i64 12)) fun s41 =>
 guardM (asG s41 false) false (fun k_15 => k_15 s38 h18) h18 fun s43 h19 =>
 guardM (asG s41 false) false (fun k_16 => pop P (Instr.fieldAt 26 g3_1 0) fun s44 =>
 k_16 s44 h19) h19 fun s44b h20 =>
 guardM (asG s41 false) false (fun k_17 => rop P (Instr.loadAt 24 s44b) h20 fun s45 =>
 k_17 s45 h20) h20 fun s45b h21 =>
 guardM (asG s41 false) false (fun k_18 => k_18 s34 h21) h21 fun s46 h22 =>
 guardM (asG s41 false) false (fun k_19 => pop P (Instr.indexAt 24 s45b s46) fun s47 =>
 k_19 s47 h22) h22 fun s47b h23 =>
 guardM (asG s41 false) false (fun k_20 => rop P (Instr.loadAt 33 s47b) h23 fun s48 =>
 k_20 s48 h23) h23 fun s48b h24 =>
 guardM (asG s41 false) false (fun k_21 => pop P (lenS 33 3 s48b) fun s49 =>
 k_21 s49 h24) h24 fun s49b h25 =>
 guardM (asG s41 false) false (fun k_22 => pop P (binA .sub 3 s49b (.int .i64 1)) fun s50 =>
 k_22 s50 h25) h25 fun s50b h26 =>
 guardM (asG s41 false) false (fun k_23 => callM P 79 #[s43, (.int .i64 0), s50b] h26 fun s51 h27 =>
 k_23 s51 h27) h26 fun s51b h28 =>
 guardM (asG s41 false) false (fun k_24 => pop P (Op.unary .not s51b) fun s52 =>
 k_24 s52 h28) h28 fun s52b h29 =>
 pop P (pickS s41 (Value.bool true) s52b) fun s53 =>
 condM s53
 (K (Value.bool false) h29)
 (pop P (binA .add 3 s34 (.int .i64 1)) fun s54 =>
 I1 [s54] h29 /\ μ_1 [s54] h29 < μ_1 [s34] h18))
 (K (Value.bool true) h18))
theorem e52 (g0_1 : Value) (sink1_1 : Value) (s2_1 : Value) (h : Heap) (K : Value -> Heap -> Prop) : wpA Tryz.prog 55 (anOf [(58, [34])]) (bodyOf Tryz.f52) 1 (fun A h => resA Tryz.prog A h K [.tmp 6]) (fun _ _ _ => False) (fun A h => resA Tryz.prog A h K [.tmp 6]) (aargs [g0_1, sink1_1, s2_1] 0) h = t52 Tryz.prog g0_1 sink1_1 s2_1 h K := by kernel_rfl
theorem c52 (g0_1 : Value) (sink1_1 : Value) (s2_1 : Value) (h : Heap) (K : Value -> Heap -> Prop) (H : t52 Tryz.prog g0_1 sink1_1 s2_1 h K) : callM Tryz.prog 52 #[g0_1, sink1_1, s2_1] h K :=
  callM_of_wpA mixed (fn := Tryz.f52) Tryz.func52 (c := bodyOf Tryz.f52) rfl (of_decide_eq_true (by kernel_rfl)) (anOf [(58, [34])]) 52 55 (by kernel_rfl) rfl [.tmp 6] (by kernel_rfl) (args := [g0_1, sink1_1, s2_1]) (by rw [e52]; exact H)
def t53 (P : Program) (g0_1 : Value) (s1_1 : Value) (h : Heap) (K : Value -> Heap -> Prop) : Prop :=
 eop P (Instr.box 26 g0_1) h fun g2_1 h1 =>
 eop P (Instr.box 28 s1_1) h1 fun s3_1 h2 =>
 pop P (Instr.fieldAt 26 g2_1 0) fun s8 =>
 rop P (Instr.loadAt 24 s8) h2 fun s9 =>
 pop P (lenS 24 3 s9) fun s10 =>
 ∃ (I1 : List Value -> Heap -> Prop) (μ_1 : List Value -> Heap -> Nat), I1 [(Value.slice none 0 0), (.int .i64 0)] h2 /\
 ∀ (junk1 : Nat -> Value) (out5_1 : Value) (s11 : Value) (h3 : Heap), I1 [out5_1, s11] h3 ->
 pop P (binA .lss 3 s11 s10) fun s12 =>
 condM s12
 (rop P (Instr.loadAt 26 g2_1) h3 fun s14 =>
 rop P (Instr.loadAt 28 s3_1) h3 fun s15 =>
 callM P 65 #[s14, s15, s11] h3 fun s17 h4 =>
 pop P (lenS 33 3 s17) fun s19 =>
 pop P (binA .gtr 3 s19 (.int .i64 0)) fun s20 =>
 guardM (asG s20 true) true (fun k_1 => k_1 s17 h4) h4 fun s22 h5 =>
 guardM (asG s20 true) true (fun k_2 => pop P (Instr.indexAt 33 s22 (.int .i64 0)) fun s23 =>
 k_2 s23 h5) h5 fun s23b h6 =>
 guardM (asG s20 true) true (fun k_3 => rop P (Instr.loadAt 3 s23b) h6 fun s24 =>
 k_3 s24 h6) h6 fun s24b h7 =>
 guardM (asG s20 true) true (fun k_4 => k_4 s11 h7) h7 fun s25 h8 =>
 guardM (asG s20 true) true (fun k_5 => pop P (binE .eql 3 (.tmp 24) (.tmp 25) s24b s25) fun s26 =>
 k_5 s26 h8) h8 fun s26b h9 =>
 pop P (pickS s20 s26b (Value.bool false)) fun s27 =>
 condM s27
 (eop P (Instr.buildSlice 24 1 #[(0, s17)]) h9 fun s30 h10 =>
 eop P (appS 24 24 24 out5_1 s30) h10 fun s31 h11 =>
 pop P (binA .add 3 s11 (.int .i64 1)) fun s32 =>
 I1 [s31, s32] h11 /\ μ_1 [s31, s32] h11 < μ_1 [out5_1, s11] h3)
 (pop P (binA .add 3 s11 (.int .i64 1)) fun s32b =>
 I1 [out5_1, s32b] h9 /\ μ_1 [out5_1, s32b] h9 < μ_1 [out5_1, s11] h3))
 (K out5_1 h3)
theorem e53 (g0_1 : Value) (s1_1 : Value) (h : Heap) (K : Value -> Heap -> Prop) : wpA Tryz.prog 34 (anOf [(58, [5, 11])]) (bodyOf Tryz.f53) 1 (fun A h => resA Tryz.prog A h K [.tmp 4]) (fun _ _ _ => False) (fun A h => resA Tryz.prog A h K [.tmp 4]) (aargs [g0_1, s1_1] 0) h = t53 Tryz.prog g0_1 s1_1 h K := by kernel_rfl
theorem c53 (g0_1 : Value) (s1_1 : Value) (h : Heap) (K : Value -> Heap -> Prop) (H : t53 Tryz.prog g0_1 s1_1 h K) : callM Tryz.prog 53 #[g0_1, s1_1] h K :=
  callM_of_wpA mixed (fn := Tryz.f53) Tryz.func53 (c := bodyOf Tryz.f53) rfl (of_decide_eq_true (by kernel_rfl)) (anOf [(58, [5, 11])]) 32 34 (by kernel_rfl) rfl [.tmp 4] (by kernel_rfl) (args := [g0_1, s1_1]) (by rw [e53]; exact H)
def t54 (P : Program) (g0_1 : Value) (places1_1 : Value) (h : Heap) (K : Value -> Heap -> Prop) : Prop :=
 eop P (Instr.box 26 g0_1) h fun g2_1 h1 =>
 rop P (Instr.loadAt 26 g2_1) h1 fun s5 =>
 callM P 94 #[s5] h1 fun s6 h2 =>
 guardM (asG s6 true) true (fun k_1 => k_1 places1_1 h2) h2 fun s8 h3 =>
 guardM (asG s6 true) true (fun k_2 => pop P (Instr.makeFunc (Fn.func 112) #[] #[g2_1]) fun s9 =>
 k_2 s9 h3) h3 fun s9b h4 =>
 guardM (asG s6 true) true (fun k_3 => callM P 75 #[s8, s9b] h4 fun s10 h5 =>
 k_3 s10 h5) h4 fun s10b h6 =>
 guardM (asG s6 true) true (fun k_4 => pop P (Op.unary .not s10b) fun s11 =>
 k_4 s11 h6) h6 fun s11b h7 =>
 pop P (pickS s6 s11b (Value.bool false)) fun s12 =>
 K s12 h7
theorem e54 (g0_1 : Value) (places1_1 : Value) (h : Heap) (K : Value -> Heap -> Prop) : wpA Tryz.prog 13 (anOf []) (bodyOf Tryz.f54) 1 (fun A h => resA Tryz.prog A h K [.tmp 4]) (fun _ _ _ => False) (fun A h => resA Tryz.prog A h K [.tmp 4]) (aargs [g0_1, places1_1] 0) h = t54 Tryz.prog g0_1 places1_1 h K := by kernel_rfl
theorem c54 (g0_1 : Value) (places1_1 : Value) (h : Heap) (K : Value -> Heap -> Prop) (H : t54 Tryz.prog g0_1 places1_1 h K) : callM Tryz.prog 54 #[g0_1, places1_1] h K :=
  callM_of_wpA mixed (fn := Tryz.f54) Tryz.func54 (c := bodyOf Tryz.f54) rfl (of_decide_eq_true (by kernel_rfl)) (anOf []) 11 13 (by kernel_rfl) rfl [.tmp 4] (by kernel_rfl) (args := [g0_1, places1_1]) (by rw [e54]; exact H)
def t55 (P : Program) (g0_1 : Value) (p1_1 : Value) (h : Heap) (K : Value -> Heap -> Prop) : Prop :=
 eop P (Instr.box 26 g0_1) h fun g2_1 h1 =>
 rop P (Instr.loadAt 26 g2_1) h1 fun s5 =>
 callM P 82 #[s5] h1 fun s6 h2 =>
 guardM (asG s6 true) true (fun k_1 => k_1 p1_1 h2) h2 fun s8 h3 =>
 guardM (asG s6 true) true (fun k_2 => pop P (Instr.fieldAt 26 g2_1 0) fun s9 =>
 k_2 s9 h3) h3 fun s9b h4 =>
 guardM (asG s6 true) true (fun k_3 => rop P (Instr.loadAt 24 s9b) h4 fun s10 =>
 k_3 s10 h4) h4 fun s10b h5 =>
 guardM (asG s6 true) true (fun k_4 => pop P (lenS 24 3 s10b) fun s11 =>
 k_4 s11 h5) h5 fun s11b h6 =>
 guardM (asG s6 true) true (fun k_5 => pop P (binA .sub 3 s11b (.int .i64 1)) fun s12 =>
 k_5 s12 h6) h6 fun s12b h7 =>
 guardM (asG s6 true) true (fun k_6 => callM P 74 #[s8, (.int .i64 0), s12b] h7 fun s13 h8 =>
 k_6 s13 h8) h7 fun s13b h9 =>
 pop P (pickS s6 s13b (Value.bool false)) fun s14 =>
 K s14 h9
theorem e55 (g0_1 : Value) (p1_1 : Value) (h : Heap) (K : Value -> Heap -> Prop) : wpA Tryz.prog 15 (anOf []) (bodyOf Tryz.f55) 1 (fun A h => resA Tryz.prog A h K [.tmp 4]) (fun _ _ _ => False) (fun A h => resA Tryz.prog A h K [.tmp 4]) (aargs [g0_1, p1_1] 0) h = t55 Tryz.prog g0_1 p1_1 h K := by kernel_rfl
theorem c55 (g0_1 : Value) (p1_1 : Value) (h : Heap) (K : Value -> Heap -> Prop) (H : t55 Tryz.prog g0_1 p1_1 h K) : callM Tryz.prog 55 #[g0_1, p1_1] h K :=
  callM_of_wpA mixed (fn := Tryz.f55) Tryz.func55 (c := bodyOf Tryz.f55) rfl (of_decide_eq_true (by kernel_rfl)) (anOf []) 13 15 (by kernel_rfl) rfl [.tmp 4] (by kernel_rfl) (args := [g0_1, p1_1]) (by rw [e55]; exact H)
def t56 (P : Program) (s0_1 : Value) (sink1_1 : Value) (h : Heap) (K : Value -> Heap -> Prop) : Prop :=
 eop P (Instr.box 28 s0_1) h fun s2_1 h1 =>
 eop P (Instr.buildSlice 33 0 #[]) h1 fun s9 h2 =>
 pop P (Instr.fieldAt 28 s2_1 0) fun s10 =>
 rop P (Instr.loadAt 24 s10) h2 fun s11 =>
 pop P (lenS 24 3 s11) fun s12 =>
 ∃ (I1 : List Value -> Heap -> Prop) (μ_1 : List Value -> Heap -> Nat), I1 [s9, (.int .i64 0)] h2 /\
 ∀ (junk1 : Nat -> Value) (out6_1 : Value) (s13 : Value) (h3 : Heap), I1 [out6_1, s13] h3 ->
 pop P (binA .lss 3 s13 s12) fun s14 =>
 condM s14
 (pop P (Instr.indexAt 24 s11 s13) fun s16 =>
 rop P (Instr.loadAt 33 s16) h3 fun s17 =>
 pop P (binE .eql 3 (.tmp 25) (.tmp 26) s13 sink1_1) fun s27 =>
 condM s27
 (eop P (Instr.buildSlice 33 1 #[(0, (.int .i64 0))]) h3 fun s29 h4 =>
 eop P (appS 33 33 33 out6_1 s29) h4 fun s30 h5 =>
 pop P (binA .add 3 s13 (.int .i64 1)) fun s35 =>
 I1 [s30, s35] h5 /\ μ_1 [s30, s35] h5 < μ_1 [out6_1, s13] h3)
 (pop P (lenS 33 3 s17) fun s33 =>
 pop P (binE .eql 3 (.tmp 33) (.const (.int .i64 0)) s33 (.int .i64 0)) fun s34 =>
 condM s34
 (K (.tuple #[(Value.slice none 0 0), (Value.bool false)]) h3)
 (pop P (Instr.indexAt 33 s17 (.int .i64 0)) fun s20 =>
 rop P (Instr.loadAt 3 s20) h3 fun s21 =>
 eop P (Instr.buildSlice 33 1 #[(0, s21)]) h3 fun s22 h6 =>
 eop P (appS 33 33 33 out6_1 s22) h6 fun s23 h7 =>
 pop P (binA .add 3 s13 (.int .i64 1)) fun s35b =>
 I1 [s23, s35b] h7 /\ μ_1 [s23, s35b] h7 < μ_1 [out6_1, s13] h3)))
 (K (.tuple #[out6_1, (Value.bool true)]) h3)
theorem e56 (s0_1 : Value) (sink1_1 : Value) (h : Heap) (K : Value -> Heap -> Prop) : wpA Tryz.prog 37 (anOf [(58, [6, 13])]) (bodyOf Tryz.f56) 1 (fun A h => resA Tryz.prog A h K [.tmp 4, .tmp 5]) (fun _ _ _ => False) (fun A h => resA Tryz.prog A h K [.tmp 4, .tmp 5]) (aargs [s0_1, sink1_1] 0) h = t56 Tryz.prog s0_1 sink1_1 h K := by kernel_rfl
theorem c56 (s0_1 : Value) (sink1_1 : Value) (h : Heap) (K : Value -> Heap -> Prop) (H : t56 Tryz.prog s0_1 sink1_1 h K) : callM Tryz.prog 56 #[s0_1, sink1_1] h K :=
  callM_of_wpA mixed (fn := Tryz.f56) Tryz.func56 (c := bodyOf Tryz.f56) rfl (of_decide_eq_true (by kernel_rfl)) (anOf [(58, [6, 13])]) 35 37 (by kernel_rfl) rfl [.tmp 4, .tmp 5] (by kernel_rfl) (args := [s0_1, sink1_1]) (by rw [e56]; exact H)
def t57 (P : Program) (g0_1 : Value) (sink1_1 : Value) (s2_1 : Value) (h : Heap) (K : Value -> Heap -> Prop) : Prop :=
 eop P (Instr.box 26 g0_1) h fun g3_1 h1 =>
 eop P (Instr.box 28 s2_1) h1 fun s5_1 h2 =>
 pop P (Instr.fieldAt 26 g3_1 0) fun s11 =>
 rop P (Instr.loadAt 24 s11) h2 fun s12 =>
 pop P (lenS 24 3 s12) fun s13 =>
 eop P (Instr.makeSlice 33 s13 s13) h2 fun s14 h3 =>
 pop P (Instr.fieldAt 28 s5_1 0) fun s15 =>
 rop P (Instr.loadAt 24 s15) h3 fun s16 =>
 pop P (lenS 24 3 s16) fun s17 =>
 ∃ (I1 : List Value -> Heap -> Prop) (μ_1 : List Value -> Heap -> Nat), I1 [(.int .i64 0)] h3 /\
 ∀ (junk1 : Nat -> Value) (s18 : Value) (h4 : Heap), I1 [s18] h4 ->
 pop P (binA .lss 3 s18 s17) fun s19 =>
 condM s19
 (pop P (Instr.indexAt 24 s16 s18) fun s21 =>
 rop P (Instr.loadAt 33 s21) h4 fun s22 =>
 pop P (binE .eql 3 (.tmp 23) (.tmp 24) s18 sink1_1) fun s25 =>
 condM s25
 (pop P (binA .add 3 s18 (.int .i64 1)) fun s35 =>
 I1 [s35] h4 /\ μ_1 [s35] h4 < μ_1 [s18] h4)
 (pop P (lenS 33 3 s22) fun s27 =>
 pop P (binE .eql 3 (.tmp 27) (.const (.int .i64 0)) s27 (.int .i64 0)) fun s28 =>
 condM s28
 (K (.tuple #[(Value.slice none 0 0), (Value.bool false)]) h4)
 (pop P (Instr.indexAt 33 s22 (.int .i64 0)) fun s32 =>
 rop P (Instr.loadAt 3 s32) h4 fun s33 =>
 pop P (Instr.indexAt 33 s14 s18) fun s34 =>
 uop P (Instr.storeAt 3 s34 s33) h4 fun q1 h5 =>
 pop P (binA .add 3 s18 (.int .i64 1)) fun s35b =>
 I1 [s35b] h5 /\ μ_1 [s35b] h5 < μ_1 [s18] h4)))
 (K (.tuple #[s14, (Value.bool true)]) h4)
theorem e57 (g0_1 : Value) (sink1_1 : Value) (s2_1 : Value) (h : Heap) (K : Value -> Heap -> Prop) : wpA Tryz.prog 37 (anOf [(58, [18])]) (bodyOf Tryz.f57) 1 (fun A h => resA Tryz.prog A h K [.tmp 6, .tmp 7]) (fun _ _ _ => False) (fun A h => resA Tryz.prog A h K [.tmp 6, .tmp 7]) (aargs [g0_1, sink1_1, s2_1] 0) h = t57 Tryz.prog g0_1 sink1_1 s2_1 h K := by kernel_rfl
theorem c57 (g0_1 : Value) (sink1_1 : Value) (s2_1 : Value) (h : Heap) (K : Value -> Heap -> Prop) (H : t57 Tryz.prog g0_1 sink1_1 s2_1 h K) : callM Tryz.prog 57 #[g0_1, sink1_1, s2_1] h K :=
  callM_of_wpA mixed (fn := Tryz.f57) Tryz.func57 (c := bodyOf Tryz.f57) rfl (of_decide_eq_true (by kernel_rfl)) (anOf [(58, [18])]) 34 37 (by kernel_rfl) rfl [.tmp 6, .tmp 7] (by kernel_rfl) (args := [g0_1, sink1_1, s2_1]) (by rw [e57]; exact H)
def t58 (P : Program) (g0_1 : Value) (sink1_1 : Value) (rotors2_1 : Value) (h : Heap) (K : Value -> Heap -> Prop) : Prop :=
 eop P (Instr.box 26 g0_1) h fun g3_1 h1 =>
 rop P (Instr.loadAt 26 g3_1) h1 fun s7 =>
 eop P (Instr.buildSlice 33 1 #[(0, sink1_1)]) h1 fun s9 h2 =>
 callM P 54 #[s7, s9] h2 fun s10 h3 =>
 guardM (asG s10 true) true (fun k_1 => rop P (Instr.loadAt 26 g3_1) h3 fun s12 =>
 k_1 s12 h3) h3 fun s12b h4 =>
 guardM (asG s10 true) true (fun k_2 => k_2 rotors2_1 h4) h4 fun s13 h5 =>
 guardM (asG s10 true) true (fun k_3 => callM P 71 #[s12b, s13] h5 fun s14 h6 =>
 k_3 s14 h6) h5 fun s14b h7 =>
 pop P (pickS s10 s14b (Value.bool false)) fun s15 =>
 guardM (asG s15 true) true (fun k_4 => k_4 rotors2_1 h7) h7 fun s17 h8 =>
 guardM (asG s15 true) true (fun k_5 => k_5 sink1_1 h8) h8 fun s18 h9 =>
 guardM (asG s15 true) true (fun k_6 => pop P (Instr.indexAt 33 s17 s18) fun s19 =>
 k_6 s19 h9) h9 fun s19b h10 =>
 guardM (asG s15 true) true (fun k_7 => rop P (Instr.loadAt 3 s19b) h10 fun s20 =>
 k_7 s20 h10) h10 fun s20b h11 =>
 guardM (asG s15 true) true (fun k_8 => pop P (binE .eql 3 (.tmp 20) (.const (.int .i64 0)) s20b (.int .i64 0)) fun s21 =>
 k_8 s21 h11) h11 fun s21b h12 =>
 pop P (pickS s15 s21b (Value.bool false)) fun s22 =>
 K s22 h12
theorem e58 (g0_1 : Value) (sink1_1 : Value) (rotors2_1 : Value) (h : Heap) (K : Value -> Heap -> Prop) : wpA Tryz.prog 23 (anOf []) (bodyOf Tryz.f58) 1 (fun A h => resA Tryz.prog A h K [.tmp 6]) (fun _ _ _ => False) (fun A h => resA Tryz.prog A h K [.tmp 6]) (aargs [g0_1, sink1_1, rotors2_1] 0) h = t58 Tryz.prog g0_1 sink1_1 rotors2_1 h K := by kernel_rfl
theorem c58 (g0_1 : Value) (sink1_1 : Value) (rotors2_1 : Value) (h : Heap) (K : Value -> Heap -> Prop) (H : t58 Tryz.prog g0_1 sink1_1 rotors2_1 h K) : callM Tryz.prog 58 #[g0_1, sink1_1, rotors2_1] h K :=
  callM_of_wpA mixed (fn := Tryz.f58) Tryz.func58 (c := bodyOf Tryz.f58) rfl (of_decide_eq_true (by kernel_rfl)) (anOf []) 20 23 (by kernel_rfl) rfl [.tmp 6] (by kernel_rfl) (args := [g0_1, sink1_1, rotors2_1]) (by rw [e58]; exact H)
def t59 (P : Program) (g0_1 : Value) (sink1_1 : Value) (rotors2_1 : Value) (h : Heap) (K : Value -> Heap -> Prop) : Prop :=
 eop P (Instr.box 26 g0_1) h fun g3_1 h1 =>
 rop P (Instr.loadAt 26 g3_1) h1 fun s10 =>
 callM P 113 #[s10, sink1_1, rotors2_1] h1 fun s13 h2 =>
 pop P (Instr.extract s13 0) fun s14 =>
 pop P (Instr.extract s13 1) fun s15 =>
 K s15 h2
theorem e59 (g0_1 : Value) (sink1_1 : Value) (rotors2_1 : Value) (h : Heap) (K : Value -> Heap -> Prop) : wpA Tryz.prog 17 (anOf []) (bodyOf Tryz.f59) 1 (fun A h => resA Tryz.prog A h K [.tmp 6]) (fun _ _ _ => False) (fun A h => resA Tryz.prog A h K [.tmp 6]) (aargs [g0_1, sink1_1, rotors2_1] 0) h = t59 Tryz.prog g0_1 sink1_1 rotors2_1 h K := by kernel_rfl
theorem c59 (g0_1 : Value) (sink1_1 : Value) (rotors2_1 : Value) (h : Heap) (K : Value -> Heap -> Prop) (H : t59 Tryz.prog g0_1 sink1_1 rotors2_1 h K) : callM Tryz.prog 59 #[g0_1, sink1_1, rotors2_1] h K :=
  callM_of_wpA mixed (fn := Tryz.f59) Tryz.func59 (c := bodyOf Tryz.f59) rfl (of_decide_eq_true (by kernel_rfl)) (anOf []) 14 17 (by kernel_rfl) rfl [.tmp 6] (by kernel_rfl) (args := [g0_1, sink1_1, rotors2_1]) (by rw [e59]; exact H)
def t60 (P : Program) (c0_1 : Value) (h : Heap) (K : Value -> Heap -> Prop) : Prop :=
 eop P (Instr.alloc 26 true (.tuple #[])) h fun s2 h1 =>
 eop P (Instr.alloc 28 true (.tuple #[])) h1 fun s4 h2 =>
 callM P 114 #[c0_1] h2 fun s16 h3 =>
 pop P (Instr.extract s16 0) fun s17 =>
 pop P (Instr.extract s16 1) fun s18 =>
 eop P (Instr.alloc 26 true (.tuple #[])) h3 fun g5_1 h4 =>
 uop P (Instr.storeAt 26 g5_1 s17) h4 fun q1 h5 =>
 pop P (Instr.build 28 #[]) fun s19 =>
 eop P (Instr.alloc 28 true (.tuple #[])) h5 fun s7_1 h6 =>
 uop P (Instr.storeAt 28 s7_1 s19) h6 fun q2 h7 =>
 rop P (Instr.loadAt 26 g5_1) h7 fun s20 =>
 callM P 55 #[s20, s18] h7 fun s22 h8 =>
 pop P (Op.unary .not s22) fun s23 =>
 condM s23
 (rop P (Instr.loadAt 26 g5_1) h8 fun s24 =>
 rop P (Instr.loadAt 28 s7_1) h8 fun s26 =>
 uop P (Instr.storeAt 26 s2 s24) h8 fun q3 h9 =>
 (∀ w : World, w.heap = h9 -> (Instr.loadAt 28 s7_1).run P w = .ok s26 w) /\
 uop P (Instr.storeAt 28 s4 s26) h9 fun q4 h10 =>
 rop P (Instr.loadAt 26 s2) h10 fun r_1 =>
 rop P (Instr.loadAt 28 s4) h10 fun r_2 =>
 K (.tuple #[r_1, s18, r_2]) h10)
 (pop P (Instr.fieldAt 26 g5_1 0) fun s27 =>
 rop P (Instr.loadAt 24 s27) h8 fun s28 =>
 pop P (lenS 24 3 s28) fun s29 =>
 ∃ (I1 : List Value -> Heap -> Prop) (μ_1 : List Value -> Heap -> Nat), I1 [(.int .i64 0)] h8 /\
 ∀ (junk1 : Nat -> Value) (s30 : Value) (h11 : Heap), I1 [s30] h11 ->
 pop P (binA .lss 3 s30 s29) fun s31 =>
 condM s31
 (pop P (Instr.indexAt 24 s28 s30) fun s33 =>
 rop P (Instr.loadAt 33 s33) h11 fun s34 =>
 callM P 70 #[c0_1, (.int .i64 9)] h11 fun s36 h12 =>
 pop P (binA .add 3 (.int .i64 3) s36) fun s37 =>
 ∃ (I2 : List Value -> Heap -> Prop) (μ_2 : List Value -> Heap -> Nat), I2 [(Value.slice none 0 0), s37] h12 /\
 ∀ (junk2 : Nat -> Value) (list10_1 : Value) (k11_1 : Value) (h13 : Heap), I2 [list10_1, k11_1] h13 ->
 pop P (binA .gtr 3 k11_1 (.int .i64 0)) fun s39 =>
 guardM (asG s39 true) true (fun k_1 => k_1 s30 h13) h13 fun s41 h14 =>
 guardM (asG s39 true) true (fun k_2 => k_2 s18 h14) h14 fun s42 h15 =>
 guardM (asG s39 true) true (fun k_3 => pop P (binE .neq 3 (.tmp 41) (.tmp 42) s41 s42) fun s43 =>
 k_3 s43 h15) h15 fun s43b h16 =>
 pop P (pickS s39 s43b (Value.bool false)) fun s44 =>
 guardM (asG s44 true) true (fun k_4 => k_4 s34 h16) h16 fun s46 h17 =>
 guardM (asG s44 true) true (fun k_5 => pop P (lenS 33 3 s46) fun s47 =>
 k_5 s47 h17) h17 fun s47b h18 =>
 guardM (asG s44 true) true (fun k_6 => pop P (binA .gtr 3 s47b (.int .i64 0)) fun s48 =>
 k_6 s48 h18) h18 fun s48b h19 =>
 pop P (pickS s44 s48b (Value.bool false)) fun s49 =>
 condM s49
 (pop P (lenS 33 3 s34) fun s55 =>
 callM P 70 #[c0_1, s55] h19 fun s56 h20 =>
 eop P (Instr.buildSlice 33 1 #[(0, s56)]) h20 fun s57 h21 =>
 eop P (appS 33 33 33 list10_1 s57) h21 fun s58 h22 =>
 pop P (binA .sub 3 k11_1 (.int .i64 1)) fun s51 =>
 I2 [s58, s51] h22 /\ μ_2 [s58, s51] h22 < μ_2 [list10_1, k11_1] h13)
 (pop P (Instr.fieldAt 28 s7_1 0) fun s59 =>
 rop P (Instr.loadAt 24 s59) h19 fun s60 =>
 eop P (Instr.buildSlice 24 1 #[(0, list10_1)]) h19 fun s62 h23 =>
 eop P (appS 24 24 24 s60 s62) h23 fun s63 h24 =>
 pop P (Instr.fieldAt 28 s7_1 0) fun s64 =>
 uop P (Instr.storeAt 24 s64 s63) h24 fun q5 h25 =>
 pop P (binA .add 3 s30 (.int .i64 1)) fun s65 =>
 I1 [s65] h25 /\ μ_1 [s65] h25 < μ_1 [s30] h11))
 (∃ J1 : List Value -> Heap -> Prop, (callM P 70 #[c0_1, (.int .i64 16)] h11 fun s67 h26 =>
 pop P (binE .eql 3 (.tmp 67) (.const (.int .i64 0)) s67 (.int .i64 0)) fun s69 =>
 condM s69
 (pop P (Instr.fieldAt 28 s7_1 0) fun s70 =>
 rop P (Instr.loadAt 24 s70) h26 fun s71 =>
 eop P (Instr.buildSlice 33 1 #[(0, (.int .i64 0))]) h26 fun s73 h27 =>
 pop P (Instr.indexAt 24 s71 s18) fun s74 =>
 uop P (Instr.storeAt 33 s74 s73) h27 fun q6 h28 =>
 J1 [] h28)
 (pop P (binE .eql 3 (.tmp 67) (.const (.int .i64 1)) s67 (.int .i64 1)) fun s76 =>
 condM s76
 (pop P (Instr.fieldAt 28 s7_1 0) fun s78 =>
 rop P (Instr.loadAt 24 s78) h26 fun s79 =>
 pop P (lenS 24 3 s79) fun s80 =>
 callM P 70 #[c0_1, s80] h26 fun s81 h29 =>
 pop P (Instr.fieldAt 28 s7_1 0) fun s82 =>
 rop P (Instr.loadAt 24 s82) h29 fun s83 =>
 pop P (Instr.fieldAt 28 s7_1 0) fun s85 =>
 rop P (Instr.loadAt 24 s85) h29 fun s86 =>
 pop P (Instr.indexAt 24 s86 s81) fun s88 =>
 rop P (Instr.loadAt 33 s88) h29 fun s89 =>
 eop P (Instr.buildSlice 33 3 #[(0, (.int .i64 (-1))), (1, (.int .i64 4)), (2, (.int .i64 5))]) h29 fun s91 h30 =>
 (∀ w : World, w.heap = h30 -> (Instr.loadAt 33 s88).run P w = .ok s89 w) /\
 (∀ w : World, w.heap = h30 -> (Instr.loadAt 24 s85).run P w = .ok s86 w) /\
 (∀ w : World, w.heap = h30 -> (Instr.loadAt 24 s82).run P w = .ok s83 w) /\
 callM P 69 #[c0_1, s91] h30 fun s92 h31 =>
 (∀ w : World, w.heap = h31 -> (Instr.loadAt 33 s88).run P w = .ok s89 w) /\
 (∀ w : World, w.heap = h31 -> (Instr.loadAt 24 s85).run P w = .ok s86 w) /\
 (∀ w : World, w.heap = h31 -> (Instr.loadAt 24 s82).run P w = .ok s83 w) /\
 eop P (Instr.buildSlice 33 1 #[(0, s92)]) h31 fun s93 h32 =>
 (∀ w : World, w.heap = h32 -> (Instr.loadAt 33 s88).run P w = .ok s89 w) /\
 (∀ w : World, w.heap = h32 -> (Instr.loadAt 24 s85).run P w = .ok s86 w) /\
 (∀ w : World, w.heap = h32 -> (Instr.loadAt 24 s82).run P w = .ok s83 w) /\
 eop P (appS 33 33 33 s89 s93) h32 fun s94 h33 =>
 (∀ w : World, w.heap = h33 -> (Instr.loadAt 24 s85).run P w = .ok s86 w) /\
 (∀ w : World, w.heap = h33 -> (Instr.loadAt 24 s82).run P w = .ok s83 w) /\
 pop P (Instr.indexAt 24 s83 s81) fun s95 =>
 uop P (Instr.storeAt 33 s95 s94) h33 fun q7 h34 =>
 J1 [] h34)
 (pop P (binE .eql 3 (.tmp 67) (.const (.int .i64 2)) s67 (.int .i64 2)) fun s97 =>
 condM s97
 (pop P (Instr.fieldAt 28 s7_1 0) fun s99 =>
 rop P (Instr.loadAt 24 s99) h26 fun s100 =>
 pop P (lenS 24 3 s100) fun s101 =>
 callM P 70 #[c0_1, s101] h26 fun s102 h35 =>
 pop P (Instr.fieldAt 28 s7_1 0) fun s103 =>
 rop P (Instr.loadAt 24 s103) h35 fun s104 =>
 callM P 70 #[c0_1, (.int .i64 2)] h35 fun s107 h36 =>
 (∀ w : World, w.heap = h36 -> (Instr.loadAt 24 s103).run P w = .ok s104 w) /\
 pop P (binA .add 3 (.int .i64 12) s107) fun s108 =>
 eop P (Instr.makeSlice 33 s108 s108) h36 fun s109 h37 =>
 (∀ w : World, w.heap = h37 -> (Instr.loadAt 24 s103).run P w = .ok s104 w) /\
 pop P (Instr.indexAt 24 s104 s102) fun s110 =>
 uop P (Instr.storeAt 33 s110 s109) h37 fun q8 h38 =>
 J1 [] h38)
 (pop P (binE .eql 3 (.tmp 67) (.const (.int .i64 3)) s67 (.int .i64 3)) fun s112 =>
 condM s112
 (pop P (Instr.fieldAt 28 s7_1 0) fun s113 =>
 rop P (Instr.loadAt 24 s113) h26 fun s114 =>
 pop P (Instr.sliceAt 24 s114 (some (.int .i64 1)) none none) fun s115 =>
 pop P (Instr.fieldAt 28 s7_1 0) fun s116 =>
 uop P (Instr.storeAt 24 s116 s115) h26 fun q9 h39 =>
 J1 [] h39)
 (J1 [] h26))))) /\
 ∀ (junk3 : Nat -> Value) (h40 : Heap), J1 [] h40 ->
 rop P (Instr.loadAt 26 g5_1) h40 fun s117 =>
 rop P (Instr.loadAt 28 s7_1) h40 fun s119 =>
 uop P (Instr.storeAt 26 s2 s117) h40 fun q10 h41 =>
 (∀ w : World, w.heap = h41 -> (Instr.loadAt 28 s7_1).run P w = .ok s119 w) /\
 uop P (Instr.storeAt 28 s4 s119) h41 fun q11 h42 =>
 rop P (Instr.loadAt 26 s2) h42 fun r_3 =>
 rop P (Instr.loadAt 28 s4) h42 fun r_4 =>
 K (.tuple #[r_3, s18, r_4]) h42))
theorem e60 (c0_1 : Value) (h : Heap) (K : Value -> Heap -> Prop) : wpA Tryz.prog 120 (anOf [(63, []), (250, [30]), (256410, [10, 11])]) (bodyOf Tryz.f60) 1 (fun A h => resA Tryz.prog A h K [.cell 2 26, .tmp 3, .cell 4 28]) (fun _ _ _ => False) (fun A h => resA Tryz.prog A h K [.cell 2 26, .tmp 3, .cell 4 28]) (aargs [c0_1] 0) h = t60 Tryz.prog c0_1 h K := by kernel_rfl
theorem c60 (c0_1 : Value) (h : Heap) (K : Value -> Heap -> Prop) (H : t60 Tryz.prog c0_1 h K) : callM Tryz.prog 60 #[c0_1] h K :=
  callM_of_wpA mixed (fn := Tryz.f60) Tryz.func60 (c := bodyOf Tryz.f60) rfl (of_decide_eq_true (by kernel_rfl)) (anOf [(63, []), (250, [30]), (256410, [10, 11])]) 119 120 (by kernel_rfl) rfl [.cell 2 26, .tmp 3, .cell 4 28] (by kernel_rfl) (args := [c0_1]) (by rw [e60]; exact H)
def t61 (P : Program) (c0_1 : Value) (g1_1 : Value) (h : Heap) (K : Value -> Heap -> Prop) : Prop :=
 eop P (Instr.box 26 g1_1) h fun g3_1 h1 =>
 pop P (Instr.fieldAt 26 g3_1 0) fun s5 =>
 rop P (Instr.loadAt 24 s5) h1 fun s6 =>
 pop P (lenS 24 3 s6) fun s7 =>
 pop P (binE .eql 3 (.tmp 7) (.const (.int .i64 0)) s7 (.int .i64 0)) fun s8 =>
 guardM (asG s8 false) false (fun k_1 => k_1 c0_1 h1) h1 fun s10 h2 =>
 guardM (asG s8 false) false (fun k_2 => callM P 68 #[s10, (.int .i64 14)] h2 fun s11 h3 =>
 k_2 s11 h3) h2 fun s11b h4 =>
 pop P (pickS s8 (Value.bool true) s11b) fun s12 =>
 condM s12
 (pop P (Instr.fieldAt 26 g3_1 0) fun s14 =>
 rop P (Instr.loadAt 24 s14) h4 fun s15 =>
 pop P (lenS 24 3 s15) fun s16 =>
 eop P (Instr.buildSlice 33 4 #[(0, (.int .i64 (-1))), (1, (.int .i64 0)), (2, s16), (3, (.int .i64 4611686018427387904))]) h4 fun s17 h5 =>
 callM P 69 #[c0_1, s17] h5 fun s18 h6 =>
 K s18 h6)
 (pop P (Instr.fieldAt 26 g3_1 0) fun s20 =>
 rop P (Instr.loadAt 24 s20) h4 fun s21 =>
 pop P (lenS 24 3 s21) fun s22 =>
 callM P 70 #[c0_1, s22] h4 fun s23 h7 =>
 K s23 h7)
theorem e61 (c0_1 : Value) (g1_1 : Value) (h : Heap) (K : Value -> Heap -> Prop) : wpA Tryz.prog 24 (anOf []) (bodyOf Tryz.f61) 1 (fun A h => resA Tryz.prog A h K [.tmp 4]) (fun _ _ _ => False) (fun A h => resA Tryz.prog A h K [.tmp 4]) (aargs [c0_1, g1_1] 0) h = t61 Tryz.prog c0_1 g1_1 h K := by kernel_rfl
theorem c61 (c0_1 : Value) (g1_1 : Value) (h : Heap) (K : Value -> Heap -> Prop) (H : t61 Tryz.prog c0_1 g1_1 h K) : callM Tryz.prog 61 #[c0_1, g1_1] h K :=
  callM_of_wpA mixed (fn := Tryz.f61) Tryz.func61 (c := bodyOf Tryz.f61) rfl (of_decide_eq_true (by kernel_rfl)) (anOf []) 22 24 (by kernel_rfl) rfl [.tmp 4] (by kernel_rfl) (args := [c0_1, g1_1]) (by rw [e61]; exact H)
def t62 (P : Program) (s0_1 : Value) (g1_1 : Value) (p2_1 : Value) (h : Heap) (K : Value -> Heap -> Prop) : Prop :=
 eop P (Instr.box 28 s0_1) h fun s3_1 h1 =>
 eop P (Instr.box 26 g1_1) h1 fun g4_1 h2 =>
 eop P (Instr.buildSlice 33 0 #[]) h2 fun s10 h3 =>
 ∃ (I1 : List Value -> Heap -> Prop) (μ_1 : List Value -> Heap -> Nat), I1 [s10, p2_1] h3 /\
 ∀ (junk1 : Nat -> Value) (out7_1 : Value) (at8_1 : Value) (h4 : Heap), I1 [out7_1, at8_1] h4 ->
 pop P (Instr.fieldAt 28 s3_1 0) fun s12 =>
 rop P (Instr.loadAt 24 s12) h4 fun s13 =>
 pop P (Instr.indexAt 24 s13 at8_1) fun s15 =>
 rop P (Instr.loadAt 33 s15) h4 fun s16 =>
 pop P (lenS 33 3 s16) fun s17 =>
 pop P (binE .eql 3 (.tmp 17) (.const (.int .i64 0)) s17 (.int .i64 0)) fun s18 =>
 guardM (asG s18 false) false (fun k_1 => k_1 out7_1 h4) h4 fun s20 h5 =>
 guardM (asG s18 false) false (fun k_2 => pop P (lenS 33 3 s20) fun s21 =>
 k_2 s21 h5) h5 fun s21b h6 =>
 guardM (asG s18 false) false (fun k_3 => pop P (Instr.fieldAt 26 g4_1 0) fun s22 =>
 k_3 s22 h6) h6 fun s22b h7 =>
 guardM (asG s18 false) false (fun k_4 => rop P (Instr.loadAt 24 s22b) h7 fun s23 =>
 k_4 s23 h7) h7 fun s23b h8 =>
 guardM (asG s18 false) false (fun k_5 => pop P (lenS 24 3 s23b) fun s24 =>
 k_5 s24 h8) h8 fun s24b h9 =>
 guardM (asG s18 false) false (fun k_6 => pop P (binA .gtr 3 s21b s24b) fun s25 =>
 k_6 s25 h9) h9 fun s25b h10 =>
 pop P (pickS s18 (Value.bool true) s25b) fun s26 =>
 condM s26
 (K (Value.slice none 0 0) h10)
 (eop P (Instr.buildSlice 33 1 #[(0, at8_1)]) h10 fun s29 h11 =>
 eop P (appS 33 33 33 out7_1 s29) h11 fun s30 h12 =>
 pop P (Instr.fieldAt 26 g4_1 0) fun s31 =>
 rop P (Instr.loadAt 24 s31) h12 fun s32 =>
 pop P (Instr.indexAt 24 s32 at8_1) fun s34 =>
 rop P (Instr.loadAt 33 s34) h12 fun s35 =>
 pop P (Instr.fieldAt 28 s3_1 0) fun s36 =>
 rop P (Instr.loadAt 24 s36) h12 fun s37 =>
 pop P (Instr.indexAt 24 s37 at8_1) fun s39 =>
 rop P (Instr.loadAt 33 s39) h12 fun s40 =>
 pop P (Instr.indexAt 33 s40 (.int .i64 0)) fun s41 =>
 rop P (Instr.loadAt 3 s41) h12 fun s42 =>
 pop P (Instr.indexAt 33 s35 s42) fun s43 =>
 rop P (Instr.loadAt 3 s43) h12 fun s44 =>
 pop P (binE .eql 3 (.tmp 45) (.tmp 46) s44 p2_1) fun s47 =>
 condM s47
 (callM P 116 #[s30] h12 fun s50 h13 =>
 callM P 115 #[s30, s50] h13 fun s51 h14 =>
 pop P (Instr.sliceAt 33 s30 (some s51) none none) fun s54 =>
 pop P (Instr.sliceAt 33 s30 none (some s51) none) fun s57 =>
 eop P (Instr.buildSlice 24 2 #[(0, s54), (1, s57)]) h14 fun s58 h15 =>
 callM P 97 #[s58] h15 fun s59 h16 =>
 K s59 h16)
 (I1 [s30, s44] h12 /\ μ_1 [s30, s44] h12 < μ_1 [out7_1, at8_1] h4))
theorem e62 (s0_1 : Value) (g1_1 : Value) (p2_1 : Value) (h : Heap) (K : Value -> Heap -> Prop) : wpA Tryz.prog 60 (anOf [(58, [7, 8])]) (bodyOf Tryz.f62) 1 (fun A h => resA Tryz.prog A h K [.tmp 6]) (fun _ _ _ => False) (fun A h => resA Tryz.prog A h K [.tmp 6]) (aargs [s0_1, g1_1, p2_1] 0) h = t62 Tryz.prog s0_1 g1_1 p2_1 h K := by kernel_rfl
theorem c62 (s0_1 : Value) (g1_1 : Value) (p2_1 : Value) (h : Heap) (K : Value -> Heap -> Prop) (H : t62 Tryz.prog s0_1 g1_1 p2_1 h K) : callM Tryz.prog 62 #[s0_1, g1_1, p2_1] h K :=
  callM_of_wpA mixed (fn := Tryz.f62) Tryz.func62 (c := bodyOf Tryz.f62) rfl (of_decide_eq_true (by kernel_rfl)) (anOf [(58, [7, 8])]) 57 60 (by kernel_rfl) rfl [.tmp 6] (by kernel_rfl) (args := [s0_1, g1_1, p2_1]) (by rw [e62]; exact H)
def t63 (P : Program) (s0_1 : Value) (h : Heap) (K : Value -> Heap -> Prop) : Prop :=
 eop P (Instr.box 28 s0_1) h fun s1_1 h1 =>
 eop P (Instr.alloc 28 true (.tuple #[])) h1 fun s2 h2 =>
 pop P (Instr.build 28 #[]) fun s6 =>
 eop P (Instr.alloc 28 true (.tuple #[])) h2 fun out3_1 h3 =>
 uop P (Instr.storeAt 28 out3_1 s6) h3 fun q1 h4 =>
 pop P (Instr.fieldAt 28 s1_1 0) fun s7 =>
 rop P (Instr.loadAt 24 s7) h4 fun s8 =>
 pop P (lenS 24 3 s8) fun s9 =>
 ∃ (I1 : List Value -> Heap -> Prop) (μ_1 : List Value -> Heap -> Nat), I1 [(.int .i64 0)] h4 /\
 ∀ (junk1 : Nat -> Value) (s10 : Value) (h5 : Heap), I1 [s10] h5 ->
 pop P (binA .lss 3 s10 s9) fun s11 =>
 condM s11
 (pop P (Instr.indexAt 24 s8 s10) fun s12 =>
 rop P (Instr.loadAt 33 s12) h5 fun s13 =>
 pop P (Instr.fieldAt 28 out3_1 0) fun s14 =>
 rop P (Instr.loadAt 24 s14) h5 fun s15 =>
 callM P 117 #[s13] h5 fun s17 h6 =>
 (∀ w : World, w.heap = h6 -> (Instr.loadAt 24 s14).run P w = .ok s15 w) /\
 eop P (Instr.buildSlice 24 1 #[(0, s17)]) h6 fun s18 h7 =>
 (∀ w : World, w.heap = h7 -> (Instr.loadAt 24 s14).run P w = .ok s15 w) /\
 eop P (appS 24 24 24 s15 s18) h7 fun s19 h8 =>
 pop P (Instr.fieldAt 28 out3_1 0) fun s20 =>
 uop P (Instr.storeAt 24 s20 s19) h8 fun q2 h9 =>
 pop P (binA .add 3 s10 (.int .i64 1)) fun s21 =>
 I1 [s21] h9 /\ μ_1 [s21] h9 < μ_1 [s10] h5)
 (rop P (Instr.loadAt 28 out3_1) h5 fun s22 =>
 uop P (Instr.storeAt 28 s2 s22) h5 fun q3 h10 =>
 rop P (Instr.loadAt 28 s2) h10 fun r_1 =>
 K r_1 h10)
theorem e63 (s0_1 : Value) (h : Heap) (K : Value -> Heap -> Prop) : wpA Tryz.prog 23 (anOf [(58, [10])]) (bodyOf Tryz.f63) 1 (fun A h => resA Tryz.prog A h K [.cell 2 28]) (fun _ _ _ => False) (fun A h => resA Tryz.prog A h K [.cell 2 28]) (aargs [s0_1] 0) h = t63 Tryz.prog s0_1 h K := by kernel_rfl
theorem c63 (s0_1 : Value) (h : Heap) (K : Value -> Heap -> Prop) (H : t63 Tryz.prog s0_1 h K) : callM Tryz.prog 63 #[s0_1] h K :=
  callM_of_wpA mixed (fn := Tryz.f63) Tryz.func63 (c := bodyOf Tryz.f63) rfl (of_decide_eq_true (by kernel_rfl)) (anOf [(58, [10])]) 22 23 (by kernel_rfl) rfl [.cell 2 28] (by kernel_rfl) (args := [s0_1]) (by rw [e63]; exact H)
def t64 (P : Program) (s0_1 : Value) (cycle1_1 : Value) (h : Heap) (K : Value -> Heap -> Prop) : Prop :=
 eop P (Instr.box 28 s0_1) h fun s2_1 h1 =>
 pop P (lenS 33 3 cycle1_1) fun s7 =>
 ∃ (I1 : List Value -> Heap -> Prop) (μ_1 : List Value -> Heap -> Nat), I1 [(.int .i64 0)] h1 /\
 ∀ (junk1 : Nat -> Value) (s8 : Value) (h2 : Heap), I1 [s8] h2 ->
 pop P (binA .lss 3 s8 s7) fun s9 =>
 condM s9
 (pop P (Instr.indexAt 33 cycle1_1 s8) fun s10 =>
 rop P (Instr.loadAt 3 s10) h2 fun s11 =>
 pop P (Instr.fieldAt 28 s2_1 0) fun s12 =>
 rop P (Instr.loadAt 24 s12) h2 fun s13 =>
 pop P (Instr.fieldAt 28 s2_1 0) fun s15 =>
 rop P (Instr.loadAt 24 s15) h2 fun s16 =>
 pop P (Instr.indexAt 24 s16 s11) fun s18 =>
 rop P (Instr.loadAt 33 s18) h2 fun s19 =>
 pop P (Instr.sliceAt 33 s19 (some (.int .i64 1)) none none) fun s20 =>
 pop P (Instr.indexAt 24 s13 s11) fun s21 =>
 uop P (Instr.storeAt 33 s21 s20) h2 fun q1 h3 =>
 pop P (binA .add 3 s8 (.int .i64 1)) fun s22 =>
 I1 [s22] h3 /\ μ_1 [s22] h3 < μ_1 [s8] h2)
 (K (.tuple #[]) h2)
theorem e64 (s0_1 : Value) (cycle1_1 : Value) (h : Heap) (K : Value -> Heap -> Prop) : wpA Tryz.prog 23 (anOf [(14, [8])]) (bodyOf Tryz.f64) 1 (fun A h => resA Tryz.prog A h K []) (fun _ _ _ => False) (fun A h => resA Tryz.prog A h K []) (aargs [s0_1, cycle1_1] 0) h = t64 Tryz.prog s0_1 cycle1_1 h K := by kernel_rfl
theorem c64 (s0_1 : Value) (cycle1_1 : Value) (h : Heap) (K : Value -> Heap -> Prop) (H : t64 Tryz.prog s0_1 cycle1_1 h K) : callM Tryz.prog 64 #[s0_1, cycle1_1] h K :=
  callM_of_wpA mixed (fn := Tryz.f64) Tryz.func64 (c := bodyOf Tryz.f64) rfl (of_decide_eq_true (by kernel_rfl)) (anOf [(14, [8])]) 21 23 (by kernel_rfl) rfl [] (by kernel_rfl) (args := [s0_1, cycle1_1]) (by rw [e64]; exact H)
def t65 (P : Program) (g0_1 : Value) (s1_1 : Value) (p2_1 : Value) (h : Heap) (K : Value -> Heap -> Prop) : Prop :=
 eop P (Instr.box 26 g0_1) h fun g3_1 h1 =>
 eop P (Instr.box 28 s1_1) h1 fun s4_1 h2 =>
 eop P (Instr.buildSlice 33 1 #[(0, p2_1)]) h2 fun s14 h3 =>
 rop P (Instr.loadAt 26 g3_1) h3 fun s15 =>
 rop P (Instr.loadAt 28 s4_1) h3 fun s16 =>
 callM P 118 #[s15, s16, p2_1] h3 fun s18 h4 =>
 ∃ (I1 : List Value -> Heap -> Prop) (μ_1 : List Value -> Heap -> Nat), I1 [s14, s18, (.int .i64 0)] h4 /\
 ∀ (junk1 : Nat -> Value) (out7_1 : Value) (q8_1 : Value) (n9_1 : Value) (h5 : Heap), I1 [out7_1, q8_1, n9_1] h5 ->
 pop P (Instr.fieldAt 26 g3_1 0) fun s20 =>
 rop P (Instr.loadAt 24 s20) h5 fun s21 =>
 pop P (lenS 24 3 s21) fun s22 =>
 pop P (binA .lss 3 n9_1 s22) fun s23 =>
 guardM (asG s23 true) true (fun k_1 => k_1 q8_1 h5) h5 fun s25 h6 =>
 guardM (asG s23 true) true (fun k_2 => pop P (binA .geq 3 s25 (.int .i64 0)) fun s26 =>
 k_2 s26 h6) h6 fun s26b h7 =>
 pop P (pickS s23 s26b (Value.bool false)) fun s27 =>
 guardM (asG s27 true) true (fun k_3 => k_3 q8_1 h7) h7 fun s29 h8 =>
 guardM (asG s27 true) true (fun k_4 => k_4 p2_1 h8) h8 fun s30 h9 =>
 guardM (asG s27 true) true (fun k_5 => pop P (binE .neq 3 (.tmp 29) (.tmp 30) s29 s30) fun s31 =>
 k_5 s31 h9) h9 fun s31b h10 =>
 pop P (pickS s27 s31b (Value.bool false)) fun s32 =>
 condM s32
 (eop P (Instr.buildSlice 33 1 #[(0, q8_1)]) h10 fun s37 h11 =>
 eop P (appS 33 33 33 out7_1 s37) h11 fun s38 h12 =>
 rop P (Instr.loadAt 26 g3_1) h12 fun s39 =>
 rop P (Instr.loadAt 28 s4_1) h12 fun s40 =>
 callM P 118 #[s39, s40, q8_1] h12 fun s42 h13 =>
 pop P (binA .add 3 n9_1 (.int .i64 1)) fun s34 =>
 I1 [s38, s42, s34] h13 /\ μ_1 [s38, s42, s34] h13 < μ_1 [out7_1, q8_1, n9_1] h5)
 (pop P (binE .neq 3 (.tmp 43) (.tmp 44) q8_1 p2_1) fun s45 =>
 condM s45
 (K (Value.slice none 0 0) h10)
 (pop P (lenS 33 3 out7_1) fun s47 =>
 ∃ (I2 : List Value -> Heap -> Prop) (μ_2 : List Value -> Heap -> Nat), I2 [(.int .i64 0), (.int .i64 0)] h10 /\
 ∀ (junk2 : Nat -> Value) (least10_1 : Value) (s48 : Value) (h14 : Heap), I2 [least10_1, s48] h14 ->
 pop P (binA .lss 3 s48 s47) fun s49 =>
 condM s49
 (pop P (Instr.indexAt 33 out7_1 s48) fun s51 =>
 rop P (Instr.loadAt 3 s51) h14 fun s52 =>
 pop P (Instr.indexAt 33 out7_1 least10_1) fun s56 =>
 rop P (Instr.loadAt 3 s56) h14 fun s57 =>
 pop P (binA .lss 3 s52 s57) fun s58 =>
 condM s58
 (pop P (binA .add 3 s48 (.int .i64 1)) fun s60 =>
 I2 [s48, s60] h14 /\ μ_2 [s48, s60] h14 < μ_2 [least10_1, s48] h14)
 (pop P (binA .add 3 s48 (.int .i64 1)) fun s60b =>
 I2 [least10_1, s60b] h14 /\ μ_2 [least10_1, s60b] h14 < μ_2 [least10_1, s48] h14))
 (pop P (Instr.sliceAt 33 out7_1 (some least10_1) none none) fun s63 =>
 pop P (Instr.sliceAt 33 out7_1 none (some least10_1) none) fun s67 =>
 callM P 119 #[s63] h14 fun s64 h15 =>
 eop P (appS 33 33 33 s64 s67) h15 fun s68 h16 =>
 K s68 h16)))
theorem e65 (g0_1 : Value) (s1_1 : Value) (p2_1 : Value) (h : Heap) (K : Value -> Heap -> Prop) : wpA Tryz.prog 69 (anOf [(122, [7, 8, 9]), (1018, [10, 48])]) (bodyOf Tryz.f65) 1 (fun A h => resA Tryz.prog A h K [.tmp 6]) (fun _ _ _ => False) (fun A h => resA Tryz.prog A h K [.tmp 6]) (aargs [g0_1, s1_1, p2_1] 0) h = t65 Tryz.prog g0_1 s1_1 p2_1 h K := by kernel_rfl
theorem c65 (g0_1 : Value) (s1_1 : Value) (p2_1 : Value) (h : Heap) (K : Value -> Heap -> Prop) (H : t65 Tryz.prog g0_1 s1_1 p2_1 h K) : callM Tryz.prog 65 #[g0_1, s1_1, p2_1] h K :=
  callM_of_wpA mixed (fn := Tryz.f65) Tryz.func65 (c := bodyOf Tryz.f65) rfl (of_decide_eq_true (by kernel_rfl)) (anOf [(122, [7, 8, 9]), (1018, [10, 48])]) 66 69 (by kernel_rfl) rfl [.tmp 6] (by kernel_rfl) (args := [g0_1, s1_1, p2_1]) (by rw [e65]; exact H)
def t66 (P : Program) (s0_1 : Value) (cycle1_1 : Value) (h : Heap) (K : Value -> Heap -> Prop) : Prop :=
 eop P (Instr.box 28 s0_1) h fun s2_1 h1 =>
 eop P (Instr.alloc 28 true (.tuple #[])) h1 fun s4 h2 =>
 pop P (Instr.build 28 #[]) fun s8 =>
 eop P (Instr.alloc 28 true (.tuple #[])) h2 fun out5_1 h3 =>
 uop P (Instr.storeAt 28 out5_1 s8) h3 fun q1 h4 =>
 pop P (Instr.fieldAt 28 s2_1 0) fun s9 =>
 rop P (Instr.loadAt 24 s9) h4 fun s10 =>
 pop P (lenS 24 3 s10) fun s11 =>
 ∃ (I1 : List Value -> Heap -> Prop) (μ_1 : List Value -> Heap -> Nat), I1 [(.int .i64 0)] h4 /\
 ∀ (junk1 : Nat -> Value) (s12 : Value) (h5 : Heap), I1 [s12] h5 ->
 pop P (binA .lss 3 s12 s11) fun s13 =>
 condM s13
 (pop P (Instr.indexAt 24 s10 s12) fun s15 =>
 rop P (Instr.loadAt 33 s15) h5 fun s16 =>
 ∃ J1 : List Value -> Heap -> Prop, (callM P 120 #[cycle1_1, s12] h5 fun s19 h6 =>
 condM s19
 (pop P (Instr.sliceAt 33 s16 (some (.int .i64 1)) none none) fun s21 =>
 J1 [s21] h6)
 (J1 [s16] h6)) /\
 ∀ (junk2 : Nat -> Value) (list7_1 : Value) (h7 : Heap), J1 [list7_1] h7 ->
 pop P (Instr.fieldAt 28 out5_1 0) fun s22 =>
 rop P (Instr.loadAt 24 s22) h7 fun s23 =>
 callM P 119 #[list7_1] h7 fun s25 h8 =>
 (∀ w : World, w.heap = h8 -> (Instr.loadAt 24 s22).run P w = .ok s23 w) /\
 eop P (Instr.buildSlice 24 1 #[(0, s25)]) h8 fun s26 h9 =>
 (∀ w : World, w.heap = h9 -> (Instr.loadAt 24 s22).run P w = .ok s23 w) /\
 eop P (appS 24 24 24 s23 s26) h9 fun s27 h10 =>
 pop P (Instr.fieldAt 28 out5_1 0) fun s28 =>
 uop P (Instr.storeAt 24 s28 s27) h10 fun q2 h11 =>
 pop P (binA .add 3 s12 (.int .i64 1)) fun s29 =>
 I1 [s29] h11 /\ μ_1 [s29] h11 < μ_1 [s12] h5)
 (rop P (Instr.loadAt 28 out5_1) h5 fun s30 =>
 uop P (Instr.storeAt 28 s4 s30) h5 fun q3 h12 =>
 rop P (Instr.loadAt 28 s4) h12 fun r_1 =>
 K r_1 h12)
theorem e66 (s0_1 : Value) (cycle1_1 : Value) (h : Heap) (K : Value -> Heap -> Prop) : wpA Tryz.prog 31 (anOf [(58, [12]), (3737, [7])]) (bodyOf Tryz.f66) 1 (fun A h => resA Tryz.prog A h K [.cell 4 28]) (fun _ _ _ => False) (fun A h => resA Tryz.prog A h K [.cell 4 28]) (aargs [s0_1, cycle1_1] 0) h = t66 Tryz.prog s0_1 cycle1_1 h K := by kernel_rfl
theorem c66 (s0_1 : Value) (cycle1_1 : Value) (h : Heap) (K : Value -> Heap -> Prop) (H : t66 Tryz.prog s0_1 cycle1_1 h K) : callM Tryz.prog 66 #[s0_1, cycle1_1] h K :=
  callM_of_wpA mixed (fn := Tryz.f66) Tryz.func66 (c := bodyOf Tryz.f66) rfl (of_decide_eq_true (by kernel_rfl)) (anOf [(58, [12]), (3737, [7])]) 29 31 (by kernel_rfl) rfl [.cell 4 28] (by kernel_rfl) (args := [s0_1, cycle1_1]) (by rw [e66]; exact H)
def t67 (P : Program) (c0_1 : Value) (h : Heap) (K : Value -> Heap -> Prop) : Prop :=
 eop P (Instr.alloc 26 true (.tuple #[])) h fun s2 h1 =>
 eop P (Instr.alloc 54 true (.tuple #[])) h1 fun s3 h2 =>
 callM P 121 #[c0_1] h2 fun s7 h3 =>
 eop P (Instr.alloc 26 true (.tuple #[])) h3 fun g4_1 h4 =>
 uop P (Instr.storeAt 26 g4_1 s7) h4 fun q1 h5 =>
 rop P (Instr.loadAt 26 g4_1) h5 fun s8 =>
 callM P 82 #[s8] h5 fun s9 h6 =>
 pop P (Op.unary .not s9) fun s10 =>
 condM s10
 (rop P (Instr.loadAt 26 g4_1) h6 fun s11 =>
 pop P (Instr.build 54 #[]) fun s12 =>
 uop P (Instr.storeAt 26 s2 s11) h6 fun q2 h7 =>
 uop P (Instr.storeAt 54 s3 s12) h7 fun q3 h8 =>
 rop P (Instr.loadAt 26 s2) h8 fun r_1 =>
 rop P (Instr.loadAt 54 s3) h8 fun r_2 =>
 K (.tuple #[r_1, r_2]) h8)
 (rop P (Instr.loadAt 26 g4_1) h6 fun s14 =>
 callM P 83 #[c0_1, s14] h6 fun s15 h9 =>
 eop P (Instr.alloc 54 true (.tuple #[])) h9 fun w5_1 h10 =>
 uop P (Instr.storeAt 54 w5_1 s15) h10 fun q4 h11 =>
 ∃ J1 : List Value -> Heap -> Prop, (callM P 70 #[c0_1, (.int .i64 16)] h11 fun s17 h12 =>
 pop P (binE .eql 3 (.tmp 17) (.const (.int .i64 0)) s17 (.int .i64 0)) fun s19 =>
 condM s19
 (pop P (Instr.fieldAt 26 g4_1 0) fun s21 =>
 rop P (Instr.loadAt 24 s21) h12 fun s22 =>
 pop P (lenS 24 3 s22) fun s23 =>
 eop P (Instr.buildSlice 33 3 #[(0, (.int .i64 (-1))), (1, s23), (2, (.int .i64 4611686018427387904))]) h12 fun s24 h13 =>
 callM P 69 #[c0_1, s24] h13 fun s25 h14 =>
 pop P (Instr.fieldAt 54 w5_1 1) fun s26 =>
 uop P (Instr.storeAt 3 s26 s25) h14 fun q5 h15 =>
 J1 [] h15)
 (pop P (binE .eql 3 (.tmp 17) (.const (.int .i64 1)) s17 (.int .i64 1)) fun s28 =>
 condM s28
 (pop P (Instr.fieldAt 54 w5_1 0) fun s29 =>
 rop P (Instr.loadAt 33 s29) h12 fun s30 =>
 pop P (Instr.fieldAt 54 w5_1 0) fun s32 =>
 rop P (Instr.loadAt 33 s32) h12 fun s33 =>
 pop P (lenS 33 3 s33) fun s34 =>
 (callM P 70 #[c0_1, s34] h12 fun s35 h16 =>
 (∀ w : World, w.heap = h16 -> (Instr.loadAt 33 s32).run P w = .ok s33 w) /\
 (∀ w : World, w.heap = h16 -> (Instr.loadAt 33 s29).run P w = .ok s30 w) /\
 eop P (Instr.buildSlice 33 3 #[(0, (.int .i64 (-1))), (1, (.int .i64 4)), (2, (.int .i64 5))]) h16 fun s37 h17 =>
 (∀ w : World, w.heap = h17 -> (Instr.loadAt 33 s32).run P w = .ok s33 w) /\
 (∀ w : World, w.heap = h17 -> (Instr.loadAt 33 s29).run P w = .ok s30 w) /\
 callM P 69 #[c0_1, s37] h17 fun s38 h18 =>
 (∀ w : World, w.heap = h18 -> (Instr.loadAt 33 s32).run P w = .ok s33 w) /\
 (∀ w : World, w.heap = h18 -> (Instr.loadAt 33 s29).run P w = .ok s30 w) /\
 pop P (Instr.indexAt 33 s30 s35) fun s39 =>
 uop P (Instr.storeAt 3 s39 s38) h18 fun q6 h19 =>
 J1 [] h19) /\
 (eop P (Instr.buildSlice 33 3 #[(0, (.int .i64 (-1))), (1, (.int .i64 4)), (2, (.int .i64 5))]) h12 fun s37b h20 =>
 (∀ w : World, w.heap = h20 -> (Instr.loadAt 33 s32).run P w = .ok s33 w) /\
 (∀ w : World, w.heap = h20 -> (Instr.loadAt 33 s29).run P w = .ok s30 w) /\
 callM P 70 #[c0_1, s34] h20 fun s35b h21 =>
 (∀ w : World, w.heap = h21 -> (Instr.loadAt 33 s32).run P w = .ok s33 w) /\
 (∀ w : World, w.heap = h21 -> (Instr.loadAt 33 s29).run P w = .ok s30 w) /\
 callM P 69 #[c0_1, s37b] h21 fun s38b h22 =>
 (∀ w : World, w.heap = h22 -> (Instr.loadAt 33 s32).run P w = .ok s33 w) /\
 (∀ w : World, w.heap = h22 -> (Instr.loadAt 33 s29).run P w = .ok s30 w) /\
 pop P (Instr.indexAt 33 s30 s35b) fun s39b =>
 uop P (Instr.storeAt 3 s39b s38b) h22 fun q7 h23 =>
 J1 [] h23))
 (pop P (binE .eql 3 (.tmp 17) (.const (.int .i64 2)) s17 (.int .i64 2)) fun s41 =>
 condM s41
 (pop P (Instr.fieldAt 54 w5_1 0) fun s42 =>
 rop P (Instr.loadAt 33 s42) h12 fun s43 =>
 eop P (Instr.buildSlice 33 1 #[(0, (.int .i64 0))]) h12 fun s44 h24 =>
 eop P (appS 33 33 33 s43 s44) h24 fun s45 h25 =>
 pop P (Instr.fieldAt 54 w5_1 0) fun s46 =>
 uop P (Instr.storeAt 33 s46 s45) h25 fun q8 h26 =>
 J1 [] h26)
 (J1 [] h12)))) /\
 ∀ (junk1 : Nat -> Value) (h27 : Heap), J1 [] h27 ->
 rop P (Instr.loadAt 26 g4_1) h27 fun s47 =>
 rop P (Instr.loadAt 54 w5_1) h27 fun s48 =>
 uop P (Instr.storeAt 26 s2 s47) h27 fun q9 h28 =>
 (∀ w : World, w.heap = h28 -> (Instr.loadAt 54 w5_1).run P w = .ok s48 w) /\
 uop P (Instr.storeAt 54 s3 s48) h28 fun q10 h29 =>
 rop P (Instr.loadAt 26 s2) h29 fun r_3 =>
 rop P (Instr.loadAt 54 s3) h29 fun r_4 =>
 K (.tuple #[r_3, r_4]) h29)
theorem e67 (c0_1 : Value) (h : Heap) (K : Value -> Heap -> Prop) : wpA Tryz.prog 49 (anOf [(31, [])]) (bodyOf Tryz.f67) 1 (fun A h => resA Tryz.prog A h K [.cell 2 26, .cell 3 54]) (fun _ _ _ => False) (fun A h => resA Tryz.prog A h K [.cell 2 26, .cell 3 54]) (aargs [c0_1] 0) h = t67 Tryz.prog c0_1 h K := by kernel_rfl
theorem c67 (c0_1 : Value) (h : Heap) (K : Value -> Heap -> Prop) (H : t67 Tryz.prog c0_1 h K) : callM Tryz.prog 67 #[c0_1] h K :=
  callM_of_wpA mixed (fn := Tryz.f67) Tryz.func67 (c := bodyOf Tryz.f67) rfl (of_decide_eq_true (by kernel_rfl)) (anOf [(31, [])]) 48 49 (by kernel_rfl) rfl [.cell 2 26, .cell 3 54] (by kernel_rfl) (args := [c0_1]) (by rw [e67]; exact H)
def t68 (P : Program) (c0_1 : Value) (n1_1 : Value) (h : Heap) (K : Value -> Heap -> Prop) : Prop :=
 callM P 70 #[c0_1, n1_1] h fun s7 h1 =>
 pop P (binE .eql 3 (.tmp 7) (.const (.int .i64 0)) s7 (.int .i64 0)) fun s8 =>
 K s8 h1
theorem e68 (c0_1 : Value) (n1_1 : Value) (h : Heap) (K : Value -> Heap -> Prop) : wpA Tryz.prog 9 (anOf []) (bodyOf Tryz.f68) 1 (fun A h => resA Tryz.prog A h K [.tmp 4]) (fun _ _ _ => False) (fun A h => resA Tryz.prog A h K [.tmp 4]) (aargs [c0_1, n1_1] 0) h = t68 Tryz.prog c0_1 n1_1 h K := by kernel_rfl
theorem c68 (c0_1 : Value) (n1_1 : Value) (h : Heap) (K : Value -> Heap -> Prop) (H : t68 Tryz.prog c0_1 n1_1 h K) : callM Tryz.prog 68 #[c0_1, n1_1] h K :=
  callM_of_wpA mixed (fn := Tryz.f68) Tryz.func68 (c := bodyOf Tryz.f68) rfl (of_decide_eq_true (by kernel_rfl)) (anOf []) 7 9 (by kernel_rfl) rfl [.tmp 4] (by kernel_rfl) (args := [c0_1, n1_1]) (by rw [e68]; exact H)
def t69 (P : Program) (c0_1 : Value) (list1_1 : Value) (h : Heap) (K : Value -> Heap -> Prop) : Prop :=
 pop P (lenS 33 3 list1_1) fun s8 =>
 callM P 70 #[c0_1, s8] h fun s9 h1 =>
 pop P (Instr.indexAt 33 list1_1 s9) fun s10 =>
 rop P (Instr.loadAt 3 s10) h1 fun s11 =>
 K s11 h1
theorem e69 (c0_1 : Value) (list1_1 : Value) (h : Heap) (K : Value -> Heap -> Prop) : wpA Tryz.prog 12 (anOf []) (bodyOf Tryz.f69) 1 (fun A h => resA Tryz.prog A h K [.tmp 4]) (fun _ _ _ => False) (fun A h => resA Tryz.prog A h K [.tmp 4]) (aargs [c0_1, list1_1] 0) h = t69 Tryz.prog c0_1 list1_1 h K := by kernel_rfl
theorem c69 (c0_1 : Value) (list1_1 : Value) (h : Heap) (K : Value -> Heap -> Prop) (H : t69 Tryz.prog c0_1 list1_1 h K) : callM Tryz.prog 69 #[c0_1, list1_1] h K :=
  callM_of_wpA mixed (fn := Tryz.f69) Tryz.func69 (c := bodyOf Tryz.f69) rfl (of_decide_eq_true (by kernel_rfl)) (anOf []) 10 12 (by kernel_rfl) rfl [.tmp 4] (by kernel_rfl) (args := [c0_1, list1_1]) (by rw [e69]; exact H)
def t70 (P : Program) (c0_1 : Value) (n1_1 : Value) (h : Heap) (K : Value -> Heap -> Prop) : Prop :=
 pop P (binA .leq 3 n1_1 (.int .i64 1)) fun s7 =>
 condM s7
 (K (.int .i64 0) h)
 (callM P 122 #[c0_1] h fun s9 h1 =>
 ∃ J1 : List Value -> Heap -> Prop, (pop P (binA .gtr 3 n1_1 (.int .i64 200)) fun s11 =>
 condM s11
 (pop P (binA .mul 3 s9 (.int .i64 256)) fun s13 =>
 callM P 122 #[c0_1] h1 fun s15 h2 =>
 pop P (binA .add 3 s13 s15) fun s16 =>
 J1 [s16] h2)
 (J1 [s9] h1)) /\
 ∀ (junk1 : Nat -> Value) (x5_1 : Value) (h3 : Heap), J1 [x5_1] h3 ->
 pop P (binA .rem 3 x5_1 n1_1) fun s19 =>
 K s19 h3)
theorem e70 (c0_1 : Value) (n1_1 : Value) (h : Heap) (K : Value -> Heap -> Prop) : wpA Tryz.prog 20 (anOf [(15, [5])]) (bodyOf Tryz.f70) 1 (fun A h => resA Tryz.prog A h K [.tmp 4]) (fun _ _ _ => False) (fun A h => resA Tryz.prog A h K [.tmp 4]) (aargs [c0_1, n1_1] 0) h = t70 Tryz.prog c0_1 n1_1 h K := by kernel_rfl
theorem c70 (c0_1 : Value) (n1_1 : Value) (h : Heap) (K : Value -> Heap -> Prop) (H : t70 Tryz.prog c0_1 n1_1 h K) : callM Tryz.prog 70 #[c0_1, n1_1] h K :=
  callM_of_wpA mixed (fn := Tryz.f70) Tryz.func70 (c := bodyOf Tryz.f70) rfl (of_decide_eq_true (by kernel_rfl)) (anOf [(15, [5])]) 18 20 (by kernel_rfl) rfl [.tmp 4] (by kernel_rfl) (args := [c0_1, n1_1]) (by rw [e70]; exact H)
def t71 (P : Program) (g0_1 : Value) (rotors1_1 : Value) (h : Heap) (K : Value -> Heap -> Prop) : Prop :=
 eop P (Instr.box 26 g0_1) h fun g2_1 h1 =>
 rop P (Instr.loadAt 26 g2_1) h1 fun s5 =>
 pop P (Instr.build 54 #[(0, rotors1_1), (1, (.int .i64 0))]) fun s7 =>
 callM P 84 #[s5, s7] h1 fun s8 h2 =>
 K s8 h2
theorem e71 (g0_1 : Value) (rotors1_1 : Value) (h : Heap) (K : Value -> Heap -> Prop) : wpA Tryz.prog 9 (anOf []) (bodyOf Tryz.f71) 1 (fun A h => resA Tryz.prog A h K [.tmp 4]) (fun _ _ _ => False) (fun A h => resA Tryz.prog A h K [.tmp 4]) (aargs [g0_1, rotors1_1] 0) h = t71 Tryz.prog g0_1 rotors1_1 h K := by kernel_rfl
theorem c71 (g0_1 : Value) (rotors1_1 : Value) (h : Heap) (K : Value -> Heap -> Prop) (H : t71 Tryz.prog g0_1 rotors1_1 h K) : callM Tryz.prog 71 #[g0_1, rotors1_1] h K :=
  callM_of_wpA mixed (fn := Tryz.f71) Tryz.func71 (c := bodyOf Tryz.f71) rfl (of_decide_eq_true (by kernel_rfl)) (anOf []) 7 9 (by kernel_rfl) rfl [.tmp 4] (by kernel_rfl) (args := [g0_1, rotors1_1]) (by rw [e71]; exact H)
def t72 (P : Program) (n0_1 : Value) (low1_1 : Value) (high2_1 : Value) (h : Heap) (K : Value -> Heap -> Prop) : Prop :=
 pop P (binA .leq 3 low1_1 n0_1) fun s9 =>
 guardM (asG s9 true) true (fun k_1 => k_1 n0_1 h) h fun s11 h1 =>
 guardM (asG s9 true) true (fun k_2 => k_2 high2_1 h1) h1 fun s12 h2 =>
 guardM (asG s9 true) true (fun k_3 => pop P (binA .leq 3 s11 s12) fun s13 =>
 k_3 s13 h2) h2 fun s13b h3 =>
 pop P (pickS s9 s13b (Value.bool false)) fun s14 =>
 K s14 h3
theorem e72 (n0_1 : Value) (low1_1 : Value) (high2_1 : Value) (h : Heap) (K : Value -> Heap -> Prop) : wpA Tryz.prog 15 (anOf []) (bodyOf Tryz.f72) 1 (fun A h => resA Tryz.prog A h K [.tmp 6]) (fun _ _ _ => False) (fun A h => resA Tryz.prog A h K [.tmp 6]) (aargs [n0_1, low1_1, high2_1] 0) h = t72 Tryz.prog n0_1 low1_1 high2_1 h K := by kernel_rfl
theorem c72 (n0_1 : Value) (low1_1 : Value) (high2_1 : Value) (h : Heap) (K : Value -> Heap -> Prop) (H : t72 Tryz.prog n0_1 low1_1 high2_1 h K) : callM Tryz.prog 72 #[n0_1, low1_1, high2_1] h K :=
  callM_of_wpA mixed (fn := Tryz.f72) Tryz.func72 (c := bodyOf Tryz.f72) rfl (of_decide_eq_true (by kernel_rfl)) (anOf []) 12 15 (by kernel_rfl) rfl [.tmp 6] (by kernel_rfl) (args := [n0_1, low1_1, high2_1]) (by rw [e72]; exact H)
def t73 (P : Program) (g0_1 : Value) (w1_1 : Value) (h : Heap) (K : Value -> Heap -> Prop) : Prop :=
 eop P (Instr.box 26 g0_1) h fun g2_1 h1 =>
 eop P (Instr.box 54 w1_1) h1 fun w3_1 h2 =>
 rop P (Instr.loadAt 26 g2_1) h2 fun s7 =>
 pop P (Instr.fieldAt 54 w3_1 1) fun s8 =>
 rop P (Instr.loadAt 3 s8) h2 fun s9 =>
 callM P 55 #[s7, s9] h2 fun s10 h3 =>
 pop P (Op.unary .not s10) fun s11 =>
 guardM (asG s11 false) false (fun k_1 => pop P (Instr.fieldAt 54 w3_1 0) fun s13 =>
 k_1 s13 h3) h3 fun s13b h4 =>
 guardM (asG s11 false) false (fun k_2 => rop P (Instr.loadAt 33 s13b) h4 fun s14 =>
 k_2 s14 h4) h4 fun s14b h5 =>
 guardM (asG s11 false) false (fun k_3 => pop P (lenS 33 3 s14b) fun s15 =>
 k_3 s15 h5) h5 fun s15b h6 =>
 guardM (asG s11 false) false (fun k_4 => pop P (Instr.fieldAt 26 g2_1 0) fun s16 =>
 k_4 s16 h6) h6 fun s16b h7 =>
 guardM (asG s11 false) false (fun k_5 => rop P (Instr.loadAt 24 s16b) h7 fun s17 =>
 k_5 s17 h7) h7 fun s17b h8 =>
 guardM (asG s11 false) false (fun k_6 => pop P (lenS 24 3 s17b) fun s18 =>
 k_6 s18 h8) h8 fun s18b h9 =>
 guardM (asG s11 false) false (fun k_7 => pop P (binE .neq 3 (.tmp 15) (.tmp 18) s15b s18b) fun s19 =>
 k_7 s19 h9) h9 fun s19b h10 =>
 pop P (pickS s11 (Value.bool true) s19b) fun s20 =>
 condM s20
 (K (Value.bool false) h10)
 (pop P (Instr.fieldAt 26 g2_1 0) fun s21 =>
 rop P (Instr.loadAt 24 s21) h10 fun s22 =>
 pop P (lenS 24 3 s22) fun s23 =>
 ∃ (I1 : List Value -> Heap -> Prop) (μ_1 : List Value -> Heap -> Nat), I1 [(.int .i64 0)] h10 /\
 ∀ (junk1 : Nat -> Value) (s24 : Value) (h11 : Heap), I1 [s24] h11 ->
 pop P (binA .lss 3 s24 s23) fun s25 =>
 condM s25
 (pop P (Instr.indexAt 24 s22 s24) fun s27 =>
 rop P (Instr.loadAt 33 s27) h11 fun s28 =>
 pop P (Instr.fieldAt 54 w3_1 0) fun s29 =>
 rop P (Instr.loadAt 33 s29) h11 fun s30 =>
 pop P (Instr.indexAt 33 s30 s24) fun s32 =>
 rop P (Instr.loadAt 3 s32) h11 fun s33 =>
 pop P (lenS 33 3 s28) fun s35 =>
 pop P (binA .sub 3 s35 (.int .i64 1)) fun s36 =>
 callM P 123 #[(.int .i64 0), s36] h11 fun s37 h12 =>
 (∀ w : World, w.heap = h12 -> (Instr.loadAt 3 s32).run P w = .ok s33 w) /\
 (∀ w : World, w.heap = h12 -> (Instr.loadAt 33 s29).run P w = .ok s30 w) /\
 callM P 74 #[s33, (.int .i64 0), s37] h12 fun s38 h13 =>
 (∀ w : World, w.heap = h13 -> (Instr.loadAt 33 s29).run P w = .ok s30 w) /\
 pop P (Op.unary .not s38) fun s39 =>
 condM s39
 (K (Value.bool false) h13)
 (pop P (binA .add 3 s24 (.int .i64 1)) fun s40 =>
 I1 [s40] h13 /\ μ_1 [s40] h13 < μ_1 [s24] h11))
 (K (Value.bool true) h11))
theorem e73 (g0_1 : Value) (w1_1 : Value) (h : Heap) (K : Value -> Heap -> Prop) : wpA Tryz.prog 41 (anOf [(58, [24])]) (bodyOf Tryz.f73) 1 (fun A h => resA Tryz.prog A h K [.tmp 4]) (fun _ _ _ => False) (fun A h => resA Tryz.prog A h K [.tmp 4]) (aargs [g0_1, w1_1] 0) h = t73 Tryz.prog g0_1 w1_1 h K := by kernel_rfl
theorem c73 (g0_1 : Value) (w1_1 : Value) (h : Heap) (K : Value -> Heap -> Prop) (H : t73 Tryz.prog g0_1 w1_1 h K) : callM Tryz.prog 73 #[g0_1, w1_1] h K :=
  callM_of_wpA mixed (fn := Tryz.f73) Tryz.func73 (c := bodyOf Tryz.f73) rfl (of_decide_eq_true (by kernel_rfl)) (anOf [(58, [24])]) 39 41 (by kernel_rfl) rfl [.tmp 4] (by kernel_rfl) (args := [g0_1, w1_1]) (by rw [e73]; exact H)
def t74 (P : Program) (n0_1 : Value) (lo1_1 : Value) (hi2_1 : Value) (h : Heap) (K : Value -> Heap -> Prop) : Prop :=
 pop P (binA .geq 3 n0_1 lo1_1) fun s9 =>
 guardM (asG s9 true) true (fun k_1 => k_1 n0_1 h) h fun s11 h1 =>
 guardM (asG s9 true) true (fun k_2 => k_2 hi2_1 h1) h1 fun s12 h2 =>
 guardM (asG s9 true) true (fun k_3 => pop P (binA .leq 3 s11 s12) fun s13 =>
 k_3 s13 h2) h2 fun s13b h3 =>
 pop P (pickS s9 s13b (Value.bool false)) fun s14 =>
 K s14 h3
theorem e74 (n0_1 : Value) (lo1_1 : Value) (hi2_1 : Value) (h : Heap) (K : Value -> Heap -> Prop) : wpA Tryz.prog 15 (anOf []) (bodyOf Tryz.f74) 1 (fun A h => resA Tryz.prog A h K [.tmp 6]) (fun _ _ _ => False) (fun A h => resA Tryz.prog A h K [.tmp 6]) (aargs [n0_1, lo1_1, hi2_1] 0) h = t74 Tryz.prog n0_1 lo1_1 hi2_1 h K := by kernel_rfl
theorem c74 (n0_1 : Value) (lo1_1 : Value) (hi2_1 : Value) (h : Heap) (K : Value -> Heap -> Prop) (H : t74 Tryz.prog n0_1 lo1_1 hi2_1 h K) : callM Tryz.prog 74 #[n0_1, lo1_1, hi2_1] h K :=
  callM_of_wpA mixed (fn := Tryz.f74) Tryz.func74 (c := bodyOf Tryz.f74) rfl (of_decide_eq_true (by kernel_rfl)) (anOf []) 12 15 (by kernel_rfl) rfl [.tmp 6] (by kernel_rfl) (args := [n0_1, lo1_1, hi2_1]) (by rw [e74]; exact H)
def t75 (P : Program) (s0_1 : Value) (f1_1 : Value) (h : Heap) (K : Value -> Heap -> Prop) : Prop :=
 callM P 124 #[s0_1, f1_1] h fun s7 h1 =>
 pop P (binA .geq 3 s7 (.int .i64 0)) fun s8 =>
 K s8 h1
theorem e75 (s0_1 : Value) (f1_1 : Value) (h : Heap) (K : Value -> Heap -> Prop) : wpA Tryz.prog 9 (anOf []) (bodyOf Tryz.f75) 1 (fun A h => resA Tryz.prog A h K [.tmp 4]) (fun _ _ _ => False) (fun A h => resA Tryz.prog A h K [.tmp 4]) (aargs [s0_1, f1_1] 0) h = t75 Tryz.prog s0_1 f1_1 h K := by kernel_rfl
theorem c75 (s0_1 : Value) (f1_1 : Value) (h : Heap) (K : Value -> Heap -> Prop) (H : t75 Tryz.prog s0_1 f1_1 h K) : callM Tryz.prog 75 #[s0_1, f1_1] h K :=
  callM_of_wpA mixed (fn := Tryz.f75) Tryz.func75 (c := bodyOf Tryz.f75) rfl (of_decide_eq_true (by kernel_rfl)) (anOf []) 7 9 (by kernel_rfl) rfl [.tmp 4] (by kernel_rfl) (args := [s0_1, f1_1]) (by rw [e75]; exact H)
def t76 (P : Program) (k0_1 : Value) (h : Heap) (K : Value -> Heap -> Prop) : Prop :=
 callM P 72 #[k0_1, (.int .i64 0), (.int .i64 4)] h fun s4 h1 =>
 pop P (Op.unary .not s4) fun s5 =>
 K s5 h1
theorem e76 (k0_1 : Value) (h : Heap) (K : Value -> Heap -> Prop) : wpA Tryz.prog 6 (anOf []) (bodyOf Tryz.f76) 1 (fun A h => resA Tryz.prog A h K [.tmp 2]) (fun _ _ _ => False) (fun A h => resA Tryz.prog A h K [.tmp 2]) (aargs [k0_1] 0) h = t76 Tryz.prog k0_1 h K := by kernel_rfl
theorem c76 (k0_1 : Value) (h : Heap) (K : Value -> Heap -> Prop) (H : t76 Tryz.prog k0_1 h K) : callM Tryz.prog 76 #[k0_1] h K :=
  callM_of_wpA mixed (fn := Tryz.f76) Tryz.func76 (c := bodyOf Tryz.f76) rfl (of_decide_eq_true (by kernel_rfl)) (anOf []) 5 6 (by kernel_rfl) rfl [.tmp 2] (by kernel_rfl) (args := [k0_1]) (by rw [e76]; exact H)
def t77 (P : Program) (list0_1 : Value) (h : Heap) (K : Value -> Heap -> Prop) : Prop :=
 pop P (lenS 33 3 list0_1) fun s7 =>
 pop P (binE .eql 3 (.tmp 7) (.const (.int .i64 0)) s7 (.int .i64 0)) fun s8 =>
 condM s8
 (K (Value.string { data := #[45] }) h)
 (eop P (Instr.buildSlice 99 0 #[]) h fun s9 h1 =>
 pop P (lenS 33 3 list0_1) fun s11 =>
 ∃ (I1 : List Value -> Heap -> Prop) (μ_1 : List Value -> Heap -> Nat), I1 [s9, (.int .i64 0)] h1 /\
 ∀ (junk1 : Nat -> Value) (words3_1 : Value) (s12 : Value) (h2 : Heap), I1 [words3_1, s12] h2 ->
 pop P (binA .lss 3 s12 s11) fun s13 =>
 condM s13
 (pop P (Instr.indexAt 33 list0_1 s12) fun s14 =>
 rop P (Instr.loadAt 3 s14) h2 fun s15 =>
 callM P 125 #[s15] h2 fun s18 h3 =>
 eop P (Instr.buildSlice 99 1 #[(0, s18)]) h3 fun s19 h4 =>
 eop P (appS 99 99 99 words3_1 s19) h4 fun s20 h5 =>
 pop P (binA .add 3 s12 (.int .i64 1)) fun s21 =>
 I1 [s20, s21] h5 /\ μ_1 [s20, s21] h5 < μ_1 [words3_1, s12] h2)
 (callM P 78 #[words3_1, (Value.string { data := #[44] })] h2 fun s23 h6 =>
 K s23 h6))
theorem e77 (list0_1 : Value) (h : Heap) (K : Value -> Heap -> Prop) : wpA Tryz.prog 24 (anOf [(122, [3, 12])]) (bodyOf Tryz.f77) 1 (fun A h => resA Tryz.prog A h K [.tmp 2]) (fun _ _ _ => False) (fun A h => resA Tryz.prog A h K [.tmp 2]) (aargs [list0_1] 0) h = t77 Tryz.prog list0_1 h K := by kernel_rfl
theorem c77 (list0_1 : Value) (h : Heap) (K : Value -> Heap -> Prop) (H : t77 Tryz.prog list0_1 h K) : callM Tryz.prog 77 #[list0_1] h K :=
  callM_of_wpA mixed (fn := Tryz.f77) Tryz.func77 (c := bodyOf Tryz.f77) rfl (of_decide_eq_true (by kernel_rfl)) (anOf [(122, [3, 12])]) 23 24 (by kernel_rfl) rfl [.tmp 2] (by kernel_rfl) (args := [list0_1]) (by rw [e77]; exact H)
def t79 (P : Program) (l0_1 : Value) (lo1_1 : Value) (hi2_1 : Value) (h : Heap) (K : Value -> Heap -> Prop) : Prop :=
 pop P (lenS 33 3 l0_1) fun s10 =>
 ∃ (I1 : List Value -> Heap -> Prop) (μ_1 : List Value -> Heap -> Nat), I1 [(.int .i64 0)] h /\
 ∀ (junk1 : Nat -> Value) (s11 : Value) (h1 : Heap), I1 [s11] h1 ->
 pop P (binA .lss 3 s11 s10) fun s12 =>
 condM s12
 (pop P (Instr.indexAt 33 l0_1 s11) fun s13 =>
 rop P (Instr.loadAt 3 s13) h1 fun s14 =>
 callM P 74 #[s14, lo1_1, hi2_1] h1 fun s18 h2 =>
 pop P (Op.unary .not s18) fun s19 =>
 condM s19
 (K (Value.bool false) h2)
 (pop P (binA .add 3 s11 (.int .i64 1)) fun s20 =>
 I1 [s20] h2 /\ μ_1 [s20] h2 < μ_1 [s11] h1))
 (K (Value.bool true) h1)
theorem e79 (l0_1 : Value) (lo1_1 : Value) (hi2_1 : Value) (h : Heap) (K : Value -> Heap -> Prop) : wpA Tryz.prog 21 (anOf [(26, [11])]) (bodyOf Tryz.f79) 1 (fun A h => resA Tryz.prog A h K [.tmp 6]) (fun _ _ _ => False) (fun A h => resA Tryz.prog A h K [.tmp 6]) (aargs [l0_1, lo1_1, hi2_1] 0) h = t79 Tryz.prog l0_1 lo1_1 hi2_1 h K := by kernel_rfl
theorem c79 (l0_1 : Value) (lo1_1 : Value) (hi2_1 : Value) (h : Heap) (K : Value -> Heap -> Prop) (H : t79 Tryz.prog l0_1 lo1_1 hi2_1 h K) : callM Tryz.prog 79 #[l0_1, lo1_1, hi2_1] h K :=
  callM_of_wpA mixed (fn := Tryz.f79) Tryz.func79 (c := bodyOf Tryz.f79) rfl (of_decide_eq_true (by kernel_rfl)) (anOf [(26, [11])]) 18 21 (by kernel_rfl) rfl [.tmp 6] (by kernel_rfl) (args := [l0_1, lo1_1, hi2_1]) (by rw [e79]; exact H)
def t80 (P : Program) (n0_1 : Value) (h : Heap) (K : Value -> Heap -> Prop) : Prop :=
 pop P (binA .lss 3 n0_1 (.int .i64 10)) fun s4 =>
 condM s4
 (pop P (binA .add 3 (.int .i64 48) n0_1) fun s6 =>
 rop P (convert 3 5 s6) h fun s7 =>
 eop P (Instr.buildSlice 22 1 #[(0, s7)]) h fun s8 h1 =>
 rop P (convert 22 9 s8) h1 fun s9 =>
 K s9 h1)
 (pop P (binA .quo 3 n0_1 (.int .i64 10)) fun s11 =>
 pop P (binA .rem 3 n0_1 (.int .i64 10)) fun s14 =>
 pop P (binA .add 3 (.int .i64 48) s14) fun s15 =>
 rop P (convert 3 5 s15) h fun s16 =>
 (callM P 80 #[s11] h fun s12 h2 =>
 (∀ w : World, w.heap = h2 -> (convert 3 5 s15).run P w = .ok s16 w) /\
 eop P (Instr.buildSlice 22 1 #[(0, s16)]) h2 fun s17 h3 =>
 rop P (convert 22 9 s17) h3 fun s18 =>
 pop P (binA .add 9 s12 s18) fun s19 =>
 K s19 h3) /\
 (eop P (Instr.buildSlice 22 1 #[(0, s16)]) h fun s17b h4 =>
 rop P (convert 22 9 s17b) h4 fun s18b =>
 callM P 80 #[s11] h4 fun s12b h5 =>
 (∀ w : World, w.heap = h5 -> (convert 22 9 s17b).run P w = .ok s18b w) /\
 pop P (binA .add 9 s12b s18b) fun s19b =>
 K s19b h5))
theorem e80 (n0_1 : Value) (h : Heap) (K : Value -> Heap -> Prop) : wpA Tryz.prog 20 (anOf []) (bodyOf Tryz.f80) 1 (fun A h => resA Tryz.prog A h K [.tmp 2]) (fun _ _ _ => False) (fun A h => resA Tryz.prog A h K [.tmp 2]) (aargs [n0_1] 0) h = t80 Tryz.prog n0_1 h K := by kernel_rfl
theorem c80 (n0_1 : Value) (h : Heap) (K : Value -> Heap -> Prop) (H : t80 Tryz.prog n0_1 h K) : callM Tryz.prog 80 #[n0_1] h K :=
  callM_of_wpA mixed (fn := Tryz.f80) Tryz.func80 (c := bodyOf Tryz.f80) rfl (of_decide_eq_true (by kernel_rfl)) (anOf []) 19 20 (by kernel_rfl) rfl [.tmp 2] (by kernel_rfl) (args := [n0_1]) (by rw [e80]; exact H)
def t81 (P : Program) (c0_1 : Value) (h : Heap) (K : Value -> Heap -> Prop) : Prop :=
 eop P (Instr.alloc 26 true (.tuple #[])) h fun s2 h1 =>
 callM P 68 #[c0_1, (.int .i64 6)] h1 fun s10 h2 =>
 condM s10
 (callM P 121 #[c0_1] h2 fun s12 h3 =>
 uop P (Instr.storeAt 26 s2 s12) h3 fun q1 h4 =>
 rop P (Instr.loadAt 26 s2) h4 fun r_1 =>
 K r_1 h4)
 (callM P 70 #[c0_1, (.int .i64 5)] h2 fun s14 h5 =>
 pop P (binA .add 3 (.int .i64 1) s14) fun s15 =>
 callM P 68 #[c0_1, (.int .i64 2)] h5 fun s18 h6 =>
 callM P 129 #[s15, s18] h6 fun s19 h7 =>
 eop P (Instr.alloc 26 true (.tuple #[])) h7 fun g4_1 h8 =>
 uop P (Instr.storeAt 26 g4_1 s19) h8 fun q2 h9 =>
 callM P 70 #[c0_1, (.int .i64 3)] h9 fun s21 h10 =>
 ∃ (I1 : List Value -> Heap -> Prop) (μ_1 : List Value -> Heap -> Nat), I1 [s21] h10 /\
 ∀ (junk1 : Nat -> Value) (k5_1 : Value) (h11 : Heap), I1 [k5_1] h11 ->
 pop P (binA .gtr 3 k5_1 (.int .i64 0)) fun s23 =>
 condM s23
 (callM P 130 #[c0_1, s15] h11 fun s28 h12 =>
 callM P 70 #[c0_1, s15] h12 fun s31 h13 =>
 pop P (binA .add 3 (.int .i64 1) s31) fun s32 =>
 ∃ (I2 : List Value -> Heap -> Prop) (μ_2 : List Value -> Heap -> Nat), I2 [(.int .i64 0)] h13 /\
 ∀ (junk2 : Nat -> Value) (i8_1 : Value) (h14 : Heap), I2 [i8_1] h14 ->
 pop P (binA .lss 3 i8_1 s32) fun s35 =>
 condM s35
 (pop P (Instr.fieldAt 26 g4_1 0) fun s38 =>
 rop P (Instr.loadAt 24 s38) h14 fun s39 =>
 pop P (Instr.indexAt 33 s28 i8_1) fun s42 =>
 rop P (Instr.loadAt 3 s42) h14 fun s43 =>
 pop P (Instr.fieldAt 26 g4_1 0) fun s44 =>
 rop P (Instr.loadAt 24 s44) h14 fun s45 =>
 pop P (Instr.indexAt 33 s28 i8_1) fun s48 =>
 rop P (Instr.loadAt 3 s48) h14 fun s49 =>
 pop P (Instr.indexAt 24 s45 s49) fun s50 =>
 rop P (Instr.loadAt 33 s50) h14 fun s51 =>
 pop P (binA .add 3 i8_1 (.int .i64 1)) fun s54 =>
 pop P (binA .rem 3 s54 s32) fun s56 =>
 pop P (Instr.indexAt 33 s28 s56) fun s57 =>
 rop P (Instr.loadAt 3 s57) h14 fun s58 =>
 eop P (Instr.buildSlice 33 1 #[(0, s58)]) h14 fun s59 h15 =>
 (∀ w : World, w.heap = h15 -> (Instr.loadAt 33 s50).run P w = .ok s51 w) /\
 (∀ w : World, w.heap = h15 -> (Instr.loadAt 3 s48).run P w = .ok s49 w) /\
 (∀ w : World, w.heap = h15 -> (Instr.loadAt 24 s44).run P w = .ok s45 w) /\
 (∀ w : World, w.heap = h15 -> (Instr.loadAt 3 s42).run P w = .ok s43 w) /\
 (∀ w : World, w.heap = h15 -> (Instr.loadAt 24 s38).run P w = .ok s39 w) /\
 eop P (appS 33 33 33 s51 s59) h15 fun s60 h16 =>
 (∀ w : World, w.heap = h16 -> (Instr.loadAt 3 s48).run P w = .ok s49 w) /\
 (∀ w : World, w.heap = h16 -> (Instr.loadAt 24 s44).run P w = .ok s45 w) /\
 (∀ w : World, w.heap = h16 -> (Instr.loadAt 3 s42).run P w = .ok s43 w) /\
 (∀ w : World, w.heap = h16 -> (Instr.loadAt 24 s38).run P w = .ok s39 w) /\
 pop P (Instr.indexAt 24 s39 s43) fun s61 =>
 uop P (Instr.storeAt 33 s61 s60) h16 fun q3 h17 =>
 pop P (binA .add 3 i8_1 (.int .i64 1)) fun s37 =>
 I2 [s37] h17 /\ μ_2 [s37] h17 < μ_2 [i8_1] h14)
 (pop P (binA .sub 3 k5_1 (.int .i64 1)) fun s25 =>
 I1 [s25] h14 /\ μ_1 [s25] h14 < μ_1 [k5_1] h11))
 (rop P (Instr.loadAt 26 g4_1) h11 fun s62 =>
 uop P (Instr.storeAt 26 s2 s62) h11 fun q4 h18 =>
 rop P (Instr.loadAt 26 s2) h18 fun r_2 =>
 K r_2 h18))
theorem e81 (c0_1 : Value) (h : Heap) (K : Value -> Heap -> Prop) : wpA Tryz.prog 63 (anOf [(250, [5]), (64078, [8])]) (bodyOf Tryz.f81) 1 (fun A h => resA Tryz.prog A h K [.cell 2 26]) (fun _ _ _ => False) (fun A h => resA Tryz.prog A h K [.cell 2 26]) (aargs [c0_1] 0) h = t81 Tryz.prog c0_1 h K := by kernel_rfl
theorem c81 (c0_1 : Value) (h : Heap) (K : Value -> Heap -> Prop) (H : t81 Tryz.prog c0_1 h K) : callM Tryz.prog 81 #[c0_1] h K :=
  callM_of_wpA mixed (fn := Tryz.f81) Tryz.func81 (c := bodyOf Tryz.f81) rfl (of_decide_eq_true (by kernel_rfl)) (anOf [(250, [5]), (64078, [8])]) 62 63 (by kernel_rfl) rfl [.cell 2 26] (by kernel_rfl) (args := [c0_1]) (by rw [e81]; exact H)
def t82 (P : Program) (g0_1 : Value) (h : Heap) (K : Value -> Heap -> Prop) : Prop :=
 eop P (Instr.box 26 g0_1) h fun g1_1 h1 =>
 pop P (Instr.fieldAt 26 g1_1 0) fun s6 =>
 rop P (Instr.loadAt 24 s6) h1 fun s7 =>
 pop P (lenS 24 3 s7) fun s8 =>
 callM P 74 #[s8, (.int .i64 1), (.int .i64 8)] h1 fun s10 h2 =>
 pop P (Op.unary .not s10) fun s11 =>
 condM s11
 (K (Value.bool false) h2)
 (pop P (Instr.fieldAt 26 g1_1 0) fun s12 =>
 rop P (Instr.loadAt 24 s12) h2 fun s13 =>
 pop P (lenS 24 3 s13) fun s14 =>
 ∃ (I1 : List Value -> Heap -> Prop) (μ_1 : List Value -> Heap -> Nat), I1 [(.int .i64 0)] h2 /\
 ∀ (junk1 : Nat -> Value) (s15 : Value) (h3 : Heap), I1 [s15] h3 ->
 pop P (binA .lss 3 s15 s14) fun s16 =>
 condM s16
 (pop P (Instr.indexAt 24 s13 s15) fun s17 =>
 rop P (Instr.loadAt 33 s17) h3 fun s18 =>
 pop P (lenS 33 3 s18) fun s20 =>
 pop P (binA .gtr 3 s20 (.int .i64 5)) fun s21 =>
 guardM (asG s21 false) false (fun k_1 => k_1 s18 h3) h3 fun s23 h4 =>
 guardM (asG s21 false) false (fun k_2 => k_2 s8 h4) h4 fun s24 h5 =>
 guardM (asG s21 false) false (fun k_3 => pop P (binA .sub 3 s24 (.int .i64 1)) fun s25 =>
 k_3 s25 h5) h5 fun s25b h6 =>
 guardM (asG s21 false) false (fun k_4 => callM P 79 #[s23, (.int .i64 0), s25b] h6 fun s26 h7 =>
 k_4 s26 h7) h6 fun s26b h8 =>
 guardM (asG s21 false) false (fun k_5 => pop P (Op.unary .not s26b) fun s27 =>
 k_5 s27 h8) h8 fun s27b h9 =>
 pop P (pickS s21 (Value.bool true) s27b) fun s28 =>
 condM s28
 (K (Value.bool false) h9)
 (pop P (binA .add 3 s15 (.int .i64 1)) fun s29 =>
 I1 [s29] h9 /\ μ_1 [s29] h9 < μ_1 [s15] h3))
 (K (Value.bool true) h3))
theorem e82 (g0_1 : Value) (h : Heap) (K : Value -> Heap -> Prop) : wpA Tryz.prog 30 (anOf [(122, [15])]) (bodyOf Tryz.f82) 1 (fun A h => resA Tryz.prog A h K [.tmp 2]) (fun _ _ _ => False) (fun A h => resA Tryz.prog A h K [.tmp 2]) (aargs [g0_1] 0) h = t82 Tryz.prog g0_1 h K := by kernel_rfl
theorem c82 (g0_1 : Value) (h : Heap) (K : Value -> Heap -> Prop) (H : t82 Tryz.prog g0_1 h K) : callM Tryz.prog 82 #[g0_1] h K :=
  callM_of_wpA mixed (fn := Tryz.f82) Tryz.func82 (c := bodyOf Tryz.f82) rfl (of_decide_eq_true (by kernel_rfl)) (anOf [(122, [15])]) 29 30 (by kernel_rfl) rfl [.tmp 2] (by kernel_rfl) (args := [g0_1]) (by rw [e82]; exact H)
def t83 (P : Program) (c0_1 : Value) (g1_1 : Value) (h : Heap) (K : Value -> Heap -> Prop) : Prop :=
 eop P (Instr.box 26 g1_1) h fun g3_1 h1 =>
 eop P (Instr.alloc 54 true (.tuple #[])) h1 fun s4 h2 =>
 pop P (Instr.fieldAt 26 g3_1 0) fun s10 =>
 rop P (Instr.loadAt 24 s10) h2 fun s11 =>
 pop P (lenS 24 3 s11) fun s12 =>
 callM P 70 #[c0_1, s12] h2 fun s13 h3 =>
 pop P (Instr.build 54 #[(1, s13)]) fun s14 =>
 eop P (Instr.alloc 54 true (.tuple #[])) h3 fun w5_1 h4 =>
 uop P (Instr.storeAt 54 w5_1 s14) h4 fun q1 h5 =>
 pop P (Instr.fieldAt 26 g3_1 0) fun s15 =>
 rop P (Instr.loadAt 24 s15) h5 fun s16 =>
 pop P (lenS 24 3 s16) fun s17 =>
 ∃ (I1 : List Value -> Heap -> Prop) (μ_1 : List Value -> Heap -> Nat), I1 [(.int .i64 0)] h5 /\
 ∀ (junk1 : Nat -> Value) (s18 : Value) (h6 : Heap), I1 [s18] h6 ->
 pop P (binA .lss 3 s18 s17) fun s19 =>
 condM s19
 (pop P (Instr.indexAt 24 s16 s18) fun s20 =>
 rop P (Instr.loadAt 33 s20) h6 fun s21 =>
 ∃ J1 : List Value -> Heap -> Prop, (pop P (lenS 33 3 s21) fun s23 =>
 pop P (binA .gtr 3 s23 (.int .i64 0)) fun s24 =>
 condM s24
 (pop P (lenS 33 3 s21) fun s27 =>
 callM P 70 #[c0_1, s27] h6 fun s28 h7 =>
 J1 [s28] h7)
 (J1 [(.int .i64 0)] h6)) /\
 ∀ (junk2 : Nat -> Value) (k8_1 : Value) (h8 : Heap), J1 [k8_1] h8 ->
 pop P (Instr.fieldAt 54 w5_1 0) fun s29 =>
 rop P (Instr.loadAt 33 s29) h8 fun s30 =>
 eop P (Instr.buildSlice 33 1 #[(0, k8_1)]) h8 fun s32 h9 =>
 eop P (appS 33 33 33 s30 s32) h9 fun s33 h10 =>
 pop P (Instr.fieldAt 54 w5_1 0) fun s34 =>
 uop P (Instr.storeAt 33 s34 s33) h10 fun q2 h11 =>
 pop P (binA .add 3 s18 (.int .i64 1)) fun s35 =>
 I1 [s35] h11 /\ μ_1 [s35] h11 < μ_1 [s18] h6)
 (rop P (Instr.loadAt 54 w5_1) h6 fun s36 =>
 uop P (Instr.storeAt 54 s4 s36) h6 fun q3 h12 =>
 rop P (Instr.loadAt 54 s4) h12 fun r_1 =>
 K r_1 h12)
theorem e83 (c0_1 : Value) (g1_1 : Value) (h : Heap) (K : Value -> Heap -> Prop) : wpA Tryz.prog 37 (anOf [(58, [18]), (7475, [8])]) (bodyOf Tryz.f83) 1 (fun A h => resA Tryz.prog A h K [.cell 4 54]) (fun _ _ _ => False) (fun A h => resA Tryz.prog A h K [.cell 4 54]) (aargs [c0_1, g1_1] 0) h = t83 Tryz.prog c0_1 g1_1 h K := by kernel_rfl
theorem c83 (c0_1 : Value) (g1_1 : Value) (h : Heap) (K : Value -> Heap -> Prop) (H : t83 Tryz.prog c0_1 g1_1 h K) : callM Tryz.prog 83 #[c0_1, g1_1] h K :=
  callM_of_wpA mixed (fn := Tryz.f83) Tryz.func83 (c := bodyOf Tryz.f83) rfl (of_decide_eq_true (by kernel_rfl)) (anOf [(58, [18]), (7475, [8])]) 35 37 (by kernel_rfl) rfl [.cell 4 54] (by kernel_rfl) (args := [c0_1, g1_1]) (by rw [e83]; exact H)
def t84 (P : Program) (g0_1 : Value) (w1_1 : Value) (h : Heap) (K : Value -> Heap -> Prop) : Prop :=
 eop P (Instr.box 26 g0_1) h fun g2_1 h1 =>
 eop P (Instr.box 54 w1_1) h1 fun w3_1 h2 =>
 rop P (Instr.loadAt 26 g2_1) h2 fun s7 =>
 pop P (Instr.fieldAt 54 w3_1 1) fun s8 =>
 rop P (Instr.loadAt 3 s8) h2 fun s9 =>
 eop P (Instr.buildSlice 33 1 #[(0, s9)]) h2 fun s10 h3 =>
 callM P 54 #[s7, s10] h3 fun s11 h4 =>
 pop P (Op.unary .not s11) fun s12 =>
 guardM (asG s12 false) false (fun k_1 => pop P (Instr.fieldAt 54 w3_1 0) fun s14 =>
 k_1 s14 h4) h4 fun s14b h5 =>
 guardM (asG s12 false) false (fun k_2 => rop P (Instr.loadAt 33 s14b) h5 fun s15 =>
 k_2 s15 h5) h5 fun s15b h6 =>
 guardM (asG s12 false) false (fun k_3 => pop P (lenS 33 3 s15b) fun s16 =>
 k_3 s16 h6) h6 fun s16b h7 =>
 guardM (asG s12 false) false (fun k_4 => pop P (Instr.fieldAt 26 g2_1 0) fun s17 =>
 k_4 s17 h7) h7 fun s17b h8 =>
 guardM (asG s12 false) false (fun k_5 => rop P (Instr.loadAt 24 s17b) h8 fun s18 =>
 k_5 s18 h8) h8 fun s18b h9 =>
 guardM (asG s12 false) false (fun k_6 => pop P (lenS 24 3 s18b) fun s19 =>
 k_6 s19 h9) h9 fun s19b h10 =>
 guardM (asG s12 false) false (fun k_7 => pop P (binE .neq 3 (.tmp 16) (.tmp 19) s16b s19b) fun s20 =>
 k_7 s20 h10) h10 fun s20b h11 =>
 pop P (pickS s12 (Value.bool true) s20b) fun s21 =>
 condM s21
 (K (Value.bool false) h11)
 (pop P (Instr.fieldAt 54 w3_1 0) fun s22 =>
 rop P (Instr.loadAt 33 s22) h11 fun s23 =>
 pop P (lenS 33 3 s23) fun s24 =>
 ∃ (I1 : List Value -> Heap -> Prop) (μ_1 : List Value -> Heap -> Nat), I1 [(.int .i64 0)] h11 /\
 ∀ (junk1 : Nat -> Value) (s25 : Value) (h12 : Heap), I1 [s25] h12 ->
 pop P (binA .lss 3 s25 s24) fun s26 =>
 condM s26
 (pop P (Instr.indexAt 33 s23 s25) fun s28 =>
 rop P (Instr.loadAt 3 s28) h12 fun s29 =>
 pop P (Instr.fieldAt 26 g2_1 0) fun s31 =>
 rop P (Instr.loadAt 24 s31) h12 fun s32 =>
 pop P (Instr.indexAt 24 s32 s25) fun s34 =>
 rop P (Instr.loadAt 33 s34) h12 fun s35 =>
 pop P (lenS 33 3 s35) fun s36 =>
 pop P (binA .sub 3 s36 (.int .i64 1)) fun s37 =>
 pop P (Builtin.max_ #[3, 3] 3 #[s37, (.int .i64 0)]) fun s38 =>
 callM P 72 #[s29, (.int .i64 0), s38] h12 fun s39 h13 =>
 pop P (Op.unary .not s39) fun s40 =>
 condM s40
 (K (Value.bool false) h13)
 (pop P (binA .add 3 s25 (.int .i64 1)) fun s41 =>
 I1 [s41] h13 /\ μ_1 [s41] h13 < μ_1 [s25] h12))
 (K (Value.bool true) h12))
theorem e84 (g0_1 : Value) (w1_1 : Value) (h : Heap) (K : Value -> Heap -> Prop) : wpA Tryz.prog 42 (anOf [(58, [25])]) (bodyOf Tryz.f84) 1 (fun A h => resA Tryz.prog A h K [.tmp 4]) (fun _ _ _ => False) (fun A h => resA Tryz.prog A h K [.tmp 4]) (aargs [g0_1, w1_1] 0) h = t84 Tryz.prog g0_1 w1_1 h K := by kernel_rfl
theorem c84 (g0_1 : Value) (w1_1 : Value) (h : Heap) (K : Value -> Heap -> Prop) (H : t84 Tryz.prog g0_1 w1_1 h K) : callM Tryz.prog 84 #[g0_1, w1_1] h K :=
  callM_of_wpA mixed (fn := Tryz.f84) Tryz.func84 (c := bodyOf Tryz.f84) rfl (of_decide_eq_true (by kernel_rfl)) (anOf [(58, [25])]) 40 42 (by kernel_rfl) rfl [.tmp 4] (by kernel_rfl) (args := [g0_1, w1_1]) (by rw [e84]; exact H)
def t94 (P : Program) (g0_1 : Value) (h : Heap) (K : Value -> Heap -> Prop) : Prop :=
 eop P (Instr.box 26 g0_1) h fun g1_1 h1 =>
 pop P (Instr.fieldAt 26 g1_1 0) fun s6 =>
 rop P (Instr.loadAt 24 s6) h1 fun s7 =>
 pop P (lenS 24 3 s7) fun s8 =>
 eop P (Instr.alloc 3 true (.tuple #[])) h1 fun n3_1 h2 =>
 uop P (Instr.storeAt 3 n3_1 s8) h2 fun q1 h3 =>
 rop P (Instr.loadAt 3 n3_1) h3 fun s9 =>
 callM P 72 #[s9, (.int .i64 1), (.int .i64 8)] h3 fun s10 h4 =>
 pop P (Op.unary .not s10) fun s11 =>
 condM s11
 (K (Value.bool false) h4)
 (pop P (Instr.fieldAt 26 g1_1 0) fun s12 =>
 rop P (Instr.loadAt 24 s12) h4 fun s13 =>
 pop P (lenS 24 3 s13) fun s14 =>
 ∃ (I1 : List Value -> Heap -> Prop) (μ_1 : List Value -> Heap -> Nat), I1 [(.int .i64 0)] h4 /\
 ∀ (junk1 : Nat -> Value) (s15 : Value) (h5 : Heap), I1 [s15] h5 ->
 pop P (binA .lss 3 s15 s14) fun s16 =>
 condM s16
 (pop P (Instr.indexAt 24 s13 s15) fun s17 =>
 rop P (Instr.loadAt 33 s17) h5 fun s18 =>
 pop P (lenS 33 3 s18) fun s20 =>
 pop P (binA .gtr 3 s20 (.int .i64 5)) fun s21 =>
 guardM (asG s21 false) false (fun k_1 => k_1 s18 h5) h5 fun s23 h6 =>
 guardM (asG s21 false) false (fun k_2 => pop P (Instr.makeFunc (Fn.func 134) #[] #[n3_1]) fun s24 =>
 k_2 s24 h6) h6 fun s24b h7 =>
 guardM (asG s21 false) false (fun k_3 => callM P 75 #[s23, s24b] h7 fun s25 h8 =>
 k_3 s25 h8) h7 fun s25b h9 =>
 pop P (pickS s21 (Value.bool true) s25b) fun s26 =>
 condM s26
 (K (Value.bool false) h9)
 (pop P (binA .add 3 s15 (.int .i64 1)) fun s27 =>
 I1 [s27] h9 /\ μ_1 [s27] h9 < μ_1 [s15] h5))
 (K (Value.bool true) h5))
theorem e94 (g0_1 : Value) (h : Heap) (K : Value -> Heap -> Prop) : wpA Tryz.prog 28 (anOf [(122, [15])]) (bodyOf Tryz.f94) 1 (fun A h => resA Tryz.prog A h K [.tmp 2]) (fun _ _ _ => False) (fun A h => resA Tryz.prog A h K [.tmp 2]) (aargs [g0_1] 0) h = t94 Tryz.prog g0_1 h K := by kernel_rfl
theorem c94 (g0_1 : Value) (h : Heap) (K : Value -> Heap -> Prop) (H : t94 Tryz.prog g0_1 h K) : callM Tryz.prog 94 #[g0_1] h K :=
  callM_of_wpA mixed (fn := Tryz.f94) Tryz.func94 (c := bodyOf Tryz.f94) rfl (of_decide_eq_true (by kernel_rfl)) (anOf [(122, [15])]) 27 28 (by kernel_rfl) rfl [.tmp 2] (by kernel_rfl) (args := [g0_1]) (by rw [e94]; exact H)
def t97 (P : Program) (slices0_1 : Value) (h : Heap) (K : Value -> Heap -> Prop) : Prop :=
 pop P (lenS 24 3 slices0_1) fun s10 =>
 ∃ (I1 : List Value -> Heap -> Prop) (μ_1 : List Value -> Heap -> Nat), I1 [(.int .i64 0), (.int .i64 0)] h /\
 ∀ (junk1 : Nat -> Value) (size3_1 : Value) (s11 : Value) (h1 : Heap), I1 [size3_1, s11] h1 ->
 pop P (binA .lss 3 s11 s10) fun s12 =>
 condM s12
 (pop P (Instr.indexAt 24 slices0_1 s11) fun s13 =>
 rop P (Instr.loadAt 33 s13) h1 fun s14 =>
 pop P (lenS 33 3 s14) fun s17 =>
 pop P (binA .add 3 size3_1 s17) fun s18 =>
 pop P (binA .lss 3 s18 (.int .i64 0)) fun s20 =>
 condM s20
 (pop P (Instr.makeInterface 9 (Value.string { data := #[108, 101, 110, 32, 111, 117, 116, 32, 111, 102, 32, 114, 97, 110, 103, 101] })) fun s21 =>
 False)
 (pop P (binA .add 3 s11 (.int .i64 1)) fun s22 =>
 I1 [s18, s22] h1 /\ μ_1 [s18, s22] h1 < μ_1 [size3_1, s11] h1))
 (callM P 137 #[(Value.slice none 0 0), size3_1] h1 fun s24 h2 =>
 pop P (lenS 24 3 slices0_1) fun s26 =>
 ∃ (I2 : List Value -> Heap -> Prop) (μ_2 : List Value -> Heap -> Nat), I2 [s24, (.int .i64 0)] h2 /\
 ∀ (junk2 : Nat -> Value) (newslice6_1 : Value) (s27 : Value) (h3 : Heap), I2 [newslice6_1, s27] h3 ->
 pop P (binA .lss 3 s27 s26) fun s28 =>
 condM s28
 (pop P (Instr.indexAt 24 slices0_1 s27) fun s29 =>
 rop P (Instr.loadAt 33 s29) h3 fun s30 =>
 eop P (appS 33 33 33 newslice6_1 s30) h3 fun s33 h4 =>
 pop P (binA .add 3 s27 (.int .i64 1)) fun s34 =>
 I2 [s33, s34] h4 /\ μ_2 [s33, s34] h4 < μ_2 [newslice6_1, s27] h3)
 (K newslice6_1 h3))
theorem e97 (slices0_1 : Value) (h : Heap) (K : Value -> Heap -> Prop) : wpA Tryz.prog 36 (anOf [(58, [3, 11]), (250, [6, 27])]) (bodyOf Tryz.f97) 1 (fun A h => resA Tryz.prog A h K [.tmp 2]) (fun _ _ _ => False) (fun A h => resA Tryz.prog A h K [.tmp 2]) (aargs [slices0_1] 0) h = t97 Tryz.prog slices0_1 h K := by kernel_rfl
theorem c97 (slices0_1 : Value) (h : Heap) (K : Value -> Heap -> Prop) (H : t97 Tryz.prog slices0_1 h K) : callM Tryz.prog 97 #[slices0_1] h K :=
  callM_of_wpA mixed (fn := Tryz.f97) Tryz.func97 (c := bodyOf Tryz.f97) rfl (of_decide_eq_true (by kernel_rfl)) (anOf [(58, [3, 11]), (250, [6, 27])]) 35 36 (by kernel_rfl) rfl [.tmp 2] (by kernel_rfl) (args := [slices0_1]) (by rw [e97]; exact H)
def t111 (P : Program) (k0_1 : Value) (s1 : Value) (s2 : Value) (h : Heap) (K : Value -> Heap -> Prop) : Prop :=
 pop P (Instr.fieldAt 26 s1 0) fun s6 =>
 rop P (Instr.loadAt 24 s6) h fun s7 =>
 rop P (Instr.loadAt 3 s2) h fun s8 =>
 pop P (Instr.indexAt 24 s7 s8) fun s9 =>
 rop P (Instr.loadAt 33 s9) h fun s10 =>
 pop P (lenS 33 3 s10) fun s11 =>
 pop P (binA .sub 3 s11 (.int .i64 1)) fun s12 =>
 callM P 72 #[k0_1, (.int .i64 0), s12] h fun s13 h1 =>
 pop P (Op.unary .not s13) fun s14 =>
 K s14 h1
theorem e111 (k0_1 : Value) (s1 : Value) (s2 : Value) (h : Heap) (K : Value -> Heap -> Prop) : wpA Tryz.prog 15 (anOf []) (bodyOf Tryz.f111) 1 (fun A h => resA Tryz.prog A h K [.tmp 4]) (fun _ _ _ => False) (fun A h => resA Tryz.prog A h K [.tmp 4]) (aargs [k0_1, s1, s2] 0) h = t111 Tryz.prog k0_1 s1 s2 h K := by kernel_rfl
theorem c111 (k0_1 : Value) (s1 : Value) (s2 : Value) (h : Heap) (K : Value -> Heap -> Prop) (H : t111 Tryz.prog k0_1 s1 s2 h K) : callM Tryz.prog 111 #[k0_1, s1, s2] h K :=
  callM_of_wpA mixed (fn := Tryz.f111) Tryz.func111 (c := bodyOf Tryz.f111) rfl (of_decide_eq_true (by kernel_rfl)) (anOf []) 12 15 (by kernel_rfl) rfl [.tmp 4] (by kernel_rfl) (args := [k0_1, s1, s2]) (by rw [e111]; exact H)
def t112 (P : Program) (p0_1 : Value) (s1 : Value) (h : Heap) (K : Value -> Heap -> Prop) : Prop :=
 pop P (Instr.fieldAt 26 s1 0) fun s5 =>
 rop P (Instr.loadAt 24 s5) h fun s6 =>
 pop P (lenS 24 3 s6) fun s7 =>
 pop P (binA .sub 3 s7 (.int .i64 1)) fun s8 =>
 callM P 72 #[p0_1, (.int .i64 0), s8] h fun s9 h1 =>
 pop P (Op.unary .not s9) fun s10 =>
 K s10 h1
theorem e112 (p0_1 : Value) (s1 : Value) (h : Heap) (K : Value -> Heap -> Prop) : wpA Tryz.prog 11 (anOf []) (bodyOf Tryz.f112) 1 (fun A h => resA Tryz.prog A h K [.tmp 3]) (fun _ _ _ => False) (fun A h => resA Tryz.prog A h K [.tmp 3]) (aargs [p0_1, s1] 0) h = t112 Tryz.prog p0_1 s1 h K := by kernel_rfl
theorem c112 (p0_1 : Value) (s1 : Value) (h : Heap) (K : Value -> Heap -> Prop) (H : t112 Tryz.prog p0_1 s1 h K) : callM Tryz.prog 112 #[p0_1, s1] h K :=
  callM_of_wpA mixed (fn := Tryz.f112) Tryz.func112 (c := bodyOf Tryz.f112) rfl (of_decide_eq_true (by kernel_rfl)) (anOf []) 9 11 (by kernel_rfl) rfl [.tmp 3] (by kernel_rfl) (args := [p0_1, s1]) (by rw [e112]; exact H)
def t113 (P : Program) (g0_1 : Value) (sink1_1 : Value) (rotors2_1 : Value) (h : Heap) (K : Value -> Heap -> Prop) : Prop :=
 eop P (Instr.box 26 g0_1) h fun g3_1 h1 =>
 eop P (Instr.buildSlice 33 0 #[]) h1 fun s12 h2 =>
 pop P (Instr.fieldAt 26 g3_1 0) fun s13 =>
 rop P (Instr.loadAt 24 s13) h2 fun s14 =>
 pop P (lenS 24 3 s14) fun s15 =>
 ∃ (I1 : List Value -> Heap -> Prop) (μ_1 : List Value -> Heap -> Nat), I1 [s12, (.int .i64 0)] h2 /\
 ∀ (junk1 : Nat -> Value) (out8_1 : Value) (s16 : Value) (h3 : Heap), I1 [out8_1, s16] h3 ->
 pop P (binA .lss 3 s16 s15) fun s17 =>
 condM s17
 (∃ (I2 : List Value -> Heap -> Prop) (μ_2 : List Value -> Heap -> Nat), I2 [(.int .i64 0), s16] h3 /\
 ∀ (junk2 : Nat -> Value) (many10_1 : Value) (at11_1 : Value) (h4 : Heap), I2 [many10_1, at11_1] h4 ->
 pop P (binE .neq 3 (.tmp 20) (.tmp 21) at11_1 sink1_1) fun s22 =>
 condM s22
 (rop P (Instr.loadAt 26 g3_1) h4 fun s25 =>
 callM P 143 #[s25, rotors2_1, at11_1] h4 fun s28 h5 =>
 pop P (binA .lss 3 s28 (.int .i64 0)) fun s30 =>
 guardM (asG s30 false) false (fun k_1 => k_1 many10_1 h5) h5 fun s32 h6 =>
 guardM (asG s30 false) false (fun k_2 => pop P (Instr.fieldAt 26 g3_1 0) fun s33 =>
 k_2 s33 h6) h6 fun s33b h7 =>
 guardM (asG s30 false) false (fun k_3 => rop P (Instr.loadAt 24 s33b) h7 fun s34 =>
 k_3 s34 h7) h7 fun s34b h8 =>
 guardM (asG s30 false) false (fun k_4 => pop P (lenS 24 3 s34b) fun s35 =>
 k_4 s35 h8) h8 fun s35b h9 =>
 guardM (asG s30 false) false (fun k_5 => pop P (binA .gtr 3 s32 s35b) fun s36 =>
 k_5 s36 h9) h9 fun s36b h10 =>
 pop P (pickS s30 (Value.bool true) s36b) fun s37 =>
 condM s37
 (K (.tuple #[(Value.slice none 0 0), (Value.bool false)]) h10)
 (pop P (binA .add 3 many10_1 (.int .i64 1)) fun s24 =>
 I2 [s24, s28] h10 /\ μ_2 [s24, s28] h10 < μ_2 [many10_1, at11_1] h4))
 (eop P (Instr.buildSlice 33 1 #[(0, many10_1)]) h4 fun s40 h11 =>
 eop P (appS 33 33 33 out8_1 s40) h11 fun s41 h12 =>
 pop P (binA .add 3 s16 (.int .i64 1)) fun s42 =>
 I1 [s41, s42] h12 /\ μ_1 [s41, s42] h12 < μ_1 [out8_1, s16] h3))
 (K (.tuple #[out8_1, (Value.bool true)]) h3)
theorem e113 (g0_1 : Value) (sink1_1 : Value) (rotors2_1 : Value) (h : Heap) (K : Value -> Heap -> Prop) : wpA Tryz.prog 44 (anOf [(58, [8, 16]), (59802, [10, 11])]) (bodyOf Tryz.f113) 1 (fun A h => resA Tryz.prog A h K [.tmp 6, .tmp 7]) (fun _ _ _ => False) (fun A h => resA Tryz.prog A h K [.tmp 6, .tmp 7]) (aargs [g0_1, sink1_1, rotors2_1] 0) h = t113 Tryz.prog g0_1 sink1_1 rotors2_1 h K := by kernel_rfl
theorem c113 (g0_1 : Value) (sink1_1 : Value) (rotors2_1 : Value) (h : Heap) (K : Value -> Heap -> Prop) (H : t113 Tryz.prog g0_1 sink1_1 rotors2_1 h K) : callM Tryz.prog 113 #[g0_1, sink1_1, rotors2_1] h K :=
  callM_of_wpA mixed (fn := Tryz.f113) Tryz.func113 (c := bodyOf Tryz.f113) rfl (of_decide_eq_true (by kernel_rfl)) (anOf [(58, [8, 16]), (59802, [10, 11])]) 41 44 (by kernel_rfl) rfl [.tmp 6, .tmp 7] (by kernel_rfl) (args := [g0_1, sink1_1, rotors2_1]) (by rw [e113]; exact H)
def t114 (P : Program) (c0_1 : Value) (h : Heap) (K : Value -> Heap -> Prop) : Prop :=
 eop P (Instr.alloc 26 true (.tuple #[])) h fun s2 h1 =>
 callM P 121 #[c0_1] h1 fun s6 h2 =>
 eop P (Instr.alloc 26 true (.tuple #[])) h2 fun g4_1 h3 =>
 uop P (Instr.storeAt 26 g4_1 s6) h3 fun q1 h4 =>
 ∃ J1 : List Value -> Heap -> Prop, (callM P 68 #[c0_1, (.int .i64 3)] h4 fun s8 h5 =>
 condM s8
 (callM P 81 #[c0_1] h5 fun s10 h6 =>
 uop P (Instr.storeAt 26 g4_1 s10) h6 fun q2 h7 =>
 J1 [] h7)
 (J1 [] h5)) /\
 ∀ (junk1 : Nat -> Value) (h8 : Heap), J1 [] h8 ->
 rop P (Instr.loadAt 26 g4_1) h8 fun s11 =>
 rop P (Instr.loadAt 26 g4_1) h8 fun s13 =>
 callM P 61 #[c0_1, s13] h8 fun s14 h9 =>
 (∀ w : World, w.heap = h9 -> (Instr.loadAt 26 g4_1).run P w = .ok s11 w) /\
 uop P (Instr.storeAt 26 s2 s11) h9 fun q3 h10 =>
 rop P (Instr.loadAt 26 s2) h10 fun r_1 =>
 K (.tuple #[r_1, s14]) h10
theorem e114 (c0_1 : Value) (h : Heap) (K : Value -> Heap -> Prop) : wpA Tryz.prog 15 (anOf [(7, [])]) (bodyOf Tryz.f114) 1 (fun A h => resA Tryz.prog A h K [.cell 2 26, .tmp 3]) (fun _ _ _ => False) (fun A h => resA Tryz.prog A h K [.cell 2 26, .tmp 3]) (aargs [c0_1] 0) h = t114 Tryz.prog c0_1 h K := by kernel_rfl
theorem c114 (c0_1 : Value) (h : Heap) (K : Value -> Heap -> Prop) (H : t114 Tryz.prog c0_1 h K) : callM Tryz.prog 114 #[c0_1] h K :=
  callM_of_wpA mixed (fn := Tryz.f114) Tryz.func114 (c := bodyOf Tryz.f114) rfl (of_decide_eq_true (by kernel_rfl)) (anOf [(7, [])]) 14 15 (by kernel_rfl) rfl [.cell 2 26, .tmp 3] (by kernel_rfl) (args := [c0_1]) (by rw [e114]; exact H)
def t115 (P : Program) (s0_1 : Value) (v1_1 : Value) (h : Heap) (K : Value -> Heap -> Prop) : Prop :=
 pop P (lenS 33 3 s0_1) fun s7 =>
 ∃ (I1 : List Value -> Heap -> Prop) (μ_1 : List Value -> Heap -> Nat), I1 [(.int .i64 0)] h /\
 ∀ (junk1 : Nat -> Value) (s8 : Value) (h1 : Heap), I1 [s8] h1 ->
 pop P (binA .lss 3 s8 s7) fun s9 =>
 condM s9
 (pop P (Instr.indexAt 33 s0_1 s8) fun s14 =>
 rop P (Instr.loadAt 3 s14) h1 fun s15 =>
 pop P (binE .eql 3 (.tmp 11) (.tmp 15) v1_1 s15) fun s16 =>
 condM s16
 (K s8 h1)
 (pop P (binA .add 3 s8 (.int .i64 1)) fun s18 =>
 I1 [s18] h1 /\ μ_1 [s18] h1 < μ_1 [s8] h1))
 (K (.int .i64 (-1)) h1)
theorem e115 (s0_1 : Value) (v1_1 : Value) (h : Heap) (K : Value -> Heap -> Prop) : wpA Tryz.prog 19 (anOf [(26, [8])]) (bodyOf Tryz.f115) 1 (fun A h => resA Tryz.prog A h K [.tmp 4]) (fun _ _ _ => False) (fun A h => resA Tryz.prog A h K [.tmp 4]) (aargs [s0_1, v1_1] 0) h = t115 Tryz.prog s0_1 v1_1 h K := by kernel_rfl
theorem c115 (s0_1 : Value) (v1_1 : Value) (h : Heap) (K : Value -> Heap -> Prop) (H : t115 Tryz.prog s0_1 v1_1 h K) : callM Tryz.prog 115 #[s0_1, v1_1] h K :=
  callM_of_wpA mixed (fn := Tryz.f115) Tryz.func115 (c := bodyOf Tryz.f115) rfl (of_decide_eq_true (by kernel_rfl)) (anOf [(26, [8])]) 17 19 (by kernel_rfl) rfl [.tmp 4] (by kernel_rfl) (args := [s0_1, v1_1]) (by rw [e115]; exact H)
def t116 (P : Program) (x0_1 : Value) (h : Heap) (K : Value -> Heap -> Prop) : Prop :=
 ∃ J1 : List Value -> Heap -> Prop, (pop P (lenS 33 3 x0_1) fun s6 =>
 pop P (binA .lss 3 s6 (.int .i64 1)) fun s7 =>
 condM s7
 (pop P (Instr.makeInterface 9 (Value.string { data := #[115, 108, 105, 99, 101, 115, 46, 77, 105, 110, 58, 32, 101, 109, 112, 116, 121, 32, 108, 105, 115, 116] })) fun s8 =>
 False)
 (J1 [] h)) /\
 ∀ (junk1 : Nat -> Value) (h1 : Heap), J1 [] h1 ->
 pop P (Instr.indexAt 33 x0_1 (.int .i64 0)) fun s10 =>
 rop P (Instr.loadAt 3 s10) h1 fun s11 =>
 ∃ (I1 : List Value -> Heap -> Prop) (μ_1 : List Value -> Heap -> Nat), I1 [s11, (.int .i64 1)] h1 /\
 ∀ (junk2 : Nat -> Value) (m3_1 : Value) (i4_1 : Value) (h2 : Heap), I1 [m3_1, i4_1] h2 ->
 pop P (lenS 33 3 x0_1) fun s14 =>
 pop P (binA .lss 3 i4_1 s14) fun s15 =>
 condM s15
 (pop P (Instr.indexAt 33 x0_1 i4_1) fun s21 =>
 rop P (Instr.loadAt 3 s21) h2 fun s22 =>
 pop P (Builtin.min_ #[3, 3] 3 #[m3_1, s22]) fun s23 =>
 pop P (binA .add 3 i4_1 (.int .i64 1)) fun s17 =>
 I1 [s23, s17] h2 /\ μ_1 [s23, s17] h2 < μ_1 [m3_1, i4_1] h2)
 (K m3_1 h2)
theorem e116 (x0_1 : Value) (h : Heap) (K : Value -> Heap -> Prop) : wpA Tryz.prog 25 (anOf [(3, []), (122, [3, 4])]) (bodyOf Tryz.f116) 1 (fun A h => resA Tryz.prog A h K [.tmp 2]) (fun _ _ _ => False) (fun A h => resA Tryz.prog A h K [.tmp 2]) (aargs [x0_1] 0) h = t116 Tryz.prog x0_1 h K := by kernel_rfl
theorem c116 (x0_1 : Value) (h : Heap) (K : Value -> Heap -> Prop) (H : t116 Tryz.prog x0_1 h K) : callM Tryz.prog 116 #[x0_1] h K :=
  callM_of_wpA mixed (fn := Tryz.f116) Tryz.func116 (c := bodyOf Tryz.f116) rfl (of_decide_eq_true (by kernel_rfl)) (anOf [(3, []), (122, [3, 4])]) 24 25 (by kernel_rfl) rfl [.tmp 2] (by kernel_rfl) (args := [x0_1]) (by rw [e116]; exact H)
def t117 (P : Program) (s0_1 : Value) (h : Heap) (K : Value -> Heap -> Prop) : Prop :=
 pop P (binE .eql 33 (.tmp 3) (.const (Value.slice none 0 0)) s0_1 (Value.slice none 0 0)) fun s4 =>
 condM s4
 (K (Value.slice none 0 0) h)
 (eop P (Instr.buildSlice 33 0 #[]) h fun s5 h1 =>
 eop P (appS 33 33 33 s5 s0_1) h1 fun s7 h2 =>
 K s7 h2)
theorem e117 (s0_1 : Value) (h : Heap) (K : Value -> Heap -> Prop) : wpA Tryz.prog 8 (anOf []) (bodyOf Tryz.f117) 1 (fun A h => resA Tryz.prog A h K [.tmp 2]) (fun _ _ _ => False) (fun A h => resA Tryz.prog A h K [.tmp 2]) (aargs [s0_1] 0) h = t117 Tryz.prog s0_1 h K := by kernel_rfl
theorem c117 (s0_1 : Value) (h : Heap) (K : Value -> Heap -> Prop) (H : t117 Tryz.prog s0_1 h K) : callM Tryz.prog 117 #[s0_1] h K :=
  callM_of_wpA mixed (fn := Tryz.f117) Tryz.func117 (c := bodyOf Tryz.f117) rfl (of_decide_eq_true (by kernel_rfl)) (anOf []) 7 8 (by kernel_rfl) rfl [.tmp 2] (by kernel_rfl) (args := [s0_1]) (by rw [e117]; exact H)
def t118 (P : Program) (g0_1 : Value) (s1_1 : Value) (p2_1 : Value) (h : Heap) (K : Value -> Heap -> Prop) : Prop :=
 eop P (Instr.box 26 g0_1) h fun g3_1 h1 =>
 eop P (Instr.box 28 s1_1) h1 fun s4_1 h2 =>
 pop P (Instr.fieldAt 28 s4_1 0) fun s7 =>
 rop P (Instr.loadAt 24 s7) h2 fun s8 =>
 pop P (Instr.indexAt 24 s8 p2_1) fun s10 =>
 rop P (Instr.loadAt 33 s10) h2 fun s11 =>
 pop P (lenS 33 3 s11) fun s12 =>
 pop P (binE .eql 3 (.tmp 12) (.const (.int .i64 0)) s12 (.int .i64 0)) fun s13 =>
 condM s13
 (K (.int .i64 (-1)) h2)
 (pop P (Instr.fieldAt 26 g3_1 0) fun s14 =>
 rop P (Instr.loadAt 24 s14) h2 fun s15 =>
 pop P (Instr.indexAt 24 s15 p2_1) fun s17 =>
 rop P (Instr.loadAt 33 s17) h2 fun s18 =>
 pop P (Instr.fieldAt 28 s4_1 0) fun s19 =>
 rop P (Instr.loadAt 24 s19) h2 fun s20 =>
 pop P (Instr.indexAt 24 s20 p2_1) fun s22 =>
 rop P (Instr.loadAt 33 s22) h2 fun s23 =>
 pop P (Instr.indexAt 33 s23 (.int .i64 0)) fun s24 =>
 rop P (Instr.loadAt 3 s24) h2 fun s25 =>
 pop P (Instr.indexAt 33 s18 s25) fun s26 =>
 rop P (Instr.loadAt 3 s26) h2 fun s27 =>
 K s27 h2)
theorem e118 (g0_1 : Value) (s1_1 : Value) (p2_1 : Value) (h : Heap) (K : Value -> Heap -> Prop) : wpA Tryz.prog 28 (anOf []) (bodyOf Tryz.f118) 1 (fun A h => resA Tryz.prog A h K [.tmp 6]) (fun _ _ _ => False) (fun A h => resA Tryz.prog A h K [.tmp 6]) (aargs [g0_1, s1_1, p2_1] 0) h = t118 Tryz.prog g0_1 s1_1 p2_1 h K := by kernel_rfl
theorem c118 (g0_1 : Value) (s1_1 : Value) (p2_1 : Value) (h : Heap) (K : Value -> Heap -> Prop) (H : t118 Tryz.prog g0_1 s1_1 p2_1 h K) : callM Tryz.prog 118 #[g0_1, s1_1, p2_1] h K :=
  callM_of_wpA mixed (fn := Tryz.f118) Tryz.func118 (c := bodyOf Tryz.f118) rfl (of_decide_eq_true (by kernel_rfl)) (anOf []) 25 28 (by kernel_rfl) rfl [.tmp 6] (by kernel_rfl) (args := [g0_1, s1_1, p2_1]) (by rw [e118]; exact H)
def t119 (P : Program) (l0_1 : Value) (h : Heap) (K : Value -> Heap -> Prop) : Prop :=
 eop P (Instr.buildSlice 33 0 #[]) h fun s3 h1 =>
 eop P (appS 33 33 33 s3 l0_1) h1 fun s5 h2 =>
 K s5 h2
theorem e119 (l0_1 : Value) (h : Heap) (K : Value -> Heap -> Prop) : wpA Tryz.prog 6 (anOf []) (bodyOf Tryz.f119) 1 (fun A h => resA Tryz.prog A h K [.tmp 2]) (fun _ _ _ => False) (fun A h => resA Tryz.prog A h K [.tmp 2]) (aargs [l0_1] 0) h = t119 Tryz.prog l0_1 h K := by kernel_rfl
theorem c119 (l0_1 : Value) (h : Heap) (K : Value -> Heap -> Prop) (H : t119 Tryz.prog l0_1 h K) : callM Tryz.prog 119 #[l0_1] h K :=
  callM_of_wpA mixed (fn := Tryz.f119) Tryz.func119 (c := bodyOf Tryz.f119) rfl (of_decide_eq_true (by kernel_rfl)) (anOf []) 5 6 (by kernel_rfl) rfl [.tmp 2] (by kernel_rfl) (args := [l0_1]) (by rw [e119]; exact H)
def t120 (P : Program) (l0_1 : Value) (n1_1 : Value) (h : Heap) (K : Value -> Heap -> Prop) : Prop :=
 pop P (lenS 33 3 l0_1) fun s8 =>
 ∃ (I1 : List Value -> Heap -> Prop) (μ_1 : List Value -> Heap -> Nat), I1 [(.int .i64 0)] h /\
 ∀ (junk1 : Nat -> Value) (s9 : Value) (h1 : Heap), I1 [s9] h1 ->
 pop P (binA .lss 3 s9 s8) fun s10 =>
 condM s10
 (pop P (Instr.indexAt 33 l0_1 s9) fun s11 =>
 rop P (Instr.loadAt 3 s11) h1 fun s12 =>
 pop P (binE .eql 3 (.tmp 13) (.tmp 14) s12 n1_1) fun s15 =>
 condM s15
 (K (Value.bool true) h1)
 (pop P (binA .add 3 s9 (.int .i64 1)) fun s16 =>
 I1 [s16] h1 /\ μ_1 [s16] h1 < μ_1 [s9] h1))
 (K (Value.bool false) h1)
theorem e120 (l0_1 : Value) (n1_1 : Value) (h : Heap) (K : Value -> Heap -> Prop) : wpA Tryz.prog 17 (anOf [(26, [9])]) (bodyOf Tryz.f120) 1 (fun A h => resA Tryz.prog A h K [.tmp 4]) (fun _ _ _ => False) (fun A h => resA Tryz.prog A h K [.tmp 4]) (aargs [l0_1, n1_1] 0) h = t120 Tryz.prog l0_1 n1_1 h K := by kernel_rfl
theorem c120 (l0_1 : Value) (n1_1 : Value) (h : Heap) (K : Value -> Heap -> Prop) (H : t120 Tryz.prog l0_1 n1_1 h K) : callM Tryz.prog 120 #[l0_1, n1_1] h K :=
  callM_of_wpA mixed (fn := Tryz.f120) Tryz.func120 (c := bodyOf Tryz.f120) rfl (of_decide_eq_true (by kernel_rfl)) (anOf [(26, [9])]) 15 17 (by kernel_rfl) rfl [.tmp 4] (by kernel_rfl) (args := [l0_1, n1_1]) (by rw [e120]; exact H)
def t121 (P : Program) (c0_1 : Value) (h : Heap) (K : Value -> Heap -> Prop) : Prop :=
 eop P (Instr.alloc 26 true (.tuple #[])) h fun s2 h1 =>
 callM P 144 #[c0_1, (.int .i64 6)] h1 fun s5 h2 =>
 eop P (Instr.alloc 26 true (.tuple #[])) h2 fun g3_1 h3 =>
 uop P (Instr.storeAt 26 g3_1 s5) h3 fun q1 h4 =>
 callM P 70 #[c0_1, (.int .i64 16)] h4 fun s7 h5 =>
 pop P (binE .eql 3 (.tmp 7) (.const (.int .i64 0)) s7 (.int .i64 0)) fun s9 =>
 condM s9
 (pop P (Instr.fieldAt 26 g3_1 0) fun s10 =>
 rop P (Instr.loadAt 24 s10) h5 fun s11 =>
 pop P (Instr.fieldAt 26 g3_1 0) fun s12 =>
 rop P (Instr.loadAt 24 s12) h5 fun s13 =>
 pop P (Instr.indexAt 24 s13 (.int .i64 0)) fun s14 =>
 rop P (Instr.loadAt 33 s14) h5 fun s15 =>
 pop P (Instr.fieldAt 26 g3_1 0) fun s17 =>
 rop P (Instr.loadAt 24 s17) h5 fun s18 =>
 pop P (lenS 24 3 s18) fun s19 =>
 eop P (Instr.buildSlice 33 3 #[(0, (.int .i64 (-1))), (1, s19), (2, (.int .i64 4611686018427387904))]) h5 fun s20 h6 =>
 (∀ w : World, w.heap = h6 -> (Instr.loadAt 24 s17).run P w = .ok s18 w) /\
 (∀ w : World, w.heap = h6 -> (Instr.loadAt 33 s14).run P w = .ok s15 w) /\
 (∀ w : World, w.heap = h6 -> (Instr.loadAt 24 s12).run P w = .ok s13 w) /\
 (∀ w : World, w.heap = h6 -> (Instr.loadAt 24 s10).run P w = .ok s11 w) /\
 callM P 69 #[c0_1, s20] h6 fun s21 h7 =>
 (∀ w : World, w.heap = h7 -> (Instr.loadAt 24 s17).run P w = .ok s18 w) /\
 (∀ w : World, w.heap = h7 -> (Instr.loadAt 33 s14).run P w = .ok s15 w) /\
 (∀ w : World, w.heap = h7 -> (Instr.loadAt 24 s12).run P w = .ok s13 w) /\
 (∀ w : World, w.heap = h7 -> (Instr.loadAt 24 s10).run P w = .ok s11 w) /\
 eop P (Instr.buildSlice 33 1 #[(0, s21)]) h7 fun s22 h8 =>
 (∀ w : World, w.heap = h8 -> (Instr.loadAt 24 s17).run P w = .ok s18 w) /\
 (∀ w : World, w.heap = h8 -> (Instr.loadAt 33 s14).run P w = .ok s15 w) /\
 (∀ w : World, w.heap = h8 -> (Instr.loadAt 24 s12).run P w = .ok s13 w) /\
 (∀ w : World, w.heap = h8 -> (Instr.loadAt 24 s10).run P w = .ok s11 w) /\
 eop P (appS 33 33 33 s15 s22) h8 fun s23 h9 =>
 (∀ w : World, w.heap = h9 -> (Instr.loadAt 24 s17).run P w = .ok s18 w) /\
 (∀ w : World, w.heap = h9 -> (Instr.loadAt 24 s12).run P w = .ok s13 w) /\
 (∀ w : World, w.heap = h9 -> (Instr.loadAt 24 s10).run P w = .ok s11 w) /\
 pop P (Instr.indexAt 24 s11 (.int .i64 0)) fun s24 =>
 uop P (Instr.storeAt 33 s24 s23) h9 fun q2 h10 =>
 rop P (Instr.loadAt 26 g3_1) h10 fun s52 =>
 uop P (Instr.storeAt 26 s2 s52) h10 fun q3 h11 =>
 rop P (Instr.loadAt 26 s2) h11 fun r_1 =>
 K r_1 h11)
 (pop P (binE .eql 3 (.tmp 7) (.const (.int .i64 1)) s7 (.int .i64 1)) fun s26 =>
 condM s26
 (pop P (Instr.fieldAt 26 g3_1 0) fun s27 =>
 rop P (Instr.loadAt 24 s27) h5 fun s28 =>
 callM P 70 #[c0_1, (.int .i64 2)] h5 fun s30 h12 =>
 (∀ w : World, w.heap = h12 -> (Instr.loadAt 24 s27).run P w = .ok s28 w) /\
 pop P (binA .add 3 (.int .i64 5) s30) fun s31 =>
 eop P (Instr.makeSlice 33 s31 s31) h12 fun s32 h13 =>
 (∀ w : World, w.heap = h13 -> (Instr.loadAt 24 s27).run P w = .ok s28 w) /\
 pop P (Instr.indexAt 24 s28 (.int .i64 0)) fun s33 =>
 uop P (Instr.storeAt 33 s33 s32) h13 fun q4 h14 =>
 rop P (Instr.loadAt 26 g3_1) h14 fun s52b =>
 uop P (Instr.storeAt 26 s2 s52b) h14 fun q5 h15 =>
 rop P (Instr.loadAt 26 s2) h15 fun r_2 =>
 K r_2 h15)
 (pop P (binE .eql 3 (.tmp 7) (.const (.int .i64 2)) s7 (.int .i64 2)) fun s35 =>
 condM s35
 (∃ (I1 : List Value -> Heap -> Prop) (μ_1 : List Value -> Heap -> Nat), I1 [] h5 /\
 ∀ (junk1 : Nat -> Value) (h16 : Heap), I1 [] h16 ->
 pop P (Instr.fieldAt 26 g3_1 0) fun s36 =>
 rop P (Instr.loadAt 24 s36) h16 fun s37 =>
 pop P (lenS 24 3 s37) fun s38 =>
 callM P 70 #[c0_1, (.int .i64 2)] h16 fun s40 h17 =>
 (∀ w : World, w.heap = h17 -> (Instr.loadAt 24 s36).run P w = .ok s37 w) /\
 pop P (binA .add 3 (.int .i64 8) s40) fun s41 =>
 pop P (binA .lss 3 s38 s41) fun s42 =>
 condM s42
 (pop P (Instr.fieldAt 26 g3_1 0) fun s43 =>
 rop P (Instr.loadAt 24 s43) h17 fun s44 =>
 eop P (Instr.buildSlice 33 1 #[(0, (.int .i64 0))]) h17 fun s45 h18 =>
 eop P (Instr.buildSlice 24 1 #[(0, s45)]) h18 fun s46 h19 =>
 eop P (appS 24 24 24 s44 s46) h19 fun s47 h20 =>
 pop P (Instr.fieldAt 26 g3_1 0) fun s48 =>
 uop P (Instr.storeAt 24 s48 s47) h20 fun q6 h21 =>
 I1 [] h21 /\ μ_1 [] h21 < μ_1 [] h16)
 (rop P (Instr.loadAt 26 g3_1) h17 fun s52c =>
 uop P (Instr.storeAt 26 s2 s52c) h17 fun q7 h22 =>
 rop P (Instr.loadAt 26 s2) h22 fun r_3 =>
 K r_3 h22))
 (pop P (binE .eql 3 (.tmp 7) (.const (.int .i64 3)) s7 (.int .i64 3)) fun s50 =>
 condM s50
 (pop P (Instr.build 26 #[]) fun s51 =>
 uop P (Instr.storeAt 26 g3_1 s51) h5 fun q8 h23 =>
 rop P (Instr.loadAt 26 g3_1) h23 fun s52d =>
 uop P (Instr.storeAt 26 s2 s52d) h23 fun q9 h24 =>
 rop P (Instr.loadAt 26 s2) h24 fun r_4 =>
 K r_4 h24)
 (rop P (Instr.loadAt 26 g3_1) h5 fun s52e =>
 uop P (Instr.storeAt 26 s2 s52e) h5 fun q10 h25 =>
 rop P (Instr.loadAt 26 s2) h25 fun r_5 =>
 K r_5 h25))))
theorem e121 (c0_1 : Value) (h : Heap) (K : Value -> Heap -> Prop) : wpA Tryz.prog 53 (anOf [(7548, [])]) (bodyOf Tryz.f121) 1 (fun A h => resA Tryz.prog A h K [.cell 2 26]) (fun _ _ _ => False) (fun A h => resA Tryz.prog A h K [.cell 2 26]) (aargs [c0_1] 0) h = t121 Tryz.prog c0_1 h K := by kernel_rfl
theorem c121 (c0_1 : Value) (h : Heap) (K : Value -> Heap -> Prop) (H : t121 Tryz.prog c0_1 h K) : callM Tryz.prog 121 #[c0_1] h K :=
  callM_of_wpA mixed (fn := Tryz.f121) Tryz.func121 (c := bodyOf Tryz.f121) rfl (of_decide_eq_true (by kernel_rfl)) (anOf [(7548, [])]) 52 53 (by kernel_rfl) rfl [.cell 2 26] (by kernel_rfl) (args := [c0_1]) (by rw [e121]; exact H)
def t122 (P : Program) (c0_1 : Value) (h : Heap) (K : Value -> Heap -> Prop) : Prop :=
 ∃ J1 : List Value -> Heap -> Prop, (pop P (nilS c0_1) fun s5 =>
 pop P (Instr.fieldAt 84 s5 1) fun s6 =>
 rop P (Instr.loadAt 3 s6) h fun s7 =>
 pop P (nilS c0_1) fun s9 =>
 pop P (Instr.fieldAt 84 s9 0) fun s10 =>
 rop P (Instr.loadAt 22 s10) h fun s11 =>
 pop P (lenS 22 3 s11) fun s12 =>
 pop P (binA .lss 3 s7 s12) fun s13 =>
 condM s13
 (pop P (nilS c0_1) fun s15 =>
 pop P (Instr.fieldAt 84 s15 0) fun s16 =>
 rop P (Instr.loadAt 22 s16) h fun s17 =>
 pop P (nilS c0_1) fun s19 =>
 pop P (Instr.fieldAt 84 s19 1) fun s20 =>
 rop P (Instr.loadAt 3 s20) h fun s21 =>
 pop P (Instr.indexAt 22 s17 s21) fun s22 =>
 rop P (Instr.loadAt 5 s22) h fun s23 =>
 rop P (convert 5 3 s23) h fun s24 =>
 J1 [s24] h)
 (J1 [(.int .i64 0)] h)) /\
 ∀ (junk1 : Nat -> Value) (b3_1 : Value) (h1 : Heap), J1 [b3_1] h1 ->
 pop P (nilS c0_1) fun s26 =>
 pop P (Instr.fieldAt 84 s26 1) fun s27 =>
 rop P (Instr.loadAt 3 s27) h1 fun s28 =>
 pop P (binA .add 3 s28 (.int .i64 1)) fun s29 =>
 pop P (nilS c0_1) fun s30 =>
 pop P (Instr.fieldAt 84 s30 1) fun s31 =>
 uop P (Instr.storeAt 3 s31 s29) h1 fun q1 h2 =>
 pop P (nilS c0_1) fun s34 =>
 pop P (Instr.fieldAt 84 s34 2) fun s35 =>
 rop P (Instr.loadAt 82 s35) h2 fun s36 =>
 pop P (binA .mul 82 s36 (Value.int IntKind.u64 6364136223846793005)) fun s37 =>
 rop P (convert 3 82 b3_1) h2 fun s39 =>
 pop P (binA .add 82 s37 s39) fun s40 =>
 pop P (binA .add 82 s40 (Value.int IntKind.u64 1442695040888963407)) fun s41 =>
 pop P (nilS c0_1) fun s42 =>
 pop P (Instr.fieldAt 84 s42 2) fun s43 =>
 uop P (Instr.storeAt 82 s43 s41) h2 fun q2 h3 =>
 pop P (nilS c0_1) fun s45 =>
 pop P (Instr.fieldAt 84 s45 1) fun s46 =>
 rop P (Instr.loadAt 3 s46) h3 fun s47 =>
 pop P (nilS c0_1) fun s49 =>
 pop P (Instr.fieldAt 84 s49 0) fun s50 =>
 rop P (Instr.loadAt 22 s50) h3 fun s51 =>
 pop P (lenS 22 3 s51) fun s52 =>
 pop P (binA .leq 3 s47 s52) fun s53 =>
 condM s53
 (K b3_1 h3)
 (pop P (nilS c0_1) fun s56 =>
 pop P (Instr.fieldAt 84 s56 2) fun s57 =>
 rop P (Instr.loadAt 82 s57) h3 fun s58 =>
 pop P (binA .shr 82 s58 (Value.int IntKind.u64 40)) fun s59 =>
 pop P (binA .and 82 s59 (Value.int IntKind.u64 255)) fun s60 =>
 rop P (convert 82 3 s60) h3 fun s61 =>
 K s61 h3)
theorem e122 (c0_1 : Value) (h : Heap) (K : Value -> Heap -> Prop) : wpA Tryz.prog 62 (anOf [(7, [3])]) (bodyOf Tryz.f122) 1 (fun A h => resA Tryz.prog A h K [.tmp 2]) (fun _ _ _ => False) (fun A h => resA Tryz.prog A h K [.tmp 2]) (aargs [c0_1] 0) h = t122 Tryz.prog c0_1 h K := by kernel_rfl
theorem c122 (c0_1 : Value) (h : Heap) (K : Value -> Heap -> Prop) (H : t122 Tryz.prog c0_1 h K) : callM Tryz.prog 122 #[c0_1] h K :=
  callM_of_wpA mixed (fn := Tryz.f122) Tryz.func122 (c := bodyOf Tryz.f122) rfl (of_decide_eq_true (by kernel_rfl)) (anOf [(7, [3])]) 61 62 (by kernel_rfl) rfl [.tmp 2] (by kernel_rfl) (args := [c0_1]) (by rw [e122]; exact H)
def t123 (P : Program) (a0_1 : Value) (b1_1 : Value) (h : Heap) (K : Value -> Heap -> Prop) : Prop :=
 pop P (binA .gtr 3 a0_1 b1_1) fun s7 =>
 condM s7
 (K a0_1 h)
 (K b1_1 h)
theorem e123 (a0_1 : Value) (b1_1 : Value) (h : Heap) (K : Value -> Heap -> Prop) : wpA Tryz.prog 10 (anOf []) (bodyOf Tryz.f123) 1 (fun A h => resA Tryz.prog A h K [.tmp 4]) (fun _ _ _ => False) (fun A h => resA Tryz.prog A h K [.tmp 4]) (aargs [a0_1, b1_1] 0) h = t123 Tryz.prog a0_1 b1_1 h K := by kernel_rfl
theorem c123 (a0_1 : Value) (b1_1 : Value) (h : Heap) (K : Value -> Heap -> Prop) (H : t123 Tryz.prog a0_1 b1_1 h K) : callM Tryz.prog 123 #[a0_1, b1_1] h K :=
  callM_of_wpA mixed (fn := Tryz.f123) Tryz.func123 (c := bodyOf Tryz.f123) rfl (of_decide_eq_true (by kernel_rfl)) (anOf []) 8 10 (by kernel_rfl) rfl [.tmp 4] (by kernel_rfl) (args := [a0_1, b1_1]) (by rw [e123]; exact H)
def t124 (P : Program) (s0_1 : Value) (f1_1 : Value) (h : Heap) (K : Value -> Heap -> Prop) : Prop :=
 pop P (lenS 33 3 s0_1) fun s7 =>
 ∃ (I1 : List Value -> Heap -> Prop) (μ_1 : List Value -> Heap -> Nat), I1 [(.int .i64 0)] h /\
 ∀ (junk1 : Nat -> Value) (s8 : Value) (h1 : Heap), I1 [s8] h1 ->
 pop P (binA .lss 3 s8 s7) fun s9 =>
 condM s9
 (pop P (Instr.indexAt 33 s0_1 s8) fun s14 =>
 rop P (Instr.loadAt 3 s14) h1 fun s15 =>
 callV P f1_1 [s15] h1 fun s16 h2 =>
 condM s16
 (K s8 h2)
 (pop P (binA .add 3 s8 (.int .i64 1)) fun s18 =>
 I1 [s18] h2 /\ μ_1 [s18] h2 < μ_1 [s8] h1))
 (K (.int .i64 (-1)) h1)
theorem e124 (s0_1 : Value) (f1_1 : Value) (h : Heap) (K : Value -> Heap -> Prop) : wpA Tryz.prog 19 (anOf [(26, [8])]) (bodyOf Tryz.f124) 1 (fun A h => resA Tryz.prog A h K [.tmp 4]) (fun _ _ _ => False) (fun A h => resA Tryz.prog A h K [.tmp 4]) (aargs [s0_1, f1_1] 0) h = t124 Tryz.prog s0_1 f1_1 h K := by kernel_rfl
theorem c124 (s0_1 : Value) (f1_1 : Value) (h : Heap) (K : Value -> Heap -> Prop) (H : t124 Tryz.prog s0_1 f1_1 h K) : callM Tryz.prog 124 #[s0_1, f1_1] h K :=
  callM_of_wpA mixed (fn := Tryz.f124) Tryz.func124 (c := bodyOf Tryz.f124) rfl (of_decide_eq_true (by kernel_rfl)) (anOf [(26, [8])]) 17 19 (by kernel_rfl) rfl [.tmp 4] (by kernel_rfl) (args := [s0_1, f1_1]) (by rw [e124]; exact H)
def t129 (P : Program) (n0_1 : Value) (both1_1 : Value) (h : Heap) (K : Value -> Heap -> Prop) : Prop :=
 eop P (Instr.alloc 26 true (.tuple #[])) h fun s4 h1 =>
 pop P (Instr.build 26 #[]) fun s8 =>
 eop P (Instr.alloc 26 true (.tuple #[])) h1 fun g5_1 h2 =>
 uop P (Instr.storeAt 26 g5_1 s8) h2 fun q1 h3 =>
 ∃ (I1 : List Value -> Heap -> Prop) (μ_1 : List Value -> Heap -> Nat), I1 [(.int .i64 0)] h3 /\
 ∀ (junk1 : Nat -> Value) (p6_1 : Value) (h4 : Heap), I1 [p6_1] h4 ->
 pop P (binA .lss 3 p6_1 n0_1) fun s11 =>
 condM s11
 (pop P (binA .add 3 p6_1 (.int .i64 1)) fun s15 =>
 pop P (binA .rem 3 s15 n0_1) fun s17 =>
 eop P (Instr.buildSlice 33 1 #[(0, s17)]) h4 fun s18 h5 =>
 ∃ J1 : List Value -> Heap -> Prop, (condM both1_1
 (pop P (binA .add 3 p6_1 n0_1) fun s23 =>
 pop P (binA .sub 3 s23 (.int .i64 1)) fun s24 =>
 pop P (binA .rem 3 s24 n0_1) fun s26 =>
 eop P (Instr.buildSlice 33 1 #[(0, s26)]) h5 fun s27 h6 =>
 eop P (appS 33 33 33 s18 s27) h6 fun s28 h7 =>
 J1 [s28] h7)
 (J1 [s18] h5)) /\
 ∀ (junk2 : Nat -> Value) (list7_1 : Value) (h8 : Heap), J1 [list7_1] h8 ->
 pop P (Instr.fieldAt 26 g5_1 0) fun s29 =>
 rop P (Instr.loadAt 24 s29) h8 fun s30 =>
 eop P (Instr.buildSlice 24 1 #[(0, list7_1)]) h8 fun s32 h9 =>
 eop P (appS 24 24 24 s30 s32) h9 fun s33 h10 =>
 pop P (Instr.fieldAt 26 g5_1 0) fun s34 =>
 uop P (Instr.storeAt 24 s34 s33) h10 fun q2 h11 =>
 pop P (binA .add 3 p6_1 (.int .i64 1)) fun s13 =>
 I1 [s13] h11 /\ μ_1 [s13] h11 < μ_1 [p6_1] h4)
 (rop P (Instr.loadAt 26 g5_1) h4 fun s35 =>
 uop P (Instr.storeAt 26 s4 s35) h4 fun q3 h12 =>
 rop P (Instr.loadAt 26 s4) h12 fun r_1 =>
 K r_1 h12)
theorem e129 (n0_1 : Value) (both1_1 : Value) (h : Heap) (K : Value -> Heap -> Prop) : wpA Tryz.prog 36 (anOf [(58, [6]), (1865, [7])]) (bodyOf Tryz.f129) 1 (fun A h => resA Tryz.prog A h K [.cell 4 26]) (fun _ _ _ => False) (fun A h => resA Tryz.prog A h K [.cell 4 26]) (aargs [n0_1, both1_1] 0) h = t129 Tryz.prog n0_1 both1_1 h K := by kernel_rfl
theorem c129 (n0_1 : Value) (both1_1 : Value) (h : Heap) (K : Value -> Heap -> Prop) (H : t129 Tryz.prog n0_1 both1_1 h K) : callM Tryz.prog 129 #[n0_1, both1_1] h K :=
  callM_of_wpA mixed (fn := Tryz.f129) Tryz.func129 (c := bodyOf Tryz.f129) rfl (of_decide_eq_true (by kernel_rfl)) (anOf [(58, [6]), (1865, [7])]) 34 36 (by kernel_rfl) rfl [.cell 4 26] (by kernel_rfl) (args := [n0_1, both1_1]) (by rw [e129]; exact H)
def t130 (P : Program) (c0_1 : Value) (n1_1 : Value) (h : Heap) (K : Value -> Heap -> Prop) : Prop :=
 ∃ (I1 : List Value -> Heap -> Prop) (μ_1 : List Value -> Heap -> Nat), I1 [(Value.slice none 0 0), (.int .i64 0)] h /\
 ∀ (junk1 : Nat -> Value) (out5_1 : Value) (p6_1 : Value) (h1 : Heap), I1 [out5_1, p6_1] h1 ->
 pop P (binA .lss 3 p6_1 n1_1) fun s12 =>
 condM s12
 (eop P (Instr.buildSlice 33 1 #[(0, p6_1)]) h1 fun s17 h2 =>
 eop P (appS 33 33 33 out5_1 s17) h2 fun s18 h3 =>
 pop P (binA .add 3 p6_1 (.int .i64 1)) fun s14 =>
 I1 [s18, s14] h3 /\ μ_1 [s18, s14] h3 < μ_1 [out5_1, p6_1] h1)
 (pop P (lenS 33 3 out5_1) fun s20 =>
 ∃ (I2 : List Value -> Heap -> Prop) (μ_2 : List Value -> Heap -> Nat), I2 [(.int .i64 0)] h1 /\
 ∀ (junk2 : Nat -> Value) (s21 : Value) (h4 : Heap), I2 [s21] h4 ->
 pop P (binA .lss 3 s21 s20) fun s22 =>
 condM s22
 (callM P 70 #[c0_1, n1_1] h4 fun s26 h5 =>
 pop P (Instr.indexAt 33 out5_1 s21) fun s29 =>
 rop P (Instr.loadAt 3 s29) h5 fun s30 =>
 pop P (Instr.indexAt 33 out5_1 s26) fun s35 =>
 rop P (Instr.loadAt 3 s35) h5 fun s36 =>
 pop P (Instr.indexAt 33 out5_1 s21) fun s37 =>
 uop P (Instr.storeAt 3 s37 s36) h5 fun q1 h6 =>
 pop P (Instr.indexAt 33 out5_1 s26) fun s41 =>
 uop P (Instr.storeAt 3 s41 s30) h6 fun q2 h7 =>
 pop P (binA .add 3 s21 (.int .i64 1)) fun s42 =>
 I2 [s42] h7 /\ μ_2 [s42] h7 < μ_2 [s21] h4)
 (K out5_1 h4))
theorem e130 (c0_1 : Value) (n1_1 : Value) (h : Heap) (K : Value -> Heap -> Prop) : wpA Tryz.prog 44 (anOf [(58, [5, 6]), (122, [21])]) (bodyOf Tryz.f130) 1 (fun A h => resA Tryz.prog A h K [.tmp 4]) (fun _ _ _ => False) (fun A h => resA Tryz.prog A h K [.tmp 4]) (aargs [c0_1, n1_1] 0) h = t130 Tryz.prog c0_1 n1_1 h K := by kernel_rfl
theorem c130 (c0_1 : Value) (n1_1 : Value) (h : Heap) (K : Value -> Heap -> Prop) (H : t130 Tryz.prog c0_1 n1_1 h K) : callM Tryz.prog 130 #[c0_1, n1_1] h K :=
  callM_of_wpA mixed (fn := Tryz.f130) Tryz.func130 (c := bodyOf Tryz.f130) rfl (of_decide_eq_true (by kernel_rfl)) (anOf [(58, [5, 6]), (122, [21])]) 42 44 (by kernel_rfl) rfl [.tmp 4] (by kernel_rfl) (args := [c0_1, n1_1]) (by rw [e130]; exact H)
def t134 (P : Program) (q0_1 : Value) (s1 : Value) (h : Heap) (K : Value -> Heap -> Prop) : Prop :=
 rop P (Instr.loadAt 3 s1) h fun s5 =>
 pop P (binA .sub 3 s5 (.int .i64 1)) fun s6 =>
 callM P 72 #[q0_1, (.int .i64 0), s6] h fun s7 h1 =>
 pop P (Op.unary .not s7) fun s8 =>
 K s8 h1
theorem e134 (q0_1 : Value) (s1 : Value) (h : Heap) (K : Value -> Heap -> Prop) : wpA Tryz.prog 9 (anOf []) (bodyOf Tryz.f134) 1 (fun A h => resA Tryz.prog A h K [.tmp 3]) (fun _ _ _ => False) (fun A h => resA Tryz.prog A h K [.tmp 3]) (aargs [q0_1, s1] 0) h = t134 Tryz.prog q0_1 s1 h K := by kernel_rfl
theorem c134 (q0_1 : Value) (s1 : Value) (h : Heap) (K : Value -> Heap -> Prop) (H : t134 Tryz.prog q0_1 s1 h K) : callM Tryz.prog 134 #[q0_1, s1] h K :=
  callM_of_wpA mixed (fn := Tryz.f134) Tryz.func134 (c := bodyOf Tryz.f134) rfl (of_decide_eq_true (by kernel_rfl)) (anOf []) 7 9 (by kernel_rfl) rfl [.tmp 3] (by kernel_rfl) (args := [q0_1, s1]) (by rw [e134]; exact H)
def t137 (P : Program) (s0_1 : Value) (n1_1 : Value) (h : Heap) (K : Value -> Heap -> Prop) : Prop :=
 ∃ J1 : List Value -> Heap -> Prop, (pop P (binA .lss 3 n1_1 (.int .i64 0)) fun s6 =>
 condM s6
 (pop P (Instr.makeInterface 9 (Value.string { data := #[99, 97, 110, 110, 111, 116, 32, 98, 101, 32, 110, 101, 103, 97, 116, 105, 118, 101] })) fun s7 =>
 False)
 (J1 [] h)) /\
 ∀ (junk1 : Nat -> Value) (h1 : Heap), J1 [] h1 ->
 pop P (Builtin.cap_ #[33] 3 #[s0_1]) fun s10 =>
 pop P (lenS 33 3 s0_1) fun s12 =>
 pop P (binA .sub 3 s10 s12) fun s13 =>
 pop P (binA .sub 3 n1_1 s13) fun s14 =>
 pop P (binA .gtr 3 s14 (.int .i64 0)) fun s16 =>
 condM s16
 (pop P (Builtin.cap_ #[33] 3 #[s0_1]) fun s19 =>
 pop P (Instr.sliceAt 33 s0_1 none (some s19) none) fun s20 =>
 eop P (appS 33 3 33 s20 s14) h1 fun s22 h2 =>
 pop P (lenS 33 3 s0_1) fun s24 =>
 pop P (Instr.sliceAt 33 s22 none (some s24) none) fun s25 =>
 K s25 h2)
 (K s0_1 h1)
theorem e137 (s0_1 : Value) (n1_1 : Value) (h : Heap) (K : Value -> Heap -> Prop) : wpA Tryz.prog 27 (anOf [(3, [])]) (bodyOf Tryz.f137) 1 (fun A h => resA Tryz.prog A h K [.tmp 4]) (fun _ _ _ => False) (fun A h => resA Tryz.prog A h K [.tmp 4]) (aargs [s0_1, n1_1] 0) h = t137 Tryz.prog s0_1 n1_1 h K := by kernel_rfl
theorem c137 (s0_1 : Value) (n1_1 : Value) (h : Heap) (K : Value -> Heap -> Prop) (H : t137 Tryz.prog s0_1 n1_1 h K) : callM Tryz.prog 137 #[s0_1, n1_1] h K :=
  callM_of_wpA mixed (fn := Tryz.f137) Tryz.func137 (c := bodyOf Tryz.f137) rfl (of_decide_eq_true (by kernel_rfl)) (anOf [(3, [])]) 25 27 (by kernel_rfl) rfl [.tmp 4] (by kernel_rfl) (args := [s0_1, n1_1]) (by rw [e137]; exact H)
def t143 (P : Program) (g0_1 : Value) (rotors1_1 : Value) (p2_1 : Value) (h : Heap) (K : Value -> Heap -> Prop) : Prop :=
 eop P (Instr.box 26 g0_1) h fun g3_1 h1 =>
 pop P (Instr.fieldAt 26 g3_1 0) fun s7 =>
 rop P (Instr.loadAt 24 s7) h1 fun s8 =>
 pop P (Instr.indexAt 24 s8 p2_1) fun s10 =>
 rop P (Instr.loadAt 33 s10) h1 fun s11 =>
 pop P (lenS 33 3 s11) fun s12 =>
 pop P (binE .eql 3 (.tmp 12) (.const (.int .i64 0)) s12 (.int .i64 0)) fun s13 =>
 condM s13
 (K (.int .i64 (-1)) h1)
 (pop P (Instr.fieldAt 26 g3_1 0) fun s14 =>
 rop P (Instr.loadAt 24 s14) h1 fun s15 =>
 pop P (Instr.indexAt 24 s15 p2_1) fun s17 =>
 rop P (Instr.loadAt 33 s17) h1 fun s18 =>
 pop P (Instr.indexAt 33 rotors1_1 p2_1) fun s21 =>
 rop P (Instr.loadAt 3 s21) h1 fun s22 =>
 pop P (Instr.indexAt 33 s18 s22) fun s23 =>
 rop P (Instr.loadAt 3 s23) h1 fun s24 =>
 K s24 h1)
theorem e143 (g0_1 : Value) (rotors1_1 : Value) (p2_1 : Value) (h : Heap) (K : Value -> Heap -> Prop) : wpA Tryz.prog 25 (anOf []) (bodyOf Tryz.f143) 1 (fun A h => resA Tryz.prog A h K [.tmp 6]) (fun _ _ _ => False) (fun A h => resA Tryz.prog A h K [.tmp 6]) (aargs [g0_1, rotors1_1, p2_1] 0) h = t143 Tryz.prog g0_1 rotors1_1 p2_1 h K := by kernel_rfl
theorem c143 (g0_1 : Value) (rotors1_1 : Value) (p2_1 : Value) (h : Heap) (K : Value -> Heap -> Prop) (H : t143 Tryz.prog g0_1 rotors1_1 p2_1 h K) : callM Tryz.prog 143 #[g0_1, rotors1_1, p2_1] h K :=
  callM_of_wpA mixed (fn := Tryz.f143) Tryz.func143 (c := bodyOf Tryz.f143) rfl (of_decide_eq_true (by kernel_rfl)) (anOf []) 22 25 (by kernel_rfl) rfl [.tmp 6] (by kernel_rfl) (args := [g0_1, rotors1_1, p2_1]) (by rw [e143]; exact H)
def t144 (P : Program) (c0_1 : Value) (most1_1 : Value) (h : Heap) (K : Value -> Heap -> Prop) : Prop :=
 eop P (Instr.alloc 26 true (.tuple #[])) h fun s4 h1 =>
 callM P 70 #[c0_1, most1_1] h1 fun s13 h2 =>
 pop P (binA .add 3 (.int .i64 1) s13) fun s14 =>
 callM P 68 #[c0_1, (.int .i64 4)] h2 fun s16 h3 =>
 condM s16
 (callM P 68 #[c0_1, (.int .i64 2)] h3 fun s19 h4 =>
 callM P 129 #[s14, s19] h4 fun s20 h5 =>
 uop P (Instr.storeAt 26 s4 s20) h5 fun q1 h6 =>
 rop P (Instr.loadAt 26 s4) h6 fun r_1 =>
 K r_1 h6)
 (pop P (Instr.build 26 #[]) fun s21 =>
 eop P (Instr.alloc 26 true (.tuple #[])) h3 fun g6_1 h7 =>
 uop P (Instr.storeAt 26 g6_1 s21) h7 fun q2 h8 =>
 ∃ (I1 : List Value -> Heap -> Prop) (μ_1 : List Value -> Heap -> Nat), I1 [(.int .i64 0)] h8 /\
 ∀ (junk1 : Nat -> Value) (p7_1 : Value) (h9 : Heap), I1 [p7_1] h9 ->
 pop P (binA .lss 3 p7_1 s14) fun s24 =>
 condM s24
 (callM P 70 #[c0_1, (.int .i64 3)] h9 fun s28 h10 =>
 pop P (binA .add 3 (.int .i64 1) s28) fun s29 =>
 ∃ (I2 : List Value -> Heap -> Prop) (μ_2 : List Value -> Heap -> Nat), I2 [(Value.slice none 0 0), s29] h10 /\
 ∀ (junk2 : Nat -> Value) (list8_1 : Value) (k9_1 : Value) (h11 : Heap), I2 [list8_1, k9_1] h11 ->
 pop P (binA .gtr 3 k9_1 (.int .i64 0)) fun s31 =>
 condM s31
 (callM P 70 #[c0_1, s14] h11 fun s37 h12 =>
 eop P (Instr.buildSlice 33 1 #[(0, s37)]) h12 fun s38 h13 =>
 eop P (appS 33 33 33 list8_1 s38) h13 fun s39 h14 =>
 pop P (binA .sub 3 k9_1 (.int .i64 1)) fun s33 =>
 I2 [s39, s33] h14 /\ μ_2 [s39, s33] h14 < μ_2 [list8_1, k9_1] h11)
 (∃ J1 : List Value -> Heap -> Prop, (callM P 68 #[c0_1, (.int .i64 8)] h11 fun s41 h15 =>
 condM s41
 (J1 [(Value.slice none 0 0)] h15)
 (J1 [list8_1] h15)) /\
 ∀ (junk3 : Nat -> Value) (list8_2 : Value) (h16 : Heap), J1 [list8_2] h16 ->
 pop P (Instr.fieldAt 26 g6_1 0) fun s42 =>
 rop P (Instr.loadAt 24 s42) h16 fun s43 =>
 eop P (Instr.buildSlice 24 1 #[(0, list8_2)]) h16 fun s45 h17 =>
 eop P (appS 24 24 24 s43 s45) h17 fun s46 h18 =>
 pop P (Instr.fieldAt 26 g6_1 0) fun s47 =>
 uop P (Instr.storeAt 24 s47 s46) h18 fun q3 h19 =>
 pop P (binA .add 3 p7_1 (.int .i64 1)) fun s26 =>
 I1 [s26] h19 /\ μ_1 [s26] h19 < μ_1 [p7_1] h9))
 (callM P 68 #[c0_1, (.int .i64 2)] h9 fun s49 h20 =>
 condM s49
 (pop P (Instr.fieldAt 26 g6_1 0) fun s50 =>
 rop P (Instr.loadAt 24 s50) h20 fun s51 =>
 pop P (lenS 24 3 s51) fun s52 =>
 ∃ (I3 : List Value -> Heap -> Prop) (μ_3 : List Value -> Heap -> Nat), I3 [(.int .i64 0)] h20 /\
 ∀ (junk4 : Nat -> Value) (s53 : Value) (h21 : Heap), I3 [s53] h21 ->
 pop P (binA .lss 3 s53 s52) fun s54 =>
 condM s54
 (pop P (Instr.fieldAt 26 g6_1 0) fun s56 =>
 rop P (Instr.loadAt 24 s56) h21 fun s57 =>
 pop P (Instr.fieldAt 26 g6_1 0) fun s59 =>
 rop P (Instr.loadAt 24 s59) h21 fun s60 =>
 pop P (Instr.indexAt 24 s60 s53) fun s62 =>
 rop P (Instr.loadAt 33 s62) h21 fun s63 =>
 pop P (binA .add 3 s53 (.int .i64 1)) fun s65 =>
 pop P (binA .rem 3 s65 s14) fun s67 =>
 eop P (Instr.buildSlice 33 1 #[(0, s67)]) h21 fun s68 h22 =>
 (∀ w : World, w.heap = h22 -> (Instr.loadAt 33 s62).run P w = .ok s63 w) /\
 (∀ w : World, w.heap = h22 -> (Instr.loadAt 24 s59).run P w = .ok s60 w) /\
 (∀ w : World, w.heap = h22 -> (Instr.loadAt 24 s56).run P w = .ok s57 w) /\
 eop P (appS 33 33 33 s63 s68) h22 fun s69 h23 =>
 (∀ w : World, w.heap = h23 -> (Instr.loadAt 24 s59).run P w = .ok s60 w) /\
 (∀ w : World, w.heap = h23 -> (Instr.loadAt 24 s56).run P w = .ok s57 w) /\
 pop P (Instr.indexAt 24 s57 s53) fun s70 =>
 uop P (Instr.storeAt 33 s70 s69) h23 fun q4 h24 =>
 pop P (binA .add 3 s53 (.int .i64 1)) fun s71 =>
 I3 [s71] h24 /\ μ_3 [s71] h24 < μ_3 [s53] h21)
 (rop P (Instr.loadAt 26 g6_1) h21 fun s72 =>
 uop P (Instr.storeAt 26 s4 s72) h21 fun q5 h25 =>
 rop P (Instr.loadAt 26 s4) h25 fun r_2 =>
 K r_2 h25))
 (rop P (Instr.loadAt 26 g6_1) h20 fun s72b =>
 uop P (Instr.storeAt 26 s4 s72b) h20 fun q6 h26 =>
 rop P (Instr.loadAt 26 s4) h26 fun r_3 =>
 K r_3 h26)))
theorem e144 (c0_1 : Value) (most1_1 : Value) (h : Heap) (K : Value -> Heap -> Prop) : wpA Tryz.prog 73 (anOf [(250, [7]), (2026, [53]), (16019, [8]), (64074, [8, 9])]) (bodyOf Tryz.f144) 1 (fun A h => resA Tryz.prog A h K [.cell 4 26]) (fun _ _ _ => False) (fun A h => resA Tryz.prog A h K [.cell 4 26]) (aargs [c0_1, most1_1] 0) h = t144 Tryz.prog c0_1 most1_1 h K := by kernel_rfl
theorem c144 (c0_1 : Value) (most1_1 : Value) (h : Heap) (K : Value -> Heap -> Prop) (H : t144 Tryz.prog c0_1 most1_1 h K) : callM Tryz.prog 144 #[c0_1, most1_1] h K :=
  callM_of_wpA mixed (fn := Tryz.f144) Tryz.func144 (c := bodyOf Tryz.f144) rfl (of_decide_eq_true (by kernel_rfl)) (anOf [(250, [7]), (2026, [53]), (16019, [8]), (64074, [8, 9])]) 71 73 (by kernel_rfl) rfl [.cell 4 26] (by kernel_rfl) (args := [c0_1, most1_1]) (by rw [e144]; exact H)
end Go.Proofs.YtkjkfjkapbpgiaaGreatDoor
