import Derived.Test.YtkjkfjkapbpgiaaGreatDoorProg
import Derived.Test.YtkjkfjkapbpgiaaGreatDoorM1
set_option linter.unusedVariables false
namespace Go.Proofs.YtkjkfjkapbpgiaaGreatDoor
open Go Go.Mx
theorem mixed : Tryz.prog.follows .mixedOrders = true := by kernel_rfl
def t4 (P : Program) (code0_1 : Value) (more1_1 : Value) (h : Heap) (K : Value -> Heap -> Prop) : Prop :=
 callM P 5 #[code0_1, more1_1] h fun s64 h1 =>
 condM s64
 (K (Value.bool true) h1)
 (callM P 29 #[code0_1] h1 fun s67 h2 =>
 pop P (Instr.extract s67 0) fun s68 =>
 pop P (Instr.extract s67 1) fun s69 =>
 eop P (Instr.alloc 26 true (.tuple #[])) h2 fun g5_1 h3 =>
 eop P (Instr.alloc 54 true (.tuple #[])) h3 fun w6_1 h4 =>
 uop P (Instr.storeAt 26 g5_1 s68) h4 fun q1 h5 =>
 uop P (Instr.storeAt 54 w6_1 s69) h5 fun q2 h6 =>
 rop P (Instr.loadAt 26 g5_1) h6 fun s71 =>
 rop P (Instr.loadAt 54 w6_1) h6 fun s72 =>
 callM P 30 #[s71, s72] h6 fun s73 h7 =>
 pop P (Instr.extract s73 0) fun s74 =>
 pop P (Instr.extract s73 1) fun s75 =>
 pop P (Instr.extract s73 2) fun s76 =>
 rop P (Instr.loadAt 26 g5_1) h7 fun s78 =>
 rop P (Instr.loadAt 54 w6_1) h7 fun s79 =>
 callM P 31 #[s78, s79] h7 fun s80 h8 =>
 pop P (Instr.extract s80 0) fun s81 =>
 pop P (Instr.extract s80 1) fun s82 =>
 pop P (Instr.extract s80 2) fun s83 =>
 rop P (Instr.loadAt 26 g5_1) h8 fun s85 =>
 rop P (Instr.loadAt 54 w6_1) h8 fun s86 =>
 callM P 32 #[s85, s86] h8 fun s87 h9 =>
 pop P (Instr.extract s87 0) fun s88 =>
 pop P (Instr.extract s87 1) fun s89 =>
 rop P (Instr.loadAt 26 g5_1) h9 fun s91 =>
 rop P (Instr.loadAt 54 w6_1) h9 fun s92 =>
 callM P 33 #[s91, s92] h9 fun s93 h10 =>
 pop P (Instr.extract s93 0) fun s94 =>
 pop P (Instr.extract s93 1) fun s95 =>
 pop P (binE .neq 4 (.tmp 96) (.tmp 97) s76 s83) fun s98 =>
 guardM (asG s98 false) false (fun k_1 => k_1 s74 h10) h10 fun s100 h11 =>
 guardM (asG s98 false) false (fun k_2 => k_2 s81 h11) h11 fun s101 h12 =>
 guardM (asG s98 false) false (fun k_3 => pop P (binE .neq 3 (.tmp 100) (.tmp 101) s100 s101) fun s102 =>
 k_3 s102 h12) h12 fun s102b h13 =>
 pop P (pickS s98 (Value.bool true) s102b) fun s103 =>
 guardM (asG s103 false) false (fun k_4 => k_4 s75 h13) h13 fun s105 h14 =>
 guardM (asG s103 false) false (fun k_5 => k_5 s82 h14) h14 fun s106 h15 =>
 guardM (asG s103 false) false (fun k_6 => pop P (binE .neq 3 (.tmp 105) (.tmp 106) s105 s106) fun s107 =>
 k_6 s107 h15) h15 fun s107b h16 =>
 pop P (pickS s103 (Value.bool true) s107b) fun s108 =>
 guardM (asG s108 false) false (fun k_7 => k_7 s89 h16) h16 fun s110 h17 =>
 guardM (asG s108 false) false (fun k_8 => k_8 s95 h17) h17 fun s111 h18 =>
 guardM (asG s108 false) false (fun k_9 => pop P (binE .neq 4 (.tmp 110) (.tmp 111) s110 s111) fun s112 =>
 k_9 s112 h18) h18 fun s112b h19 =>
 pop P (pickS s108 (Value.bool true) s112b) fun s113 =>
 guardM (asG s113 false) false (fun k_10 => k_10 s88 h19) h19 fun s115 h20 =>
 guardM (asG s113 false) false (fun k_11 => k_11 s94 h20) h20 fun s116 h21 =>
 guardM (asG s113 false) false (fun k_12 => pop P (binE .neq 4 (.tmp 115) (.tmp 116) s115 s116) fun s117 =>
 k_12 s117 h21) h21 fun s117b h22 =>
 pop P (pickS s113 (Value.bool true) s117b) fun s118 =>
 guardM (asG s118 false) false (fun k_13 => k_13 s76 h22) h22 fun s120 h23 =>
 guardM (asG s118 false) false (fun k_14 => k_14 s120 h23) h23 fun s121 h24 =>
 guardM (asG s121 true) true (fun k_15 => k_15 s89 h24) h24 fun s122 h25 =>
 guardM (asG s121 true) true (fun k_16 => pop P (Op.unary .not s122) fun s123 =>
 k_16 s123 h25) h25 fun s123b h26 =>
 guardM (asG s121 true) true (fun k_17 => k_17 s123b h26) h26 fun s124 h27 =>
 guardM (asG s124 false) false (fun k_18 => k_18 s88 h27) h27 fun s125 h28 =>
 guardM (asG s124 false) false (fun k_19 => k_19 s74 h28) h28 fun s126 h29 =>
 guardM (asG s124 false) false (fun k_20 => pop P (binE .eql 3 (.tmp 126) (.const (.int .i64 0)) s126 (.int .i64 0)) fun s127 =>
 k_20 s127 h29) h29 fun s127b h30 =>
 guardM (asG s124 false) false (fun k_21 => pop P (binE .neq 4 (.tmp 125) (.tmp 127) s125 s127b) fun s128 =>
 k_21 s128 h30) h30 fun s128b h31 =>
 guardM (asG s121 true) true (fun k_22 => pop P (pickS s124 (Value.bool true) s128b) fun s129 =>
 k_22 s129 h31) h31 fun s129b h32 =>
 guardM (asG s118 false) false (fun k_23 => pop P (pickS s121 s129b (Value.bool false)) fun s130 =>
 k_23 s130 h32) h32 fun s130b h33 =>
 pop P (pickS s118 (Value.bool true) s130b) fun s131 =>
 condM s131
 (K (Value.bool false) h33)
 (∃ J1 : List Value -> Heap -> Prop, (condM s76
 (rop P (Instr.loadAt 26 g5_1) h33 fun s134 =>
 rop P (Instr.loadAt 54 w6_1) h33 fun s135 =>
 callM P 34 #[s134, s135, s74] h33 fun s137 h34 =>
 pop P (Instr.extract s137 0) fun s138 =>
 pop P (Instr.extract s137 1) fun s139 =>
 eop P (Instr.alloc 54 true (.tuple #[])) h34 fun x17_1 h35 =>
 uop P (Instr.storeAt 54 x17_1 s138) h35 fun q3 h36 =>
 rop P (Instr.loadAt 26 g5_1) h36 fun s141 =>
 rop P (Instr.loadAt 54 w6_1) h36 fun s142 =>
 pop P (binA .add 3 s74 s75) fun s145 =>
 callM P 34 #[s141, s142, s145] h36 fun s146 h37 =>
 pop P (Instr.extract s146 0) fun s147 =>
 pop P (Instr.extract s146 1) fun s148 =>
 eop P (Instr.alloc 54 true (.tuple #[])) h37 fun y19_1 h38 =>
 uop P (Instr.storeAt 54 y19_1 s147) h38 fun q4 h39 =>
 rop P (Instr.loadAt 26 g5_1) h39 fun s150 =>
 callM P 35 #[s150] h39 fun s151 h40 =>
 pop P (Instr.extract s151 0) fun s152 =>
 pop P (Instr.extract s151 1) fun s153 =>
 rop P (Instr.loadAt 26 g5_1) h40 fun s155 =>
 callM P 36 #[s155] h40 fun s156 h41 =>
 pop P (Instr.extract s156 0) fun s157 =>
 pop P (Instr.extract s156 1) fun s158 =>
 rop P (Instr.loadAt 26 g5_1) h41 fun s160 =>
 callM P 37 #[s160] h41 fun s161 h42 =>
 pop P (Instr.extract s161 0) fun s162 =>
 pop P (Instr.extract s161 1) fun s163 =>
 pop P (Op.unary .not s139) fun s165 =>
 guardM (asG s165 false) false (fun k_24 => k_24 s148 h42) h42 fun s167 h43 =>
 guardM (asG s165 false) false (fun k_25 => pop P (Op.unary .not s167) fun s168 =>
 k_25 s168 h43) h43 fun s168b h44 =>
 pop P (pickS s165 (Value.bool true) s168b) fun s169 =>
 guardM (asG s169 false) false (fun k_26 => rop P (Instr.loadAt 54 x17_1) h44 fun s171 =>
 k_26 s171 h44) h44 fun s171b h45 =>
 guardM (asG s169 false) false (fun k_27 => rop P (Instr.loadAt 54 y19_1) h45 fun s172 =>
 k_27 s172 h45) h45 fun s172b h46 =>
 guardM (asG s169 false) false (fun k_28 => callM P 38 #[s171b, s172b] h46 fun s173 h47 =>
 k_28 s173 h47) h46 fun s173b h48 =>
 guardM (asG s169 false) false (fun k_29 => pop P (Op.unary .not s173b) fun s174 =>
 k_29 s174 h48) h48 fun s174b h49 =>
 pop P (pickS s169 (Value.bool true) s174b) fun s175 =>
 guardM (asG s175 false) false (fun k_30 => k_30 s153 h49) h49 fun s177 h50 =>
 guardM (asG s175 false) false (fun k_31 => pop P (Op.unary .not s177) fun s178 =>
 k_31 s178 h50) h50 fun s178b h51 =>
 pop P (pickS s175 (Value.bool true) s178b) fun s179 =>
 guardM (asG s179 false) false (fun k_32 => k_32 s158 h51) h51 fun s181 h52 =>
 guardM (asG s179 false) false (fun k_33 => pop P (Op.unary .not s181) fun s182 =>
 k_33 s182 h52) h52 fun s182b h53 =>
 pop P (pickS s179 (Value.bool true) s182b) fun s183 =>
 guardM (asG s183 false) false (fun k_34 => k_34 s163 h53) h53 fun s185 h54 =>
 guardM (asG s183 false) false (fun k_35 => pop P (Op.unary .not s185) fun s186 =>
 k_35 s186 h54) h54 fun s186b h55 =>
 pop P (pickS s183 (Value.bool true) s186b) fun s187 =>
 guardM (asG s187 false) false (fun k_36 => k_36 s75 h55) h55 fun s189 h56 =>
 guardM (asG s187 false) false (fun k_37 => pop P (binA .lss 3 s189 (.int .i64 1)) fun s190 =>
 k_37 s190 h56) h56 fun s190b h57 =>
 pop P (pickS s187 (Value.bool true) s190b) fun s191 =>
 guardM (asG s191 false) false (fun k_38 => k_38 s152 h57) h57 fun s193 h58 =>
 guardM (asG s191 false) false (fun k_39 => k_39 s193 h58) h58 fun s194 h59 =>
 guardM (asG s194 true) true (fun k_40 => k_40 s157 h59) h59 fun s195 h60 =>
 guardM (asG s191 false) false (fun k_41 => pop P (pickS s194 s195 (Value.bool false)) fun s196 =>
 k_41 s196 h60) h60 fun s196b h61 =>
 guardM (asG s191 false) false (fun k_42 => k_42 s196b h61) h61 fun s197 h62 =>
 guardM (asG s197 true) true (fun k_43 => k_43 s75 h62) h62 fun s198 h63 =>
 guardM (asG s197 true) true (fun k_44 => k_44 s162 h63) h63 fun s199 h64 =>
 guardM (asG s197 true) true (fun k_45 => pop P (binE .neq 3 (.tmp 198) (.tmp 199) s198 s199) fun s200 =>
 k_45 s200 h64) h64 fun s200b h65 =>
 guardM (asG s191 false) false (fun k_46 => pop P (pickS s197 s200b (Value.bool false)) fun s201 =>
 k_46 s201 h65) h65 fun s201b h66 =>
 pop P (pickS s191 (Value.bool true) s201b) fun s202 =>
 condM s202
 (K (Value.bool false) h66)
 (rop P (Instr.loadAt 26 g5_1) h66 fun s204 =>
 rop P (Instr.loadAt 54 x17_1) h66 fun s205 =>
 callM P 39 #[s204, s205] h66 fun s206 h67 =>
 pop P (Instr.extract s206 0) fun s207 =>
 pop P (Instr.extract s206 1) fun s208 =>
 guardM (asG s152 true) true (fun k_47 => k_47 s208 h67) h67 fun s211 h68 =>
 guardM (asG s152 true) true (fun k_48 => pop P (Op.unary .not s211) fun s212 =>
 k_48 s212 h68) h68 fun s212b h69 =>
 guardM (asG s152 true) true (fun k_49 => k_49 s212b h69) h69 fun s213 h70 =>
 guardM (asG s213 false) false (fun k_50 => k_50 s207 h70) h70 fun s214 h71 =>
 guardM (asG s213 false) false (fun k_51 => pop P (Op.unary .not s214) fun s215 =>
 k_51 s215 h71) h71 fun s215b h72 =>
 guardM (asG s152 true) true (fun k_52 => pop P (pickS s213 (Value.bool true) s215b) fun s216 =>
 k_52 s216 h72) h72 fun s216b h73 =>
 pop P (pickS s152 s216b (Value.bool false)) fun s217 =>
 condM s217
 (K (Value.bool false) h73)
 (J1 [] h73)))
 (J1 [] h33)) /\
 ∀ (junk1 : Nat -> Value) (h74 : Heap), J1 [] h74 ->
 callM P 40 #[more1_1] h74 fun s220 h75 =>
 pop P (Instr.extract s220 0) fun s221 =>
 pop P (Instr.extract s220 1) fun s222 =>
 eop P (Instr.alloc 26 true (.tuple #[])) h75 fun h29_1 h76 =>
 uop P (Instr.storeAt 26 h29_1 s221) h76 fun q5 h77 =>
 rop P (Instr.loadAt 26 h29_1) h77 fun s224 =>
 callM P 41 #[s224, s222] h77 fun s226 h78 =>
 pop P (Instr.extract s226 0) fun s227 =>
 pop P (Instr.extract s226 1) fun s228 =>
 rop P (Instr.loadAt 26 h29_1) h78 fun s230 =>
 callM P 42 #[s230, s222] h78 fun s232 h79 =>
 pop P (Instr.extract s232 0) fun s233 =>
 pop P (Instr.extract s232 1) fun s234 =>
 pop P (binE .neq 4 (.tmp 235) (.tmp 236) s228 s234) fun s237 =>
 guardM (asG s237 false) false (fun k_53 => k_53 s227 h79) h79 fun s239 h80 =>
 guardM (asG s237 false) false (fun k_54 => k_54 s233 h80) h80 fun s240 h81 =>
 guardM (asG s237 false) false (fun k_55 => callM P 16 #[s239, s240] h81 fun s241 h82 =>
 k_55 s241 h82) h81 fun s241b h83 =>
 guardM (asG s237 false) false (fun k_56 => pop P (Op.unary .not s241b) fun s242 =>
 k_56 s242 h83) h83 fun s242b h84 =>
 pop P (pickS s237 (Value.bool true) s242b) fun s243 =>
 condM s243
 (K (Value.bool false) h84)
 (∃ J2 : List Value -> Heap -> Prop, (condM s228
 (rop P (Instr.loadAt 26 h29_1) h84 fun s246 =>
 callM P 37 #[s246] h84 fun s247 h85 =>
 pop P (Instr.extract s247 0) fun s248 =>
 pop P (Instr.extract s247 1) fun s249 =>
 pop P (Op.unary .not s249) fun s251 =>
 guardM (asG s251 false) false (fun k_57 => k_57 s227 h85) h85 fun s253 h86 =>
 guardM (asG s251 false) false (fun k_58 => pop P (lenS 33 3 s253) fun s254 =>
 k_58 s254 h86) h86 fun s254b h87 =>
 guardM (asG s251 false) false (fun k_59 => k_59 s248 h87) h87 fun s255 h88 =>
 guardM (asG s251 false) false (fun k_60 => pop P (binA .add 3 s255 (.int .i64 1)) fun s256 =>
 k_60 s256 h88) h88 fun s256b h89 =>
 guardM (asG s251 false) false (fun k_61 => pop P (binE .neq 3 (.tmp 254) (.tmp 256) s254b s256b) fun s257 =>
 k_61 s257 h89) h89 fun s257b h90 =>
 pop P (pickS s251 (Value.bool true) s257b) fun s258 =>
 guardM (asG s258 false) false (fun k_62 => k_62 s227 h90) h90 fun s260 h91 =>
 guardM (asG s258 false) false (fun k_63 => pop P (Instr.indexAt 33 s260 (.int .i64 0)) fun s261 =>
 k_63 s261 h91) h91 fun s261b h92 =>
 guardM (asG s258 false) false (fun k_64 => rop P (Instr.loadAt 3 s261b) h92 fun s262 =>
 k_64 s262 h92) h92 fun s262b h93 =>
 guardM (asG s258 false) false (fun k_65 => k_65 s222 h93) h93 fun s263 h94 =>
 guardM (asG s258 false) false (fun k_66 => pop P (binE .neq 3 (.tmp 262) (.tmp 263) s262b s263) fun s264 =>
 k_66 s264 h94) h94 fun s264b h95 =>
 pop P (pickS s258 (Value.bool true) s264b) fun s265 =>
 guardM (asG s265 false) false (fun k_67 => k_67 s227 h95) h95 fun s267 h96 =>
 guardM (asG s265 false) false (fun k_68 => k_68 s248 h96) h96 fun s268 h97 =>
 guardM (asG s265 false) false (fun k_69 => pop P (Instr.indexAt 33 s267 s268) fun s269 =>
 k_69 s269 h97) h97 fun s269b h98 =>
 guardM (asG s265 false) false (fun k_70 => rop P (Instr.loadAt 3 s269b) h98 fun s270 =>
 k_70 s270 h98) h98 fun s270b h99 =>
 guardM (asG s265 false) false (fun k_71 => k_71 s222 h99) h99 fun s271 h100 =>
 guardM (asG s265 false) false (fun k_72 => pop P (binE .neq 3 (.tmp 270) (.tmp 271) s270b s271) fun s272 =>
 k_72 s272 h100) h100 fun s272b h101 =>
 pop P (pickS s265 (Value.bool true) s272b) fun s273 =>
 condM s273
 (K (Value.bool false) h101)
 (pop P (Instr.fieldAt 26 h29_1 0) fun s274 =>
 rop P (Instr.loadAt 24 s274) h101 fun s275 =>
 pop P (lenS 24 3 s275) fun s276 =>
 ∃ (I1 : List Value -> Heap -> Prop) (μ_1 : List Value -> Heap -> Nat), I1 [(.int .i64 0)] h101 /\
 ∀ (junk2 : Nat -> Value) (s277 : Value) (h102 : Heap), I1 [s277] h102 ->
 pop P (binA .lss 3 s277 s276) fun s278 =>
 condM s278
 (pop P (Instr.indexAt 24 s275 s277) fun s280 =>
 rop P (Instr.loadAt 33 s280) h102 fun s281 =>
 pop P (Instr.fieldAt 26 h29_1 0) fun s282 =>
 rop P (Instr.loadAt 24 s282) h102 fun s283 =>
 pop P (lenS 24 3 s283) fun s284 =>
 ∃ (I2 : List Value -> Heap -> Prop) (μ_2 : List Value -> Heap -> Nat), I2 [(.int .i64 0)] h102 /\
 ∀ (junk3 : Nat -> Value) (s285 : Value) (h103 : Heap), I2 [s285] h103 ->
 pop P (binA .lss 3 s285 s284) fun s286 =>
 condM s286
 (pop P (lenS 33 3 s281) fun s289 =>
 ∃ (I3 : List Value -> Heap -> Prop) (μ_3 : List Value -> Heap -> Nat), I3 [(.int .i64 0), (.int .i64 0)] h103 /\
 ∀ (junk4 : Nat -> Value) (due40_1 : Value) (s290 : Value) (h104 : Heap), I3 [due40_1, s290] h104 ->
 pop P (binA .lss 3 s290 s289) fun s291 =>
 condM s291
 (pop P (Instr.indexAt 33 s281 s290) fun s292 =>
 rop P (Instr.loadAt 3 s292) h104 fun s293 =>
 pop P (binE .eql 3 (.tmp 294) (.tmp 295) s293 s285) fun s296 =>
 condM s296
 (pop P (binA .add 3 due40_1 (.int .i64 1)) fun s298 =>
 pop P (binA .add 3 s290 (.int .i64 1)) fun s299 =>
 I3 [s298, s299] h104 /\ μ_3 [s298, s299] h104 < μ_3 [due40_1, s290] h104)
 (pop P (binA .add 3 s290 (.int .i64 1)) fun s299b =>
 I3 [due40_1, s299b] h104 /\ μ_3 [due40_1, s299b] h104 < μ_3 [due40_1, s290] h104))
 (∃ (I4 : List Value -> Heap -> Prop) (μ_4 : List Value -> Heap -> Nat), I4 [(.int .i64 0), (.int .i64 1)] h104 /\
 ∀ (junk5 : Nat -> Value) (n41_1 : Value) (i44_1 : Value) (h105 : Heap), I4 [n41_1, i44_1] h105 ->
 pop P (lenS 33 3 s227) fun s302 =>
 pop P (binA .lss 3 i44_1 s302) fun s303 =>
 condM s303
 (∃ J3 : List Value -> Heap -> Prop, (pop P (binA .sub 3 i44_1 (.int .i64 1)) fun s308 =>
 pop P (Instr.indexAt 33 s227 s308) fun s309 =>
 rop P (Instr.loadAt 3 s309) h105 fun s310 =>
 pop P (binE .eql 3 (.tmp 310) (.tmp 311) s310 s277) fun s312 =>
 guardM (asG s312 true) true (fun k_73 => k_73 s227 h105) h105 fun s314 h106 =>
 guardM (asG s312 true) true (fun k_74 => k_74 i44_1 h106) h106 fun s315 h107 =>
 guardM (asG s312 true) true (fun k_75 => pop P (Instr.indexAt 33 s314 s315) fun s316 =>
 k_75 s316 h107) h107 fun s316b h108 =>
 guardM (asG s312 true) true (fun k_76 => rop P (Instr.loadAt 3 s316b) h108 fun s317 =>
 k_76 s317 h108) h108 fun s317b h109 =>
 guardM (asG s312 true) true (fun k_77 => k_77 s285 h109) h109 fun s318 h110 =>
 guardM (asG s312 true) true (fun k_78 => pop P (binE .eql 3 (.tmp 317) (.tmp 318) s317b s318) fun s319 =>
 k_78 s319 h110) h110 fun s319b h111 =>
 pop P (pickS s312 s319b (Value.bool false)) fun s320 =>
 condM s320
 (pop P (binA .add 3 n41_1 (.int .i64 1)) fun s322 =>
 J3 [s322] h111)
 (J3 [n41_1] h111)) /\
 ∀ (junk6 : Nat -> Value) (n41_2 : Value) (h112 : Heap), J3 [n41_2] h112 ->
 pop P (binA .add 3 i44_1 (.int .i64 1)) fun s305 =>
 I4 [n41_2, s305] h112 /\ μ_4 [n41_2, s305] h112 < μ_4 [n41_1, i44_1] h105)
 (pop P (binE .neq 3 (.tmp 323) (.tmp 324) n41_1 due40_1) fun s325 =>
 condM s325
 (K (Value.bool false) h105)
 (pop P (binA .add 3 s285 (.int .i64 1)) fun s326 =>
 I2 [s326] h105 /\ μ_2 [s326] h105 < μ_2 [s285] h103))))
 (pop P (binA .add 3 s277 (.int .i64 1)) fun s327 =>
 I1 [s327] h103 /\ μ_1 [s327] h103 < μ_1 [s277] h102))
 (J2 [] h102)))
 (J2 [] h84)) /\
 ∀ (junk7 : Nat -> Value) (h113 : Heap), J2 [] h113 ->
 callM P 43 #[more1_1] h113 fun s330 h114 =>
 pop P (Instr.extract s330 0) fun s331 =>
 pop P (Instr.extract s330 1) fun s332 =>
 pop P (Instr.extract s330 2) fun s333 =>
 eop P (Instr.alloc 26 true (.tuple #[])) h114 fun x45_1 h115 =>
 eop P (Instr.alloc 54 true (.tuple #[])) h115 fun v46_1 h116 =>
 uop P (Instr.storeAt 26 x45_1 s331) h116 fun q6 h117 =>
 uop P (Instr.storeAt 54 v46_1 s332) h117 fun q7 h118 =>
 rop P (Instr.loadAt 26 x45_1) h118 fun s335 =>
 rop P (Instr.loadAt 54 v46_1) h118 fun s336 =>
 callM P 44 #[s335, s336, s333] h118 fun s338 h119 =>
 pop P (Instr.extract s338 0) fun s339 =>
 pop P (Instr.extract s338 1) fun s340 =>
 rop P (Instr.loadAt 26 x45_1) h119 fun s342 =>
 rop P (Instr.loadAt 54 v46_1) h119 fun s343 =>
 callM P 45 #[s342, s343, s333] h119 fun s345 h120 =>
 pop P (Instr.extract s345 0) fun s346 =>
 pop P (Instr.extract s345 1) fun s347 =>
 callM P 46 #[more1_1] h120 fun s350 h121 =>
 pop P (Instr.extract s350 0) fun s351 =>
 pop P (Instr.extract s350 1) fun s352 =>
 eop P (Instr.alloc 26 true (.tuple #[])) h121 fun y52_1 h122 =>
 eop P (Instr.alloc 54 true (.tuple #[])) h122 fun u53_1 h123 =>
 uop P (Instr.storeAt 26 y52_1 s351) h123 fun q8 h124 =>
 uop P (Instr.storeAt 54 u53_1 s352) h124 fun q9 h125 =>
 rop P (Instr.loadAt 26 y52_1) h125 fun s354 =>
 rop P (Instr.loadAt 54 u53_1) h125 fun s355 =>
 callM P 47 #[s354, s355] h125 fun s356 h126 =>
 pop P (Instr.extract s356 0) fun s357 =>
 pop P (Instr.extract s356 1) fun s358 =>
 rop P (Instr.loadAt 26 y52_1) h126 fun s360 =>
 rop P (Instr.loadAt 54 u53_1) h126 fun s361 =>
 callM P 48 #[s360, s361] h126 fun s362 h127 =>
 pop P (Instr.extract s362 0) fun s363 =>
 pop P (Instr.extract s362 1) fun s364 =>
 pop P (binE .neq 4 (.tmp 365) (.tmp 366) s340 s347) fun s367 =>
 guardM (asG s367 false) false (fun k_79 => k_79 s339 h127) h127 fun s369 h128 =>
 guardM (asG s367 false) false (fun k_80 => k_80 s346 h128) h128 fun s370 h129 =>
 guardM (asG s367 false) false (fun k_81 => pop P (binE .neq 3 (.tmp 369) (.tmp 370) s369 s370) fun s371 =>
 k_81 s371 h129) h129 fun s371b h130 =>
 pop P (pickS s367 (Value.bool true) s371b) fun s372 =>
 guardM (asG s372 false) false (fun k_82 => k_82 s358 h130) h130 fun s374 h131 =>
 guardM (asG s372 false) false (fun k_83 => k_83 s364 h131) h131 fun s375 h132 =>
 guardM (asG s372 false) false (fun k_84 => pop P (binE .neq 4 (.tmp 374) (.tmp 375) s374 s375) fun s376 =>
 k_84 s376 h132) h132 fun s376b h133 =>
 pop P (pickS s372 (Value.bool true) s376b) fun s377 =>
 guardM (asG s377 false) false (fun k_85 => k_85 s357 h133) h133 fun s379 h134 =>
 guardM (asG s377 false) false (fun k_86 => k_86 s363 h134) h134 fun s380 h135 =>
 guardM (asG s377 false) false (fun k_87 => pop P (binE .neq 3 (.tmp 379) (.tmp 380) s379 s380) fun s381 =>
 k_87 s381 h135) h135 fun s381b h136 =>
 pop P (pickS s377 (Value.bool true) s381b) fun s382 =>
 condM s382
 (K (Value.bool false) h136)
 (condM s358
 (pop P (Instr.fieldAt 26 y52_1 0) fun s384 =>
 rop P (Instr.loadAt 24 s384) h136 fun s385 =>
 pop P (lenS 24 3 s385) fun s386 =>
 ∃ (I5 : List Value -> Heap -> Prop) (μ_5 : List Value -> Heap -> Nat), I5 [(.int .i64 0), (.int .i64 0)] h136 /\
 ∀ (junk8 : Nat -> Value) (most58_1 : Value) (s387 : Value) (h137 : Heap), I5 [most58_1, s387] h137 ->
 pop P (binA .lss 3 s387 s386) fun s388 =>
 condM s388
 (rop P (Instr.loadAt 26 y52_1) h137 fun s391 =>
 rop P (Instr.loadAt 54 u53_1) h137 fun s392 =>
 callM P 44 #[s391, s392, s387] h137 fun s394 h138 =>
 pop P (Instr.extract s394 0) fun s395 =>
 pop P (Instr.extract s394 1) fun s396 =>
 pop P (Op.unary .not s396) fun s398 =>
 guardM (asG s398 false) false (fun k_88 => k_88 s395 h138) h138 fun s400 h139 =>
 guardM (asG s398 false) false (fun k_89 => k_89 s357 h139) h139 fun s401 h140 =>
 guardM (asG s398 false) false (fun k_90 => pop P (binA .gtr 3 s400 s401) fun s402 =>
 k_90 s402 h140) h140 fun s402b h141 =>
 pop P (pickS s398 (Value.bool true) s402b) fun s403 =>
 condM s403
 (K (Value.bool false) h141)
 (pop P (binA .gtr 3 s395 most58_1) fun s406 =>
 condM s406
 (pop P (binA .add 3 s387 (.int .i64 1)) fun s408 =>
 I5 [s395, s408] h141 /\ μ_5 [s395, s408] h141 < μ_5 [most58_1, s387] h137)
 (pop P (binA .add 3 s387 (.int .i64 1)) fun s408b =>
 I5 [most58_1, s408b] h141 /\ μ_5 [most58_1, s408b] h141 < μ_5 [most58_1, s387] h137)))
 (pop P (binE .neq 3 (.tmp 409) (.tmp 410) most58_1 s357) fun s411 =>
 condM s411
 (K (Value.bool false) h137)
 (K (Value.bool true) h137)))
 (K (Value.bool true) h136)))))
theorem e4 (code0_1 : Value) (more1_1 : Value) (h : Heap) (K : Value -> Heap -> Prop) : wpA Tryz.prog 412 (anOf [(511, []), (16383, []), (2097070, [277]), (536850022, [285]), (536870826, [58, 387]), (549734422938, [40, 290]), (1099468845882, [41, 44]), (4397875383529, [41])]) (bodyOf Tryz.f4) 1 (fun A h => resA Tryz.prog A h K [.tmp 4]) (fun _ _ _ => False) (fun A h => resA Tryz.prog A h K [.tmp 4]) (aargs [code0_1, more1_1] 0) h = t4 Tryz.prog code0_1 more1_1 h K := by kernel_rfl
theorem c4 (code0_1 : Value) (more1_1 : Value) (h : Heap) (K : Value -> Heap -> Prop) (H : t4 Tryz.prog code0_1 more1_1 h K) : callM Tryz.prog 4 #[code0_1, more1_1] h K :=
  callM_of_wpA mixed (fn := Tryz.f4) Tryz.func4 (c := bodyOf Tryz.f4) rfl (of_decide_eq_true (by kernel_rfl)) (anOf [(511, []), (16383, []), (2097070, [277]), (536850022, [285]), (536870826, [58, 387]), (549734422938, [40, 290]), (1099468845882, [41, 44]), (4397875383529, [41])]) 410 412 (by kernel_rfl) rfl [.tmp 4] (by kernel_rfl) (args := [code0_1, more1_1]) (by rw [e4]; exact H)
def t5 (P : Program) (code0_1 : Value) (more1_1 : Value) (h : Heap) (K : Value -> Heap -> Prop) : Prop :=
 pop P (lenS 22 3 code0_1) fun s6 =>
 pop P (binA .gtr 3 s6 (.int .i64 1048576)) fun s7 =>
 guardM (asG s7 false) false (fun k_1 => k_1 more1_1 h) h fun s9 h1 =>
 guardM (asG s7 false) false (fun k_2 => pop P (lenS 22 3 s9) fun s10 =>
 k_2 s10 h1) h1 fun s10b h2 =>
 guardM (asG s7 false) false (fun k_3 => k_3 code0_1 h2) h2 fun s11 h3 =>
 guardM (asG s7 false) false (fun k_4 => pop P (lenS 22 3 s11) fun s12 =>
 k_4 s12 h3) h3 fun s12b h4 =>
 guardM (asG s7 false) false (fun k_5 => pop P (binA .sub 3 (.int .i64 1048576) s12b) fun s13 =>
 k_5 s13 h4) h4 fun s13b h5 =>
 guardM (asG s7 false) false (fun k_6 => pop P (binA .gtr 3 s10b s13b) fun s14 =>
 k_6 s14 h5) h5 fun s14b h6 =>
 pop P (pickS s7 (Value.bool true) s14b) fun s15 =>
 K s15 h6
theorem e5 (code0_1 : Value) (more1_1 : Value) (h : Heap) (K : Value -> Heap -> Prop) : wpA Tryz.prog 16 (anOf []) (bodyOf Tryz.f5) 1 (fun A h => resA Tryz.prog A h K [.tmp 4]) (fun _ _ _ => False) (fun A h => resA Tryz.prog A h K [.tmp 4]) (aargs [code0_1, more1_1] 0) h = t5 Tryz.prog code0_1 more1_1 h K := by kernel_rfl
theorem c5 (code0_1 : Value) (more1_1 : Value) (h : Heap) (K : Value -> Heap -> Prop) (H : t5 Tryz.prog code0_1 more1_1 h K) : callM Tryz.prog 5 #[code0_1, more1_1] h K :=
  callM_of_wpA mixed (fn := Tryz.f5) Tryz.func5 (c := bodyOf Tryz.f5) rfl (of_decide_eq_true (by kernel_rfl)) (anOf []) 14 16 (by kernel_rfl) rfl [.tmp 4] (by kernel_rfl) (args := [code0_1, more1_1]) (by rw [e5]; exact H)
def t16 (P : Program) (a0_1 : Value) (b1_1 : Value) (h : Heap) (K : Value -> Heap -> Prop) : Prop :=
 pop P (lenS 33 3 a0_1) fun s7 =>
 pop P (lenS 33 3 b1_1) fun s9 =>
 pop P (binE .neq 3 (.tmp 7) (.tmp 9) s7 s9) fun s10 =>
 condM s10
 (K (Value.bool false) h)
 (pop P (lenS 33 3 a0_1) fun s12 =>
 ∃ (I1 : List Value -> Heap -> Prop) (μ_1 : List Value -> Heap -> Nat), I1 [(.int .i64 0)] h /\
 ∀ (junk1 : Nat -> Value) (s13 : Value) (h1 : Heap), I1 [s13] h1 ->
 pop P (binA .lss 3 s13 s12) fun s14 =>
 condM s14
 (pop P (Instr.indexAt 33 a0_1 s13) fun s18 =>
 rop P (Instr.loadAt 3 s18) h1 fun s19 =>
 pop P (Instr.indexAt 33 b1_1 s13) fun s22 =>
 rop P (Instr.loadAt 3 s22) h1 fun s23 =>
 pop P (binE .neq 3 (.tmp 19) (.tmp 23) s19 s23) fun s24 =>
 condM s24
 (K (Value.bool false) h1)
 (pop P (binA .add 3 s13 (.int .i64 1)) fun s25 =>
 I1 [s25] h1 /\ μ_1 [s25] h1 < μ_1 [s13] h1))
 (K (Value.bool true) h1))
theorem e16 (a0_1 : Value) (b1_1 : Value) (h : Heap) (K : Value -> Heap -> Prop) : wpA Tryz.prog 26 (anOf [(58, [13])]) (bodyOf Tryz.f16) 1 (fun A h => resA Tryz.prog A h K [.tmp 4]) (fun _ _ _ => False) (fun A h => resA Tryz.prog A h K [.tmp 4]) (aargs [a0_1, b1_1] 0) h = t16 Tryz.prog a0_1 b1_1 h K := by kernel_rfl
theorem c16 (a0_1 : Value) (b1_1 : Value) (h : Heap) (K : Value -> Heap -> Prop) (H : t16 Tryz.prog a0_1 b1_1 h K) : callM Tryz.prog 16 #[a0_1, b1_1] h K :=
  callM_of_wpA mixed (fn := Tryz.f16) Tryz.func16 (c := bodyOf Tryz.f16) rfl (of_decide_eq_true (by kernel_rfl)) (anOf [(58, [13])]) 24 26 (by kernel_rfl) rfl [.tmp 4] (by kernel_rfl) (args := [a0_1, b1_1]) (by rw [e16]; exact H)
def t29 (P : Program) (code0_1 : Value) (h : Heap) (K : Value -> Heap -> Prop) : Prop :=
 eop P (Instr.alloc 26 true (.tuple #[])) h fun s2 h1 =>
 eop P (Instr.alloc 54 true (.tuple #[])) h1 fun s3 h2 =>
 pop P (Instr.build 84 #[(0, code0_1)]) fun s7 =>
 eop P (Instr.box 84 s7) h2 fun s8 h3 =>
 ∃ J1 : List Value -> Heap -> Prop, (callM P 68 #[s8, (.int .i64 2)] h3 fun s10 h4 =>
 condM s10
 (callM P 81 #[s8] h4 fun s12 h5 =>
 eop P (Instr.alloc 26 true (.tuple #[])) h5 fun g5_1 h6 =>
 uop P (Instr.storeAt 26 g5_1 s12) h6 fun q1 h7 =>
 rop P (Instr.loadAt 26 g5_1) h7 fun s13 =>
 callM P 82 #[s13] h7 fun s14 h8 =>
 condM s14
 (rop P (Instr.loadAt 26 g5_1) h8 fun s15 =>
 rop P (Instr.loadAt 26 g5_1) h8 fun s17 =>
 callM P 83 #[s8, s17] h8 fun s18 h9 =>
 (∀ w : World, w.heap = h9 -> (Instr.loadAt 26 g5_1).run P w = .ok s15 w) /\
 uop P (Instr.storeAt 26 s2 s15) h9 fun q2 h10 =>
 uop P (Instr.storeAt 54 s3 s18) h10 fun q3 h11 =>
 rop P (Instr.loadAt 26 s2) h11 fun r_1 =>
 rop P (Instr.loadAt 54 s3) h11 fun r_2 =>
 K (.tuple #[r_1, r_2]) h11)
 (J1 [] h8))
 (J1 [] h4)) /\
 ∀ (junk1 : Nat -> Value) (h12 : Heap), J1 [] h12 ->
 callM P 67 #[s8] h12 fun s20 h13 =>
 pop P (Instr.extract s20 0) fun s21 =>
 pop P (Instr.extract s20 1) fun s22 =>
 uop P (Instr.storeAt 26 s2 s21) h13 fun q4 h14 =>
 uop P (Instr.storeAt 54 s3 s22) h14 fun q5 h15 =>
 rop P (Instr.loadAt 26 s2) h15 fun r_3 =>
 rop P (Instr.loadAt 54 s3) h15 fun r_4 =>
 K (.tuple #[r_3, r_4]) h15
theorem e29 (code0_1 : Value) (h : Heap) (K : Value -> Heap -> Prop) : wpA Tryz.prog 23 (anOf [(7, [])]) (bodyOf Tryz.f29) 1 (fun A h => resA Tryz.prog A h K [.cell 2 26, .cell 3 54]) (fun _ _ _ => False) (fun A h => resA Tryz.prog A h K [.cell 2 26, .cell 3 54]) (aargs [code0_1] 0) h = t29 Tryz.prog code0_1 h K := by kernel_rfl
theorem c29 (code0_1 : Value) (h : Heap) (K : Value -> Heap -> Prop) (H : t29 Tryz.prog code0_1 h K) : callM Tryz.prog 29 #[code0_1] h K :=
  callM_of_wpA mixed (fn := Tryz.f29) Tryz.func29 (c := bodyOf Tryz.f29) rfl (of_decide_eq_true (by kernel_rfl)) (anOf [(7, [])]) 22 23 (by kernel_rfl) rfl [.cell 2 26, .cell 3 54] (by kernel_rfl) (args := [code0_1]) (by rw [e29]; exact H)
def t30 (P : Program) (g0_1 : Value) (w1_1 : Value) (h : Heap) (K : Value -> Heap -> Prop) : Prop :=
 eop P (Instr.box 26 g0_1) h fun g2_1 h1 =>
 eop P (Instr.box 54 w1_1) h1 fun w3_1 h2 =>
 rop P (Instr.loadAt 26 g2_1) h2 fun s7 =>
 rop P (Instr.loadAt 54 w3_1) h2 fun s8 =>
 callM P 84 #[s7, s8] h2 fun s9 h3 =>
 pop P (Op.unary .not s9) fun s10 =>
 condM s10
 (K (.tuple #[(.int .i64 0), (.int .i64 0), (Value.bool false)]) h3)
 (rop P (Instr.loadAt 26 g2_1) h3 fun s11 =>
 rop P (Instr.loadAt 54 w3_1) h3 fun s12 =>
 callM P 85 #[s11, s12] h3 fun s13 h4 =>
 pop P (Instr.extract s13 0) fun s14 =>
 pop P (Instr.extract s13 1) fun s15 =>
 pop P (Instr.extract s13 2) fun s16 =>
 K (.tuple #[s14, s15, s16]) h4)
theorem e30 (g0_1 : Value) (w1_1 : Value) (h : Heap) (K : Value -> Heap -> Prop) : wpA Tryz.prog 17 (anOf []) (bodyOf Tryz.f30) 1 (fun A h => resA Tryz.prog A h K [.tmp 4, .tmp 5, .tmp 6]) (fun _ _ _ => False) (fun A h => resA Tryz.prog A h K [.tmp 4, .tmp 5, .tmp 6]) (aargs [g0_1, w1_1] 0) h = t30 Tryz.prog g0_1 w1_1 h K := by kernel_rfl
theorem c30 (g0_1 : Value) (w1_1 : Value) (h : Heap) (K : Value -> Heap -> Prop) (H : t30 Tryz.prog g0_1 w1_1 h K) : callM Tryz.prog 30 #[g0_1, w1_1] h K :=
  callM_of_wpA mixed (fn := Tryz.f30) Tryz.func30 (c := bodyOf Tryz.f30) rfl (of_decide_eq_true (by kernel_rfl)) (anOf []) 15 17 (by kernel_rfl) rfl [.tmp 4, .tmp 5, .tmp 6] (by kernel_rfl) (args := [g0_1, w1_1]) (by rw [e30]; exact H)
def t31 (P : Program) (g0_1 : Value) (w1_1 : Value) (h : Heap) (K : Value -> Heap -> Prop) : Prop :=
 eop P (Instr.box 26 g0_1) h fun g2_1 h1 =>
 eop P (Instr.box 54 w1_1) h1 fun w3_1 h2 =>
 rop P (Instr.loadAt 26 g2_1) h2 fun s10 =>
 rop P (Instr.loadAt 54 w3_1) h2 fun s11 =>
 callM P 73 #[s10, s11] h2 fun s12 h3 =>
 pop P (Op.unary .not s12) fun s13 =>
 condM s13
 (K (.tuple #[(.int .i64 0), (.int .i64 0), (Value.bool false)]) h3)
 (rop P (Instr.loadAt 26 g2_1) h3 fun s15 =>
 rop P (Instr.loadAt 54 w3_1) h3 fun s16 =>
 callM P 86 #[s15, s16] h3 fun s17 h4 =>
 pop P (Instr.extract s17 0) fun s18 =>
 pop P (Instr.extract s17 1) fun s19 =>
 pop P (Instr.extract s17 2) fun s20 =>
 eop P (Instr.alloc 54 true (.tuple #[])) h4 fun _8_1 h5 =>
 uop P (Instr.storeAt 54 _8_1 s19) h5 fun q1 h6 =>
 pop P (binE .eql 3 (.tmp 21) (.const (.int .i64 0)) s20 (.int .i64 0)) fun s22 =>
 condM s22
 (K (.tuple #[(.int .i64 0), (.int .i64 0), (Value.bool false)]) h6)
 (K (.tuple #[s18, s20, (Value.bool true)]) h6))
theorem e31 (g0_1 : Value) (w1_1 : Value) (h : Heap) (K : Value -> Heap -> Prop) : wpA Tryz.prog 25 (anOf []) (bodyOf Tryz.f31) 1 (fun A h => resA Tryz.prog A h K [.tmp 4, .tmp 5, .tmp 6]) (fun _ _ _ => False) (fun A h => resA Tryz.prog A h K [.tmp 4, .tmp 5, .tmp 6]) (aargs [g0_1, w1_1] 0) h = t31 Tryz.prog g0_1 w1_1 h K := by kernel_rfl
theorem c31 (g0_1 : Value) (w1_1 : Value) (h : Heap) (K : Value -> Heap -> Prop) (H : t31 Tryz.prog g0_1 w1_1 h K) : callM Tryz.prog 31 #[g0_1, w1_1] h K :=
  callM_of_wpA mixed (fn := Tryz.f31) Tryz.func31 (c := bodyOf Tryz.f31) rfl (of_decide_eq_true (by kernel_rfl)) (anOf []) 23 25 (by kernel_rfl) rfl [.tmp 4, .tmp 5, .tmp 6] (by kernel_rfl) (args := [g0_1, w1_1]) (by rw [e31]; exact H)
def t32 (P : Program) (g0_1 : Value) (w1_1 : Value) (h : Heap) (K : Value -> Heap -> Prop) : Prop :=
 eop P (Instr.box 26 g0_1) h fun g2_1 h1 =>
 eop P (Instr.box 54 w1_1) h1 fun w3_1 h2 =>
 rop P (Instr.loadAt 26 g2_1) h2 fun s8 =>
 rop P (Instr.loadAt 54 w3_1) h2 fun s9 =>
 callM P 84 #[s8, s9] h2 fun s10 h3 =>
 pop P (Op.unary .not s10) fun s11 =>
 condM s11
 (K (.tuple #[(Value.bool false), (Value.bool false)]) h3)
 (rop P (Instr.loadAt 26 g2_1) h3 fun s13 =>
 rop P (Instr.loadAt 54 w3_1) h3 fun s14 =>
 rop P (Instr.loadAt 54 w3_1) h3 fun s15 =>
 pop P (Instr.makeFunc (Fn.func 88) #[s15] #[]) fun s16 =>
 callM P 87 #[s13, s14, (.int .i64 1), s16] h3 fun s17 h4 =>
 pop P (Instr.extract s17 0) fun s18 =>
 pop P (Instr.extract s17 1) fun s19 =>
 K (.tuple #[s19, (Value.bool true)]) h4)
theorem e32 (g0_1 : Value) (w1_1 : Value) (h : Heap) (K : Value -> Heap -> Prop) : wpA Tryz.prog 21 (anOf []) (bodyOf Tryz.f32) 1 (fun A h => resA Tryz.prog A h K [.tmp 4, .tmp 5]) (fun _ _ _ => False) (fun A h => resA Tryz.prog A h K [.tmp 4, .tmp 5]) (aargs [g0_1, w1_1] 0) h = t32 Tryz.prog g0_1 w1_1 h K := by kernel_rfl
theorem c32 (g0_1 : Value) (w1_1 : Value) (h : Heap) (K : Value -> Heap -> Prop) (H : t32 Tryz.prog g0_1 w1_1 h K) : callM Tryz.prog 32 #[g0_1, w1_1] h K :=
  callM_of_wpA mixed (fn := Tryz.f32) Tryz.func32 (c := bodyOf Tryz.f32) rfl (of_decide_eq_true (by kernel_rfl)) (anOf []) 19 21 (by kernel_rfl) rfl [.tmp 4, .tmp 5] (by kernel_rfl) (args := [g0_1, w1_1]) (by rw [e32]; exact H)
def t33 (P : Program) (g0_1 : Value) (w1_1 : Value) (h : Heap) (K : Value -> Heap -> Prop) : Prop :=
 eop P (Instr.box 26 g0_1) h fun g2_1 h1 =>
 eop P (Instr.box 54 w1_1) h1 fun w3_1 h2 =>
 rop P (Instr.loadAt 26 g2_1) h2 fun s6 =>
 rop P (Instr.loadAt 54 w3_1) h2 fun s7 =>
 callM P 73 #[s6, s7] h2 fun s8 h3 =>
 pop P (Op.unary .not s8) fun s9 =>
 condM s9
 (K (.tuple #[(Value.bool false), (Value.bool false)]) h3)
 (rop P (Instr.loadAt 26 g2_1) h3 fun s10 =>
 rop P (Instr.loadAt 54 w3_1) h3 fun s11 =>
 callM P 89 #[s10, s11, (.int .i64 2000)] h3 fun s12 h4 =>
 pop P (binA .gtr 3 s12 (.int .i64 0)) fun s13 =>
 K (.tuple #[s13, (Value.bool true)]) h4)
theorem e33 (g0_1 : Value) (w1_1 : Value) (h : Heap) (K : Value -> Heap -> Prop) : wpA Tryz.prog 14 (anOf []) (bodyOf Tryz.f33) 1 (fun A h => resA Tryz.prog A h K [.tmp 4, .tmp 5]) (fun _ _ _ => False) (fun A h => resA Tryz.prog A h K [.tmp 4, .tmp 5]) (aargs [g0_1, w1_1] 0) h = t33 Tryz.prog g0_1 w1_1 h K := by kernel_rfl
theorem c33 (g0_1 : Value) (w1_1 : Value) (h : Heap) (K : Value -> Heap -> Prop) (H : t33 Tryz.prog g0_1 w1_1 h K) : callM Tryz.prog 33 #[g0_1, w1_1] h K :=
  callM_of_wpA mixed (fn := Tryz.f33) Tryz.func33 (c := bodyOf Tryz.f33) rfl (of_decide_eq_true (by kernel_rfl)) (anOf []) 12 14 (by kernel_rfl) rfl [.tmp 4, .tmp 5] (by kernel_rfl) (args := [g0_1, w1_1]) (by rw [e33]; exact H)
def t34 (P : Program) (g0_1 : Value) (w1_1 : Value) (n2_1 : Value) (h : Heap) (K : Value -> Heap -> Prop) : Prop :=
 eop P (Instr.box 26 g0_1) h fun g3_1 h1 =>
 eop P (Instr.box 54 w1_1) h1 fun w4_1 h2 =>
 eop P (Instr.alloc 54 true (.tuple #[])) h2 fun s6 h3 =>
 rop P (Instr.loadAt 26 g3_1) h3 fun s9 =>
 rop P (Instr.loadAt 54 w4_1) h3 fun s10 =>
 callM P 90 #[s9, s10, n2_1, (.int .i64 2000)] h3 fun s12 h4 =>
 pop P (Op.unary .not s12) fun s13 =>
 condM s13
 (pop P (Instr.build 54 #[]) fun s14 =>
 uop P (Instr.storeAt 54 s6 s14) h4 fun q1 h5 =>
 rop P (Instr.loadAt 54 s6) h5 fun r_1 =>
 K (.tuple #[r_1, (Value.bool false)]) h5)
 (rop P (Instr.loadAt 54 w4_1) h4 fun s15 =>
 callM P 91 #[s15] h4 fun s16 h6 =>
 eop P (Instr.alloc 54 true (.tuple #[])) h6 fun out8_1 h7 =>
 uop P (Instr.storeAt 54 out8_1 s16) h7 fun q2 h8 =>
 rop P (Instr.loadAt 26 g3_1) h8 fun s17 =>
 callM P 92 #[s17, out8_1, n2_1, (.func (.func 93) #[] #[])] h8 fun s19 h9 =>
 pop P (Op.unary .not s19) fun s20 =>
 condM s20
 (pop P (Instr.build 54 #[]) fun s21 =>
 uop P (Instr.storeAt 54 s6 s21) h9 fun q3 h10 =>
 rop P (Instr.loadAt 54 s6) h10 fun r_2 =>
 K (.tuple #[r_2, (Value.bool false)]) h10)
 (rop P (Instr.loadAt 54 out8_1) h9 fun s22 =>
 uop P (Instr.storeAt 54 s6 s22) h9 fun q4 h11 =>
 rop P (Instr.loadAt 54 s6) h11 fun r_3 =>
 K (.tuple #[r_3, (Value.bool true)]) h11))
theorem e34 (g0_1 : Value) (w1_1 : Value) (n2_1 : Value) (h : Heap) (K : Value -> Heap -> Prop) : wpA Tryz.prog 23 (anOf []) (bodyOf Tryz.f34) 1 (fun A h => resA Tryz.prog A h K [.cell 6 54, .tmp 7]) (fun _ _ _ => False) (fun A h => resA Tryz.prog A h K [.cell 6 54, .tmp 7]) (aargs [g0_1, w1_1, n2_1] 0) h = t34 Tryz.prog g0_1 w1_1 n2_1 h K := by kernel_rfl
theorem c34 (g0_1 : Value) (w1_1 : Value) (n2_1 : Value) (h : Heap) (K : Value -> Heap -> Prop) (H : t34 Tryz.prog g0_1 w1_1 n2_1 h K) : callM Tryz.prog 34 #[g0_1, w1_1, n2_1] h K :=
  callM_of_wpA mixed (fn := Tryz.f34) Tryz.func34 (c := bodyOf Tryz.f34) rfl (of_decide_eq_true (by kernel_rfl)) (anOf []) 20 23 (by kernel_rfl) rfl [.cell 6 54, .tmp 7] (by kernel_rfl) (args := [g0_1, w1_1, n2_1]) (by rw [e34]; exact H)
def t35 (P : Program) (g0_1 : Value) (h : Heap) (K : Value -> Heap -> Prop) : Prop :=
 eop P (Instr.box 26 g0_1) h fun g1_1 h1 =>
 rop P (Instr.loadAt 26 g1_1) h1 fun s4 =>
 callM P 94 #[s4] h1 fun s5 h2 =>
 pop P (Op.unary .not s5) fun s6 =>
 condM s6
 (K (.tuple #[(Value.bool false), (Value.bool false)]) h2)
 (rop P (Instr.loadAt 26 g1_1) h2 fun s7 =>
 callM P 95 #[s7] h2 fun s8 h3 =>
 K (.tuple #[s8, (Value.bool true)]) h3)
theorem e35 (g0_1 : Value) (h : Heap) (K : Value -> Heap -> Prop) : wpA Tryz.prog 9 (anOf []) (bodyOf Tryz.f35) 1 (fun A h => resA Tryz.prog A h K [.tmp 2, .tmp 3]) (fun _ _ _ => False) (fun A h => resA Tryz.prog A h K [.tmp 2, .tmp 3]) (aargs [g0_1] 0) h = t35 Tryz.prog g0_1 h K := by kernel_rfl
theorem c35 (g0_1 : Value) (h : Heap) (K : Value -> Heap -> Prop) (H : t35 Tryz.prog g0_1 h K) : callM Tryz.prog 35 #[g0_1] h K :=
  callM_of_wpA mixed (fn := Tryz.f35) Tryz.func35 (c := bodyOf Tryz.f35) rfl (of_decide_eq_true (by kernel_rfl)) (anOf []) 8 9 (by kernel_rfl) rfl [.tmp 2, .tmp 3] (by kernel_rfl) (args := [g0_1]) (by rw [e35]; exact H)
def t36 (P : Program) (g0_1 : Value) (h : Heap) (K : Value -> Heap -> Prop) : Prop :=
 eop P (Instr.box 26 g0_1) h fun g1_1 h1 =>
 rop P (Instr.loadAt 26 g1_1) h1 fun s4 =>
 callM P 94 #[s4] h1 fun s5 h2 =>
 pop P (Op.unary .not s5) fun s6 =>
 condM s6
 (K (.tuple #[(Value.bool false), (Value.bool false)]) h2)
 (rop P (Instr.loadAt 26 g1_1) h2 fun s7 =>
 callM P 96 #[s7] h2 fun s8 h3 =>
 K (.tuple #[s8, (Value.bool true)]) h3)
theorem e36 (g0_1 : Value) (h : Heap) (K : Value -> Heap -> Prop) : wpA Tryz.prog 9 (anOf []) (bodyOf Tryz.f36) 1 (fun A h => resA Tryz.prog A h K [.tmp 2, .tmp 3]) (fun _ _ _ => False) (fun A h => resA Tryz.prog A h K [.tmp 2, .tmp 3]) (aargs [g0_1] 0) h = t36 Tryz.prog g0_1 h K := by kernel_rfl
theorem c36 (g0_1 : Value) (h : Heap) (K : Value -> Heap -> Prop) (H : t36 Tryz.prog g0_1 h K) : callM Tryz.prog 36 #[g0_1] h K :=
  callM_of_wpA mixed (fn := Tryz.f36) Tryz.func36 (c := bodyOf Tryz.f36) rfl (of_decide_eq_true (by kernel_rfl)) (anOf []) 8 9 (by kernel_rfl) rfl [.tmp 2, .tmp 3] (by kernel_rfl) (args := [g0_1]) (by rw [e36]; exact H)
def t37 (P : Program) (g0_1 : Value) (h : Heap) (K : Value -> Heap -> Prop) : Prop :=
 eop P (Instr.box 26 g0_1) h fun g1_1 h1 =>
 rop P (Instr.loadAt 26 g1_1) h1 fun s4 =>
 callM P 94 #[s4] h1 fun s5 h2 =>
 pop P (Op.unary .not s5) fun s6 =>
 condM s6
 (K (.tuple #[(.int .i64 0), (Value.bool false)]) h2)
 (pop P (Instr.fieldAt 26 g1_1 0) fun s7 =>
 rop P (Instr.loadAt 24 s7) h2 fun s8 =>
 callM P 97 #[s8] h2 fun s9 h3 =>
 pop P (lenS 33 3 s9) fun s10 =>
 K (.tuple #[s10, (Value.bool true)]) h3)
theorem e37 (g0_1 : Value) (h : Heap) (K : Value -> Heap -> Prop) : wpA Tryz.prog 11 (anOf []) (bodyOf Tryz.f37) 1 (fun A h => resA Tryz.prog A h K [.tmp 2, .tmp 3]) (fun _ _ _ => False) (fun A h => resA Tryz.prog A h K [.tmp 2, .tmp 3]) (aargs [g0_1] 0) h = t37 Tryz.prog g0_1 h K := by kernel_rfl
theorem c37 (g0_1 : Value) (h : Heap) (K : Value -> Heap -> Prop) (H : t37 Tryz.prog g0_1 h K) : callM Tryz.prog 37 #[g0_1] h K :=
  callM_of_wpA mixed (fn := Tryz.f37) Tryz.func37 (c := bodyOf Tryz.f37) rfl (of_decide_eq_true (by kernel_rfl)) (anOf []) 10 11 (by kernel_rfl) rfl [.tmp 2, .tmp 3] (by kernel_rfl) (args := [g0_1]) (by rw [e37]; exact H)
def t38 (P : Program) (a0_1 : Value) (b1_1 : Value) (h : Heap) (K : Value -> Heap -> Prop) : Prop :=
 eop P (Instr.box 54 a0_1) h fun a2_1 h1 =>
 eop P (Instr.box 54 b1_1) h1 fun b3_1 h2 =>
 pop P (Instr.fieldAt 54 a2_1 1) fun s5 =>
 rop P (Instr.loadAt 3 s5) h2 fun s6 =>
 pop P (Instr.fieldAt 54 b3_1 1) fun s7 =>
 rop P (Instr.loadAt 3 s7) h2 fun s8 =>
 pop P (binE .eql 3 (.tmp 6) (.tmp 8) s6 s8) fun s9 =>
 guardM (asG s9 true) true (fun k_1 => pop P (Instr.fieldAt 54 a2_1 0) fun s11 =>
 k_1 s11 h2) h2 fun s11b h3 =>
 guardM (asG s9 true) true (fun k_2 => rop P (Instr.loadAt 33 s11b) h3 fun s12 =>
 k_2 s12 h3) h3 fun s12b h4 =>
 guardM (asG s9 true) true (fun k_3 => pop P (Instr.fieldAt 54 b3_1 0) fun s13 =>
 k_3 s13 h4) h4 fun s13b h5 =>
 guardM (asG s9 true) true (fun k_4 => rop P (Instr.loadAt 33 s13b) h5 fun s14 =>
 k_4 s14 h5) h5 fun s14b h6 =>
 guardM (asG s9 true) true (fun k_5 => callM P 16 #[s12b, s14b] h6 fun s15 h7 =>
 k_5 s15 h7) h6 fun s15b h8 =>
 pop P (pickS s9 s15b (Value.bool false)) fun s16 =>
 K s16 h8
theorem e38 (a0_1 : Value) (b1_1 : Value) (h : Heap) (K : Value -> Heap -> Prop) : wpA Tryz.prog 17 (anOf []) (bodyOf Tryz.f38) 1 (fun A h => resA Tryz.prog A h K [.tmp 4]) (fun _ _ _ => False) (fun A h => resA Tryz.prog A h K [.tmp 4]) (aargs [a0_1, b1_1] 0) h = t38 Tryz.prog a0_1 b1_1 h K := by kernel_rfl
theorem c38 (a0_1 : Value) (b1_1 : Value) (h : Heap) (K : Value -> Heap -> Prop) (H : t38 Tryz.prog a0_1 b1_1 h K) : callM Tryz.prog 38 #[a0_1, b1_1] h K :=
  callM_of_wpA mixed (fn := Tryz.f38) Tryz.func38 (c := bodyOf Tryz.f38) rfl (of_decide_eq_true (by kernel_rfl)) (anOf []) 15 17 (by kernel_rfl) rfl [.tmp 4] (by kernel_rfl) (args := [a0_1, b1_1]) (by rw [e38]; exact H)
def t39 (P : Program) (g0_1 : Value) (w1_1 : Value) (h : Heap) (K : Value -> Heap -> Prop) : Prop :=
 eop P (Instr.box 26 g0_1) h fun g2_1 h1 =>
 eop P (Instr.box 54 w1_1) h1 fun w3_1 h2 =>
 rop P (Instr.loadAt 26 g2_1) h2 fun s6 =>
 rop P (Instr.loadAt 54 w3_1) h2 fun s7 =>
 callM P 84 #[s6, s7] h2 fun s8 h3 =>
 pop P (Op.unary .not s8) fun s9 =>
 condM s9
 (K (.tuple #[(Value.bool false), (Value.bool false)]) h3)
 (rop P (Instr.loadAt 26 g2_1) h3 fun s10 =>
 rop P (Instr.loadAt 54 w3_1) h3 fun s11 =>
 callM P 98 #[s10, s11] h3 fun s12 h4 =>
 K (.tuple #[s12, (Value.bool true)]) h4)
theorem e39 (g0_1 : Value) (w1_1 : Value) (h : Heap) (K : Value -> Heap -> Prop) : wpA Tryz.prog 13 (anOf []) (bodyOf Tryz.f39) 1 (fun A h => resA Tryz.prog A h K [.tmp 4, .tmp 5]) (fun _ _ _ => False) (fun A h => resA Tryz.prog A h K [.tmp 4, .tmp 5]) (aargs [g0_1, w1_1] 0) h = t39 Tryz.prog g0_1 w1_1 h K := by kernel_rfl
theorem c39 (g0_1 : Value) (w1_1 : Value) (h : Heap) (K : Value -> Heap -> Prop) (H : t39 Tryz.prog g0_1 w1_1 h K) : callM Tryz.prog 39 #[g0_1, w1_1] h K :=
  callM_of_wpA mixed (fn := Tryz.f39) Tryz.func39 (c := bodyOf Tryz.f39) rfl (of_decide_eq_true (by kernel_rfl)) (anOf []) 11 13 (by kernel_rfl) rfl [.tmp 4, .tmp 5] (by kernel_rfl) (args := [g0_1, w1_1]) (by rw [e39]; exact H)
def t40 (P : Program) (code0_1 : Value) (h : Heap) (K : Value -> Heap -> Prop) : Prop :=
 eop P (Instr.alloc 26 true (.tuple #[])) h fun s2 h1 =>
 pop P (Instr.build 84 #[(0, code0_1)]) fun s7 =>
 eop P (Instr.box 84 s7) h1 fun s8 h2 =>
 callM P 81 #[s8] h2 fun s10 h3 =>
 eop P (Instr.alloc 26 true (.tuple #[])) h3 fun g5_1 h4 =>
 uop P (Instr.storeAt 26 g5_1 s10) h4 fun q1 h5 =>
 rop P (Instr.loadAt 26 g5_1) h5 fun s11 =>
 rop P (Instr.loadAt 26 g5_1) h5 fun s13 =>
 callM P 61 #[s8, s13] h5 fun s14 h6 =>
 (∀ w : World, w.heap = h6 -> (Instr.loadAt 26 g5_1).run P w = .ok s11 w) /\
 uop P (Instr.storeAt 26 s2 s11) h6 fun q2 h7 =>
 rop P (Instr.loadAt 26 s2) h7 fun r_1 =>
 K (.tuple #[r_1, s14]) h7
theorem e40 (code0_1 : Value) (h : Heap) (K : Value -> Heap -> Prop) : wpA Tryz.prog 15 (anOf []) (bodyOf Tryz.f40) 1 (fun A h => resA Tryz.prog A h K [.cell 2 26, .tmp 3]) (fun _ _ _ => False) (fun A h => resA Tryz.prog A h K [.cell 2 26, .tmp 3]) (aargs [code0_1] 0) h = t40 Tryz.prog code0_1 h K := by kernel_rfl
theorem c40 (code0_1 : Value) (h : Heap) (K : Value -> Heap -> Prop) (H : t40 Tryz.prog code0_1 h K) : callM Tryz.prog 40 #[code0_1] h K :=
  callM_of_wpA mixed (fn := Tryz.f40) Tryz.func40 (c := bodyOf Tryz.f40) rfl (of_decide_eq_true (by kernel_rfl)) (anOf []) 14 15 (by kernel_rfl) rfl [.cell 2 26, .tmp 3] (by kernel_rfl) (args := [code0_1]) (by rw [e40]; exact H)
def t41 (P : Program) (g0_1 : Value) (p1_1 : Value) (h : Heap) (K : Value -> Heap -> Prop) : Prop :=
 eop P (Instr.box 26 g0_1) h fun g2_1 h1 =>
 rop P (Instr.loadAt 26 g2_1) h1 fun s12 =>
 eop P (Instr.buildSlice 33 1 #[(0, p1_1)]) h1 fun s14 h2 =>
 callM P 54 #[s12, s14] h2 fun s15 h3 =>
 pop P (Op.unary .not s15) fun s16 =>
 guardM (asG s16 false) false (fun k_1 => rop P (Instr.loadAt 26 g2_1) h3 fun s18 =>
 k_1 s18 h3) h3 fun s18b h4 =>
 guardM (asG s16 false) false (fun k_2 => callM P 95 #[s18b] h4 fun s19 h5 =>
 k_2 s19 h5) h4 fun s19b h6 =>
 guardM (asG s16 false) false (fun k_3 => pop P (Op.unary .not s19b) fun s20 =>
 k_3 s20 h6) h6 fun s20b h7 =>
 pop P (pickS s16 (Value.bool true) s20b) fun s21 =>
 guardM (asG s21 false) false (fun k_4 => rop P (Instr.loadAt 26 g2_1) h7 fun s23 =>
 k_4 s23 h7) h7 fun s23b h8 =>
 guardM (asG s21 false) false (fun k_5 => callM P 96 #[s23b] h8 fun s24 h9 =>
 k_5 s24 h9) h8 fun s24b h10 =>
 guardM (asG s21 false) false (fun k_6 => pop P (Op.unary .not s24b) fun s25 =>
 k_6 s25 h10) h10 fun s25b h11 =>
 pop P (pickS s21 (Value.bool true) s25b) fun s26 =>
 condM s26
 (K (.tuple #[(Value.slice none 0 0), (Value.bool false)]) h11)
 (pop P (Instr.fieldAt 26 g2_1 0) fun s27 =>
 rop P (Instr.loadAt 24 s27) h11 fun s28 =>
 callM P 97 #[s28] h11 fun s29 h12 =>
 pop P (lenS 33 3 s29) fun s30 =>
 pop P (Instr.fieldAt 26 g2_1 0) fun s31 =>
 rop P (Instr.loadAt 24 s31) h12 fun s32 =>
 pop P (lenS 24 3 s32) fun s33 =>
 eop P (Instr.makeSlice 33 s33 s33) h12 fun s34 h13 =>
 pop P (Instr.build 54 #[(0, s34), (1, p1_1)]) fun s36 =>
 eop P (Instr.alloc 54 true (.tuple #[])) h13 fun w7_1 h14 =>
 uop P (Instr.storeAt 54 w7_1 s36) h14 fun q1 h15 =>
 rop P (Instr.loadAt 26 g2_1) h15 fun s38 =>
 rop P (Instr.loadAt 54 w7_1) h15 fun s39 =>
 callM P 85 #[s38, s39] h15 fun s40 h16 =>
 pop P (Instr.extract s40 0) fun s41 =>
 pop P (Instr.extract s40 1) fun s42 =>
 pop P (Instr.extract s40 2) fun s43 =>
 pop P (binE .eql 3 (.tmp 44) (.const (.int .i64 0)) s30 (.int .i64 0)) fun s45 =>
 guardM (asG s45 false) false (fun k_7 => k_7 s43 h16) h16 fun s47 h17 =>
 guardM (asG s45 false) false (fun k_8 => pop P (Op.unary .not s47) fun s48 =>
 k_8 s48 h17) h17 fun s48b h18 =>
 pop P (pickS s45 (Value.bool true) s48b) fun s49 =>
 condM s49
 (K (.tuple #[(Value.slice none 0 0), (Value.bool false)]) h18)
 (rop P (Instr.loadAt 26 g2_1) h18 fun s50 =>
 callM P 92 #[s50, w7_1, s41, (.func (.func 99) #[] #[])] h18 fun s52 h19 =>
 ∃ (I1 : List Value -> Heap -> Prop) (μ_1 : List Value -> Heap -> Nat), I1 [] h19 /\
 ∀ (junk1 : Nat -> Value) (h20 : Heap), I1 [] h20 ->
 pop P (Instr.fieldAt 54 w7_1 1) fun s53 =>
 rop P (Instr.loadAt 3 s53) h20 fun s54 =>
 pop P (binE .neq 3 (.tmp 54) (.tmp 55) s54 p1_1) fun s56 =>
 condM s56
 (rop P (Instr.loadAt 26 g2_1) h20 fun s57 =>
 callM P 100 #[s57, w7_1] h20 fun s58 h21 =>
 I1 [] h21 /\ μ_1 [] h21 < μ_1 [] h20)
 (eop P (Instr.buildSlice 33 1 #[(0, p1_1)]) h20 fun s60 h22 =>
 eop P (Instr.alloc 33 true (.tuple #[])) h22 fun out11_1 h23 =>
 uop P (Instr.storeAt 33 out11_1 s60) h23 fun q2 h24 =>
 rop P (Instr.loadAt 26 g2_1) h24 fun s61 =>
 pop P (Instr.makeFunc (Fn.func 101) #[] #[out11_1, w7_1]) fun s63 =>
 callM P 92 #[s61, w7_1, s30, s63] h24 fun s64 h25 =>
 rop P (Instr.loadAt 33 out11_1) h25 fun s65 =>
 K (.tuple #[s65, (Value.bool true)]) h25)))
theorem e41 (g0_1 : Value) (p1_1 : Value) (h : Heap) (K : Value -> Heap -> Prop) : wpA Tryz.prog 66 (anOf [(1020, [])]) (bodyOf Tryz.f41) 1 (fun A h => resA Tryz.prog A h K [.tmp 4, .tmp 5]) (fun _ _ _ => False) (fun A h => resA Tryz.prog A h K [.tmp 4, .tmp 5]) (aargs [g0_1, p1_1] 0) h = t41 Tryz.prog g0_1 p1_1 h K := by kernel_rfl
theorem c41 (g0_1 : Value) (p1_1 : Value) (h : Heap) (K : Value -> Heap -> Prop) (H : t41 Tryz.prog g0_1 p1_1 h K) : callM Tryz.prog 41 #[g0_1, p1_1] h K :=
  callM_of_wpA mixed (fn := Tryz.f41) Tryz.func41 (c := bodyOf Tryz.f41) rfl (of_decide_eq_true (by kernel_rfl)) (anOf [(1020, [])]) 64 66 (by kernel_rfl) rfl [.tmp 4, .tmp 5] (by kernel_rfl) (args := [g0_1, p1_1]) (by rw [e41]; exact H)
def t42 (P : Program) (g0_1 : Value) (p1_1 : Value) (h : Heap) (K : Value -> Heap -> Prop) : Prop :=
 eop P (Instr.box 26 g0_1) h fun g2_1 h1 =>
 rop P (Instr.loadAt 26 g2_1) h1 fun s12 =>
 callM P 55 #[s12, p1_1] h1 fun s14 h2 =>
 pop P (Op.unary .not s14) fun s15 =>
 guardM (asG s15 false) false (fun k_1 => rop P (Instr.loadAt 26 g2_1) h2 fun s17 =>
 k_1 s17 h2) h2 fun s17b h3 =>
 guardM (asG s15 false) false (fun k_2 => callM P 102 #[s17b] h3 fun s18 h4 =>
 k_2 s18 h4) h3 fun s18b h5 =>
 guardM (asG s15 false) false (fun k_3 => pop P (Op.unary .not s18b) fun s19 =>
 k_3 s19 h5) h5 fun s19b h6 =>
 pop P (pickS s15 (Value.bool true) s19b) fun s20 =>
 guardM (asG s20 false) false (fun k_4 => rop P (Instr.loadAt 26 g2_1) h6 fun s22 =>
 k_4 s22 h6) h6 fun s22b h7 =>
 guardM (asG s20 false) false (fun k_5 => callM P 103 #[s22b] h7 fun s23 h8 =>
 k_5 s23 h8) h7 fun s23b h9 =>
 guardM (asG s20 false) false (fun k_6 => pop P (Op.unary .not s23b) fun s24 =>
 k_6 s24 h9) h9 fun s24b h10 =>
 pop P (pickS s20 (Value.bool true) s24b) fun s25 =>
 guardM (asG s25 false) false (fun k_7 => rop P (Instr.loadAt 26 g2_1) h10 fun s27 =>
 k_7 s27 h10) h10 fun s27b h11 =>
 guardM (asG s25 false) false (fun k_8 => callM P 104 #[s27b] h11 fun s28 h12 =>
 k_8 s28 h12) h11 fun s28b h13 =>
 guardM (asG s25 false) false (fun k_9 => pop P (binE .eql 3 (.tmp 28) (.const (.int .i64 0)) s28b (.int .i64 0)) fun s29 =>
 k_9 s29 h13) h13 fun s29b h14 =>
 pop P (pickS s25 (Value.bool true) s29b) fun s30 =>
 condM s30
 (K (.tuple #[(Value.slice none 0 0), (Value.bool false)]) h14)
 (∃ J1 : List Value -> Heap -> Prop, (rop P (Instr.loadAt 26 g2_1) h14 fun s32 =>
 pop P (Instr.fieldAt 26 g2_1 0) fun s33 =>
 rop P (Instr.loadAt 24 s33) h14 fun s34 =>
 pop P (lenS 24 3 s34) fun s35 =>
 (eop P (Instr.makeSlice 33 s35 s35) h14 fun s36 h15 =>
 (∀ w : World, w.heap = h15 -> (Instr.loadAt 24 s33).run P w = .ok s34 w) /\
 (∀ w : World, w.heap = h15 -> (Instr.loadAt 26 g2_1).run P w = .ok s32 w) /\
 pop P (Instr.build 54 #[(0, s36), (1, p1_1)]) fun s38 =>
 (callM P 86 #[s32, s38] h15 fun s39 h16 =>
 (∀ w : World, w.heap = h16 -> (Instr.loadAt 24 s33).run P w = .ok s34 w) /\
 pop P (Instr.extract s39 0) fun s40 =>
 pop P (Instr.extract s39 1) fun s41 =>
 pop P (Instr.extract s39 2) fun s42 =>
 eop P (Instr.alloc 54 true (.tuple #[])) h16 fun w7_1 h17 =>
 (∀ w : World, w.heap = h17 -> (Instr.loadAt 24 s33).run P w = .ok s34 w) /\
 uop P (Instr.storeAt 54 w7_1 s41) h17 fun q1 h18 =>
 J1 [w7_1, s42] h18) /\
 (eop P (Instr.alloc 54 true (.tuple #[])) h15 fun w7_2 h19 =>
 (∀ w : World, w.heap = h19 -> (Instr.loadAt 24 s33).run P w = .ok s34 w) /\
 (∀ w : World, w.heap = h19 -> (Instr.loadAt 26 g2_1).run P w = .ok s32 w) /\
 callM P 86 #[s32, s38] h19 fun s39b h20 =>
 (∀ w : World, w.heap = h20 -> (Instr.loadAt 24 s33).run P w = .ok s34 w) /\
 pop P (Instr.extract s39b 0) fun s40b =>
 pop P (Instr.extract s39b 1) fun s41b =>
 pop P (Instr.extract s39b 2) fun s42b =>
 uop P (Instr.storeAt 54 w7_2 s41b) h20 fun q2 h21 =>
 J1 [w7_2, s42b] h21)) /\
 (eop P (Instr.alloc 54 true (.tuple #[])) h14 fun w7_3 h22 =>
 (∀ w : World, w.heap = h22 -> (Instr.loadAt 24 s33).run P w = .ok s34 w) /\
 (∀ w : World, w.heap = h22 -> (Instr.loadAt 26 g2_1).run P w = .ok s32 w) /\
 eop P (Instr.makeSlice 33 s35 s35) h22 fun s36b h23 =>
 (∀ w : World, w.heap = h23 -> (Instr.loadAt 24 s33).run P w = .ok s34 w) /\
 (∀ w : World, w.heap = h23 -> (Instr.loadAt 26 g2_1).run P w = .ok s32 w) /\
 pop P (Instr.build 54 #[(0, s36b), (1, p1_1)]) fun s38b =>
 callM P 86 #[s32, s38b] h23 fun s39c h24 =>
 (∀ w : World, w.heap = h24 -> (Instr.loadAt 24 s33).run P w = .ok s34 w) /\
 pop P (Instr.extract s39c 0) fun s40c =>
 pop P (Instr.extract s39c 1) fun s41c =>
 pop P (Instr.extract s39c 2) fun s42c =>
 uop P (Instr.storeAt 54 w7_3 s41c) h24 fun q3 h25 =>
 J1 [w7_3, s42c] h25)) /\
 ∀ (junk1 : Nat -> Value) (w7_4 : Value) (period8_1 : Value) (h26 : Heap), J1 [w7_4, period8_1] h26 ->
 pop P (binE .eql 3 (.tmp 43) (.const (.int .i64 0)) period8_1 (.int .i64 0)) fun s44 =>
 condM s44
 (K (.tuple #[(Value.slice none 0 0), (Value.bool false)]) h26)
 (∃ (I1 : List Value -> Heap -> Prop) (μ_1 : List Value -> Heap -> Nat), I1 [(.int .i64 0)] h26 /\
 ∀ (junk2 : Nat -> Value) (n9_1 : Value) (h27 : Heap), I1 [n9_1] h27 ->
 pop P (binA .lss 3 n9_1 period8_1) fun s47 =>
 guardM (asG s47 true) true (fun k_10 => pop P (Instr.fieldAt 54 w7_4 1) fun s49 =>
 k_10 s49 h27) h27 fun s49b h28 =>
 guardM (asG s47 true) true (fun k_11 => rop P (Instr.loadAt 3 s49b) h28 fun s50 =>
 k_11 s50 h28) h28 fun s50b h29 =>
 guardM (asG s47 true) true (fun k_12 => k_12 p1_1 h29) h29 fun s51 h30 =>
 guardM (asG s47 true) true (fun k_13 => pop P (binE .neq 3 (.tmp 50) (.tmp 51) s50b s51) fun s52 =>
 k_13 s52 h30) h30 fun s52b h31 =>
 pop P (pickS s47 s52b (Value.bool false)) fun s53 =>
 condM s53
 (rop P (Instr.loadAt 26 g2_1) h31 fun s57 =>
 rop P (Instr.loadAt 54 w7_4) h31 fun s58 =>
 callM P 105 #[s57, s58] h31 fun s59 h32 =>
 pop P (Instr.extract s59 0) fun s60 =>
 pop P (Instr.extract s59 1) fun s61 =>
 uop P (Instr.storeAt 54 w7_4 s60) h32 fun q4 h33 =>
 pop P (binA .add 3 n9_1 (.int .i64 1)) fun s55 =>
 I1 [s55] h33 /\ μ_1 [s55] h33 < μ_1 [n9_1] h27)
 (rop P (Instr.loadAt 26 g2_1) h31 fun s63 =>
 rop P (Instr.loadAt 54 w7_4) h31 fun s64 =>
 callM P 106 #[s63, s64, period8_1] h31 fun s66 h34 =>
 pop P (Instr.extract s66 0) fun s67 =>
 pop P (Instr.extract s66 1) fun s68 =>
 eop P (Instr.alloc 124 true (.tuple #[])) h34 fun r10_1 h35 =>
 uop P (Instr.storeAt 124 r10_1 s67) h35 fun q5 h36 =>
 pop P (Op.unary .not s68) fun s70 =>
 guardM (asG s70 false) false (fun k_14 => pop P (Instr.fieldAt 54 w7_4 1) fun s72 =>
 k_14 s72 h36) h36 fun s72b h37 =>
 guardM (asG s70 false) false (fun k_15 => rop P (Instr.loadAt 3 s72b) h37 fun s73 =>
 k_15 s73 h37) h37 fun s73b h38 =>
 guardM (asG s70 false) false (fun k_16 => k_16 p1_1 h38) h38 fun s74 h39 =>
 guardM (asG s70 false) false (fun k_17 => pop P (binE .neq 3 (.tmp 73) (.tmp 74) s73b s74) fun s75 =>
 k_17 s75 h39) h39 fun s75b h40 =>
 pop P (pickS s70 (Value.bool true) s75b) fun s76 =>
 condM s76
 (K (.tuple #[(Value.slice none 0 0), (Value.bool false)]) h40)
 (pop P (Instr.fieldAt 124 r10_1 1) fun s77 =>
 rop P (Instr.loadAt 33 s77) h40 fun s78 =>
 K (.tuple #[s78, (Value.bool true)]) h40))))
theorem e42 (g0_1 : Value) (p1_1 : Value) (h : Heap) (K : Value -> Heap -> Prop) : wpA Tryz.prog 79 (anOf [(7, [7, 8]), (250, [9])]) (bodyOf Tryz.f42) 1 (fun A h => resA Tryz.prog A h K [.tmp 4, .tmp 5]) (fun _ _ _ => False) (fun A h => resA Tryz.prog A h K [.tmp 4, .tmp 5]) (aargs [g0_1, p1_1] 0) h = t42 Tryz.prog g0_1 p1_1 h K := by kernel_rfl
theorem c42 (g0_1 : Value) (p1_1 : Value) (h : Heap) (K : Value -> Heap -> Prop) (H : t42 Tryz.prog g0_1 p1_1 h K) : callM Tryz.prog 42 #[g0_1, p1_1] h K :=
  callM_of_wpA mixed (fn := Tryz.f42) Tryz.func42 (c := bodyOf Tryz.f42) rfl (of_decide_eq_true (by kernel_rfl)) (anOf [(7, [7, 8]), (250, [9])]) 77 79 (by kernel_rfl) rfl [.tmp 4, .tmp 5] (by kernel_rfl) (args := [g0_1, p1_1]) (by rw [e42]; exact H)
def t43 (P : Program) (code0_1 : Value) (h : Heap) (K : Value -> Heap -> Prop) : Prop :=
 eop P (Instr.alloc 26 true (.tuple #[])) h fun s2 h1 =>
 eop P (Instr.alloc 54 true (.tuple #[])) h1 fun s3 h2 =>
 pop P (Instr.build 84 #[(0, code0_1)]) fun s9 =>
 eop P (Instr.box 84 s9) h2 fun s10 h3 =>
 callM P 67 #[s10] h3 fun s13 h4 =>
 pop P (Instr.extract s13 0) fun s14 =>
 pop P (Instr.extract s13 1) fun s15 =>
 eop P (Instr.alloc 26 true (.tuple #[])) h4 fun g6_1 h5 =>
 eop P (Instr.alloc 54 true (.tuple #[])) h5 fun w7_1 h6 =>
 uop P (Instr.storeAt 26 g6_1 s14) h6 fun q1 h7 =>
 uop P (Instr.storeAt 54 w7_1 s15) h7 fun q2 h8 =>
 rop P (Instr.loadAt 26 g6_1) h8 fun s16 =>
 rop P (Instr.loadAt 54 w7_1) h8 fun s17 =>
 rop P (Instr.loadAt 26 g6_1) h8 fun s19 =>
 callM P 61 #[s10, s19] h8 fun s20 h9 =>
 (∀ w : World, w.heap = h9 -> (Instr.loadAt 54 w7_1).run P w = .ok s17 w) /\
 (∀ w : World, w.heap = h9 -> (Instr.loadAt 26 g6_1).run P w = .ok s16 w) /\
 uop P (Instr.storeAt 26 s2 s16) h9 fun q3 h10 =>
 (∀ w : World, w.heap = h10 -> (Instr.loadAt 54 w7_1).run P w = .ok s17 w) /\
 uop P (Instr.storeAt 54 s3 s17) h10 fun q4 h11 =>
 rop P (Instr.loadAt 26 s2) h11 fun r_1 =>
 rop P (Instr.loadAt 54 s3) h11 fun r_2 =>
 K (.tuple #[r_1, r_2, s20]) h11
theorem e43 (code0_1 : Value) (h : Heap) (K : Value -> Heap -> Prop) : wpA Tryz.prog 21 (anOf []) (bodyOf Tryz.f43) 1 (fun A h => resA Tryz.prog A h K [.cell 2 26, .cell 3 54, .tmp 4]) (fun _ _ _ => False) (fun A h => resA Tryz.prog A h K [.cell 2 26, .cell 3 54, .tmp 4]) (aargs [code0_1] 0) h = t43 Tryz.prog code0_1 h K := by kernel_rfl
theorem c43 (code0_1 : Value) (h : Heap) (K : Value -> Heap -> Prop) (H : t43 Tryz.prog code0_1 h K) : callM Tryz.prog 43 #[code0_1] h K :=
  callM_of_wpA mixed (fn := Tryz.f43) Tryz.func43 (c := bodyOf Tryz.f43) rfl (of_decide_eq_true (by kernel_rfl)) (anOf []) 20 21 (by kernel_rfl) rfl [.cell 2 26, .cell 3 54, .tmp 4] (by kernel_rfl) (args := [code0_1]) (by rw [e43]; exact H)
def t44 (P : Program) (g0_1 : Value) (w1_1 : Value) (q2_1 : Value) (h : Heap) (K : Value -> Heap -> Prop) : Prop :=
 eop P (Instr.box 26 g0_1) h fun g3_1 h1 =>
 eop P (Instr.box 54 w1_1) h1 fun w4_1 h2 =>
 eop P (Instr.box 3 q2_1) h2 fun q5_1 h3 =>
 rop P (Instr.loadAt 26 g3_1) h3 fun s8 =>
 rop P (Instr.loadAt 54 w4_1) h3 fun s9 =>
 callM P 84 #[s8, s9] h3 fun s10 h4 =>
 pop P (Op.unary .not s10) fun s11 =>
 guardM (asG s11 false) false (fun k_1 => rop P (Instr.loadAt 26 g3_1) h4 fun s13 =>
 k_1 s13 h4) h4 fun s13b h5 =>
 guardM (asG s11 false) false (fun k_2 => rop P (Instr.loadAt 3 q5_1) h5 fun s14 =>
 k_2 s14 h5) h5 fun s14b h6 =>
 guardM (asG s11 false) false (fun k_3 => eop P (Instr.buildSlice 33 1 #[(0, s14b)]) h6 fun s15 h7 =>
 k_3 s15 h7) h6 fun s15b h8 =>
 guardM (asG s11 false) false (fun k_4 => callM P 54 #[s13b, s15b] h8 fun s16 h9 =>
 k_4 s16 h9) h8 fun s16b h10 =>
 guardM (asG s11 false) false (fun k_5 => pop P (Op.unary .not s16b) fun s17 =>
 k_5 s17 h10) h10 fun s17b h11 =>
 pop P (pickS s11 (Value.bool true) s17b) fun s18 =>
 condM s18
 (K (.tuple #[(.int .i64 0), (Value.bool false)]) h11)
 (rop P (Instr.loadAt 26 g3_1) h11 fun s19 =>
 rop P (Instr.loadAt 54 w4_1) h11 fun s20 =>
 pop P (Instr.makeFunc (Fn.func 107) #[] #[q5_1]) fun s21 =>
 callM P 87 #[s19, s20, (.int .i64 0), s21] h11 fun s22 h12 =>
 pop P (Instr.extract s22 0) fun s23 =>
 pop P (Instr.extract s22 1) fun s24 =>
 K (.tuple #[s23, s24]) h12)
theorem e44 (g0_1 : Value) (w1_1 : Value) (q2_1 : Value) (h : Heap) (K : Value -> Heap -> Prop) : wpA Tryz.prog 25 (anOf []) (bodyOf Tryz.f44) 1 (fun A h => resA Tryz.prog A h K [.tmp 6, .tmp 7]) (fun _ _ _ => False) (fun A h => resA Tryz.prog A h K [.tmp 6, .tmp 7]) (aargs [g0_1, w1_1, q2_1] 0) h = t44 Tryz.prog g0_1 w1_1 q2_1 h K := by kernel_rfl
theorem c44 (g0_1 : Value) (w1_1 : Value) (q2_1 : Value) (h : Heap) (K : Value -> Heap -> Prop) (H : t44 Tryz.prog g0_1 w1_1 q2_1 h K) : callM Tryz.prog 44 #[g0_1, w1_1, q2_1] h K :=
  callM_of_wpA mixed (fn := Tryz.f44) Tryz.func44 (c := bodyOf Tryz.f44) rfl (of_decide_eq_true (by kernel_rfl)) (anOf []) 22 25 (by kernel_rfl) rfl [.tmp 6, .tmp 7] (by kernel_rfl) (args := [g0_1, w1_1, q2_1]) (by rw [e44]; exact H)
def t45 (P : Program) (g0_1 : Value) (w1_1 : Value) (q2_1 : Value) (h : Heap) (K : Value -> Heap -> Prop) : Prop :=
 eop P (Instr.box 26 g0_1) h fun g3_1 h1 =>
 eop P (Instr.box 54 w1_1) h1 fun w4_1 h2 =>
 rop P (Instr.loadAt 26 g3_1) h2 fun s11 =>
 rop P (Instr.loadAt 54 w4_1) h2 fun s12 =>
 callM P 73 #[s11, s12] h2 fun s13 h3 =>
 pop P (Op.unary .not s13) fun s14 =>
 guardM (asG s14 false) false (fun k_1 => rop P (Instr.loadAt 26 g3_1) h3 fun s16 =>
 k_1 s16 h3) h3 fun s16b h4 =>
 guardM (asG s14 false) false (fun k_2 => k_2 q2_1 h4) h4 fun s17 h5 =>
 guardM (asG s14 false) false (fun k_3 => callM P 55 #[s16b, s17] h5 fun s18 h6 =>
 k_3 s18 h6) h5 fun s18b h7 =>
 guardM (asG s14 false) false (fun k_4 => pop P (Op.unary .not s18b) fun s19 =>
 k_4 s19 h7) h7 fun s19b h8 =>
 pop P (pickS s14 (Value.bool true) s19b) fun s20 =>
 condM s20
 (K (.tuple #[(.int .i64 0), (Value.bool false)]) h8)
 (∃ (I1 : List Value -> Heap -> Prop) (μ_1 : List Value -> Heap -> Nat), I1 [(.int .i64 0)] h8 /\
 ∀ (junk1 : Nat -> Value) (n8_1 : Value) (h9 : Heap), I1 [n8_1] h9 ->
 pop P (binA .leq 3 n8_1 (.int .i64 2000)) fun s22 =>
 condM s22
 (pop P (Instr.fieldAt 54 w4_1 1) fun s25 =>
 rop P (Instr.loadAt 3 s25) h9 fun s26 =>
 pop P (binE .eql 3 (.tmp 26) (.tmp 27) s26 q2_1) fun s28 =>
 condM s28
 (K (.tuple #[n8_1, (Value.bool true)]) h9)
 (rop P (Instr.loadAt 26 g3_1) h9 fun s31 =>
 rop P (Instr.loadAt 54 w4_1) h9 fun s32 =>
 callM P 105 #[s31, s32] h9 fun s33 h10 =>
 pop P (Instr.extract s33 0) fun s34 =>
 pop P (Instr.extract s33 1) fun s35 =>
 eop P (Instr.alloc 54 true (.tuple #[])) h10 fun next9_1 h11 =>
 uop P (Instr.storeAt 54 next9_1 s34) h11 fun q1 h12 =>
 pop P (Op.unary .not s35) fun s37 =>
 condM s37
 (K (.tuple #[(.int .i64 0), (Value.bool false)]) h12)
 (rop P (Instr.loadAt 54 next9_1) h12 fun s38 =>
 uop P (Instr.storeAt 54 w4_1 s38) h12 fun q2 h13 =>
 pop P (binA .add 3 n8_1 (.int .i64 1)) fun s24 =>
 I1 [s24] h13 /\ μ_1 [s24] h13 < μ_1 [n8_1] h9)))
 (K (.tuple #[(.int .i64 0), (Value.bool false)]) h9))
theorem e45 (g0_1 : Value) (w1_1 : Value) (q2_1 : Value) (h : Heap) (K : Value -> Heap -> Prop) : wpA Tryz.prog 39 (anOf [(58, [8])]) (bodyOf Tryz.f45) 1 (fun A h => resA Tryz.prog A h K [.tmp 6, .tmp 7]) (fun _ _ _ => False) (fun A h => resA Tryz.prog A h K [.tmp 6, .tmp 7]) (aargs [g0_1, w1_1, q2_1] 0) h = t45 Tryz.prog g0_1 w1_1 q2_1 h K := by kernel_rfl
theorem c45 (g0_1 : Value) (w1_1 : Value) (q2_1 : Value) (h : Heap) (K : Value -> Heap -> Prop) (H : t45 Tryz.prog g0_1 w1_1 q2_1 h K) : callM Tryz.prog 45 #[g0_1, w1_1, q2_1] h K :=
  callM_of_wpA mixed (fn := Tryz.f45) Tryz.func45 (c := bodyOf Tryz.f45) rfl (of_decide_eq_true (by kernel_rfl)) (anOf [(58, [8])]) 36 39 (by kernel_rfl) rfl [.tmp 6, .tmp 7] (by kernel_rfl) (args := [g0_1, w1_1, q2_1]) (by rw [e45]; exact H)
def t46 (P : Program) (code0_1 : Value) (h : Heap) (K : Value -> Heap -> Prop) : Prop :=
 eop P (Instr.alloc 26 true (.tuple #[])) h fun s2 h1 =>
 eop P (Instr.alloc 54 true (.tuple #[])) h1 fun s3 h2 =>
 callM P 108 #[code0_1] h2 fun s5 h3 =>
 pop P (Instr.extract s5 0) fun s6 =>
 pop P (Instr.extract s5 1) fun s7 =>
 uop P (Instr.storeAt 26 s2 s6) h3 fun q1 h4 =>
 uop P (Instr.storeAt 54 s3 s7) h4 fun q2 h5 =>
 rop P (Instr.loadAt 26 s2) h5 fun r_1 =>
 rop P (Instr.loadAt 54 s3) h5 fun r_2 =>
 K (.tuple #[r_1, r_2]) h5
theorem e46 (code0_1 : Value) (h : Heap) (K : Value -> Heap -> Prop) : wpA Tryz.prog 8 (anOf []) (bodyOf Tryz.f46) 1 (fun A h => resA Tryz.prog A h K [.cell 2 26, .cell 3 54]) (fun _ _ _ => False) (fun A h => resA Tryz.prog A h K [.cell 2 26, .cell 3 54]) (aargs [code0_1] 0) h = t46 Tryz.prog code0_1 h K := by kernel_rfl
theorem c46 (code0_1 : Value) (h : Heap) (K : Value -> Heap -> Prop) (H : t46 Tryz.prog code0_1 h K) : callM Tryz.prog 46 #[code0_1] h K :=
  callM_of_wpA mixed (fn := Tryz.f46) Tryz.func46 (c := bodyOf Tryz.f46) rfl (of_decide_eq_true (by kernel_rfl)) (anOf []) 7 8 (by kernel_rfl) rfl [.cell 2 26, .cell 3 54] (by kernel_rfl) (args := [code0_1]) (by rw [e46]; exact H)
def t47 (P : Program) (g0_1 : Value) (w1_1 : Value) (h : Heap) (K : Value -> Heap -> Prop) : Prop :=
 eop P (Instr.box 26 g0_1) h fun g2_1 h1 =>
 eop P (Instr.box 54 w1_1) h1 fun w3_1 h2 =>
 rop P (Instr.loadAt 26 g2_1) h2 fun s7 =>
 rop P (Instr.loadAt 54 w3_1) h2 fun s8 =>
 callM P 84 #[s7, s8] h2 fun s9 h3 =>
 pop P (Op.unary .not s9) fun s10 =>
 condM s10
 (K (.tuple #[(.int .i64 0), (Value.bool false)]) h3)
 (pop P (Instr.fieldAt 26 g2_1 0) fun s11 =>
 rop P (Instr.loadAt 24 s11) h3 fun s12 =>
 pop P (lenS 24 3 s12) fun s13 =>
 eop P (Instr.makeSlice 127 s13 s13) h3 fun s14 h4 =>
 eop P (Instr.alloc 127 true (.tuple #[])) h4 fun met6_1 h5 =>
 uop P (Instr.storeAt 127 met6_1 s14) h5 fun q1 h6 =>
 rop P (Instr.loadAt 26 g2_1) h6 fun s15 =>
 rop P (Instr.loadAt 54 w3_1) h6 fun s16 =>
 pop P (Instr.makeFunc (Fn.func 109) #[] #[met6_1]) fun s17 =>
 callM P 87 #[s15, s16, (.int .i64 0), s17] h6 fun s18 h7 =>
 pop P (Instr.extract s18 0) fun s19 =>
 pop P (Instr.extract s18 1) fun s20 =>
 K (.tuple #[s19, s20]) h7)
theorem e47 (g0_1 : Value) (w1_1 : Value) (h : Heap) (K : Value -> Heap -> Prop) : wpA Tryz.prog 21 (anOf []) (bodyOf Tryz.f47) 1 (fun A h => resA Tryz.prog A h K [.tmp 4, .tmp 5]) (fun _ _ _ => False) (fun A h => resA Tryz.prog A h K [.tmp 4, .tmp 5]) (aargs [g0_1, w1_1] 0) h = t47 Tryz.prog g0_1 w1_1 h K := by kernel_rfl
theorem c47 (g0_1 : Value) (w1_1 : Value) (h : Heap) (K : Value -> Heap -> Prop) (H : t47 Tryz.prog g0_1 w1_1 h K) : callM Tryz.prog 47 #[g0_1, w1_1] h K :=
  callM_of_wpA mixed (fn := Tryz.f47) Tryz.func47 (c := bodyOf Tryz.f47) rfl (of_decide_eq_true (by kernel_rfl)) (anOf []) 19 21 (by kernel_rfl) rfl [.tmp 4, .tmp 5] (by kernel_rfl) (args := [g0_1, w1_1]) (by rw [e47]; exact H)
def t48 (P : Program) (g0_1 : Value) (w1_1 : Value) (h : Heap) (K : Value -> Heap -> Prop) : Prop :=
 eop P (Instr.box 26 g0_1) h fun g2_1 h1 =>
 eop P (Instr.box 54 w1_1) h1 fun w3_1 h2 =>
 rop P (Instr.loadAt 26 g2_1) h2 fun s11 =>
 rop P (Instr.loadAt 54 w3_1) h2 fun s12 =>
 callM P 73 #[s11, s12] h2 fun s13 h3 =>
 pop P (Op.unary .not s13) fun s14 =>
 condM s14
 (K (.tuple #[(.int .i64 0), (Value.bool false)]) h3)
 (pop P (Instr.fieldAt 26 g2_1 0) fun s15 =>
 rop P (Instr.loadAt 24 s15) h3 fun s16 =>
 pop P (lenS 24 3 s16) fun s17 =>
 eop P (Instr.makeSlice 127 s17 s17) h3 fun s18 h4 =>
 pop P (Instr.fieldAt 26 g2_1 0) fun s19 =>
 rop P (Instr.loadAt 24 s19) h4 fun s20 =>
 pop P (lenS 24 3 s20) fun s21 =>
 ∃ (I1 : List Value -> Heap -> Prop) (μ_1 : List Value -> Heap -> Nat), I1 [s21, (.int .i64 0)] h4 /\
 ∀ (junk1 : Nat -> Value) (left7_1 : Value) (n8_1 : Value) (h5 : Heap), I1 [left7_1, n8_1] h5 ->
 pop P (binA .leq 3 n8_1 (.int .i64 2000)) fun s23 =>
 condM s23
 (∃ J1 : List Value -> Heap -> Prop, (pop P (Instr.fieldAt 54 w3_1 1) fun s27 =>
 rop P (Instr.loadAt 3 s27) h5 fun s28 =>
 pop P (Instr.indexAt 127 s18 s28) fun s29 =>
 rop P (Instr.loadAt 4 s29) h5 fun s30 =>
 pop P (Op.unary .not s30) fun s31 =>
 condM s31
 (pop P (Instr.fieldAt 54 w3_1 1) fun s33 =>
 rop P (Instr.loadAt 3 s33) h5 fun s34 =>
 pop P (Instr.indexAt 127 s18 s34) fun s35 =>
 uop P (Instr.storeAt 4 s35 (Value.bool true)) h5 fun q1 h6 =>
 pop P (binA .sub 3 left7_1 (.int .i64 1)) fun s37 =>
 J1 [s37] h6)
 (J1 [left7_1] h5)) /\
 ∀ (junk2 : Nat -> Value) (left7_2 : Value) (h7 : Heap), J1 [left7_2] h7 ->
 pop P (binE .eql 3 (.tmp 38) (.const (.int .i64 0)) left7_2 (.int .i64 0)) fun s39 =>
 condM s39
 (K (.tuple #[n8_1, (Value.bool true)]) h7)
 (rop P (Instr.loadAt 26 g2_1) h7 fun s42 =>
 rop P (Instr.loadAt 54 w3_1) h7 fun s43 =>
 callM P 105 #[s42, s43] h7 fun s44 h8 =>
 pop P (Instr.extract s44 0) fun s45 =>
 pop P (Instr.extract s44 1) fun s46 =>
 eop P (Instr.alloc 54 true (.tuple #[])) h8 fun next9_1 h9 =>
 uop P (Instr.storeAt 54 next9_1 s45) h9 fun q2 h10 =>
 pop P (Op.unary .not s46) fun s48 =>
 condM s48
 (K (.tuple #[(.int .i64 0), (Value.bool false)]) h10)
 (rop P (Instr.loadAt 54 next9_1) h10 fun s49 =>
 uop P (Instr.storeAt 54 w3_1 s49) h10 fun q3 h11 =>
 pop P (binA .add 3 n8_1 (.int .i64 1)) fun s25 =>
 I1 [left7_2, s25] h11 /\ μ_1 [left7_2, s25] h11 < μ_1 [left7_1, n8_1] h5)))
 (K (.tuple #[(.int .i64 0), (Value.bool false)]) h5))
theorem e48 (g0_1 : Value) (w1_1 : Value) (h : Heap) (K : Value -> Heap -> Prop) : wpA Tryz.prog 50 (anOf [(250, [7, 8]), (4004, [7])]) (bodyOf Tryz.f48) 1 (fun A h => resA Tryz.prog A h K [.tmp 4, .tmp 5]) (fun _ _ _ => False) (fun A h => resA Tryz.prog A h K [.tmp 4, .tmp 5]) (aargs [g0_1, w1_1] 0) h = t48 Tryz.prog g0_1 w1_1 h K := by kernel_rfl
theorem c48 (g0_1 : Value) (w1_1 : Value) (h : Heap) (K : Value -> Heap -> Prop) (H : t48 Tryz.prog g0_1 w1_1 h K) : callM Tryz.prog 48 #[g0_1, w1_1] h K :=
  callM_of_wpA mixed (fn := Tryz.f48) Tryz.func48 (c := bodyOf Tryz.f48) rfl (of_decide_eq_true (by kernel_rfl)) (anOf [(250, [7, 8]), (4004, [7])]) 48 50 (by kernel_rfl) rfl [.tmp 4, .tmp 5] (by kernel_rfl) (args := [g0_1, w1_1]) (by rw [e48]; exact H)
def t54 (P : Program) (g0_1 : Value) (places1_1 : Value) (h : Heap) (K : Value -> Heap -> Prop) : Prop :=
 eop P (Instr.box 26 g0_1) h fun g2_1 h1 =>
 rop P (Instr.loadAt 26 g2_1) h1 fun s5 =>
 callM P 94 #[s5] h1 fun s6 h2 =>
 guardM (asG s6 true) true (fun k_1 => k_1 places1_1 h2) h2 fun s8 h3 =>
 guardM (asG s6 true) true (fun k_2 => pop P (Instr.makeFunc (Fn.func 112) #[] #[g2_1]) fun s9 =>
 k_2 s9 h3) h3 fun s9b h4 =>
 guardM (asG s6 true) true (fun k_3 => callM P 75 #[s8, s9b] h4 fun s10 h5 =>
 k_3 s10 h5) h4 fun s10b h6 =>
 guardM (asG s6 true) true (fun k_4 => pop P (Op.unary .not s10b) fun s11 =>
 k_4 s11 h6) h6 fun s11b h7 =>
 pop P (pickS s6 s11b (Value.bool false)) fun s12 =>
 K s12 h7
theorem e54 (g0_1 : Value) (places1_1 : Value) (h : Heap) (K : Value -> Heap -> Prop) : wpA Tryz.prog 13 (anOf []) (bodyOf Tryz.f54) 1 (fun A h => resA Tryz.prog A h K [.tmp 4]) (fun _ _ _ => False) (fun A h => resA Tryz.prog A h K [.tmp 4]) (aargs [g0_1, places1_1] 0) h = t54 Tryz.prog g0_1 places1_1 h K := by kernel_rfl
theorem c54 (g0_1 : Value) (places1_1 : Value) (h : Heap) (K : Value -> Heap -> Prop) (H : t54 Tryz.prog g0_1 places1_1 h K) : callM Tryz.prog 54 #[g0_1, places1_1] h K :=
  callM_of_wpA mixed (fn := Tryz.f54) Tryz.func54 (c := bodyOf Tryz.f54) rfl (of_decide_eq_true (by kernel_rfl)) (anOf []) 11 13 (by kernel_rfl) rfl [.tmp 4] (by kernel_rfl) (args := [g0_1, places1_1]) (by rw [e54]; exact H)
def t55 (P : Program) (g0_1 : Value) (p1_1 : Value) (h : Heap) (K : Value -> Heap -> Prop) : Prop :=
 eop P (Instr.box 26 g0_1) h fun g2_1 h1 =>
 rop P (Instr.loadAt 26 g2_1) h1 fun s5 =>
 callM P 82 #[s5] h1 fun s6 h2 =>
 guardM (asG s6 true) true (fun k_1 => k_1 p1_1 h2) h2 fun s8 h3 =>
 guardM (asG s6 true) true (fun k_2 => pop P (Instr.fieldAt 26 g2_1 0) fun s9 =>
 k_2 s9 h3) h3 fun s9b h4 =>
 guardM (asG s6 true) true (fun k_3 => rop P (Instr.loadAt 24 s9b) h4 fun s10 =>
 k_3 s10 h4) h4 fun s10b h5 =>
 guardM (asG s6 true) true (fun k_4 => pop P (lenS 24 3 s10b) fun s11 =>
 k_4 s11 h5) h5 fun s11b h6 =>
 guardM (asG s6 true) true (fun k_5 => pop P (binA .sub 3 s11b (.int .i64 1)) fun s12 =>
 k_5 s12 h6) h6 fun s12b h7 =>
 guardM (asG s6 true) true (fun k_6 => callM P 74 #[s8, (.int .i64 0), s12b] h7 fun s13 h8 =>
 k_6 s13 h8) h7 fun s13b h9 =>
 pop P (pickS s6 s13b (Value.bool false)) fun s14 =>
 K s14 h9
theorem e55 (g0_1 : Value) (p1_1 : Value) (h : Heap) (K : Value -> Heap -> Prop) : wpA Tryz.prog 15 (anOf []) (bodyOf Tryz.f55) 1 (fun A h => resA Tryz.prog A h K [.tmp 4]) (fun _ _ _ => False) (fun A h => resA Tryz.prog A h K [.tmp 4]) (aargs [g0_1, p1_1] 0) h = t55 Tryz.prog g0_1 p1_1 h K := by kernel_rfl
theorem c55 (g0_1 : Value) (p1_1 : Value) (h : Heap) (K : Value -> Heap -> Prop) (H : t55 Tryz.prog g0_1 p1_1 h K) : callM Tryz.prog 55 #[g0_1, p1_1] h K :=
  callM_of_wpA mixed (fn := Tryz.f55) Tryz.func55 (c := bodyOf Tryz.f55) rfl (of_decide_eq_true (by kernel_rfl)) (anOf []) 13 15 (by kernel_rfl) rfl [.tmp 4] (by kernel_rfl) (args := [g0_1, p1_1]) (by rw [e55]; exact H)
def t61 (P : Program) (c0_1 : Value) (g1_1 : Value) (h : Heap) (K : Value -> Heap -> Prop) : Prop :=
 eop P (Instr.box 26 g1_1) h fun g3_1 h1 =>
 pop P (Instr.fieldAt 26 g3_1 0) fun s5 =>
 rop P (Instr.loadAt 24 s5) h1 fun s6 =>
 pop P (lenS 24 3 s6) fun s7 =>
 pop P (binE .eql 3 (.tmp 7) (.const (.int .i64 0)) s7 (.int .i64 0)) fun s8 =>
 guardM (asG s8 false) false (fun k_1 => k_1 c0_1 h1) h1 fun s10 h2 =>
 guardM (asG s8 false) false (fun k_2 => callM P 68 #[s10, (.int .i64 14)] h2 fun s11 h3 =>
 k_2 s11 h3) h2 fun s11b h4 =>
 pop P (pickS s8 (Value.bool true) s11b) fun s12 =>
 condM s12
 (pop P (Instr.fieldAt 26 g3_1 0) fun s14 =>
 rop P (Instr.loadAt 24 s14) h4 fun s15 =>
 pop P (lenS 24 3 s15) fun s16 =>
 eop P (Instr.buildSlice 33 4 #[(0, (.int .i64 (-1))), (1, (.int .i64 0)), (2, s16), (3, (.int .i64 4611686018427387904))]) h4 fun s17 h5 =>
 callM P 69 #[c0_1, s17] h5 fun s18 h6 =>
 K s18 h6)
 (pop P (Instr.fieldAt 26 g3_1 0) fun s20 =>
 rop P (Instr.loadAt 24 s20) h4 fun s21 =>
 pop P (lenS 24 3 s21) fun s22 =>
 callM P 70 #[c0_1, s22] h4 fun s23 h7 =>
 K s23 h7)
theorem e61 (c0_1 : Value) (g1_1 : Value) (h : Heap) (K : Value -> Heap -> Prop) : wpA Tryz.prog 24 (anOf []) (bodyOf Tryz.f61) 1 (fun A h => resA Tryz.prog A h K [.tmp 4]) (fun _ _ _ => False) (fun A h => resA Tryz.prog A h K [.tmp 4]) (aargs [c0_1, g1_1] 0) h = t61 Tryz.prog c0_1 g1_1 h K := by kernel_rfl
theorem c61 (c0_1 : Value) (g1_1 : Value) (h : Heap) (K : Value -> Heap -> Prop) (H : t61 Tryz.prog c0_1 g1_1 h K) : callM Tryz.prog 61 #[c0_1, g1_1] h K :=
  callM_of_wpA mixed (fn := Tryz.f61) Tryz.func61 (c := bodyOf Tryz.f61) rfl (of_decide_eq_true (by kernel_rfl)) (anOf []) 22 24 (by kernel_rfl) rfl [.tmp 4] (by kernel_rfl) (args := [c0_1, g1_1]) (by rw [e61]; exact H)
def t67 (P : Program) (c0_1 : Value) (h : Heap) (K : Value -> Heap -> Prop) : Prop :=
 eop P (Instr.alloc 26 true (.tuple #[])) h fun s2 h1 =>
 eop P (Instr.alloc 54 true (.tuple #[])) h1 fun s3 h2 =>
 callM P 121 #[c0_1] h2 fun s7 h3 =>
 eop P (Instr.alloc 26 true (.tuple #[])) h3 fun g4_1 h4 =>
 uop P (Instr.storeAt 26 g4_1 s7) h4 fun q1 h5 =>
 rop P (Instr.loadAt 26 g4_1) h5 fun s8 =>
 callM P 82 #[s8] h5 fun s9 h6 =>
 pop P (Op.unary .not s9) fun s10 =>
 condM s10
 (rop P (Instr.loadAt 26 g4_1) h6 fun s11 =>
 pop P (Instr.build 54 #[]) fun s12 =>
 uop P (Instr.storeAt 26 s2 s11) h6 fun q2 h7 =>
 uop P (Instr.storeAt 54 s3 s12) h7 fun q3 h8 =>
 rop P (Instr.loadAt 26 s2) h8 fun r_1 =>
 rop P (Instr.loadAt 54 s3) h8 fun r_2 =>
 K (.tuple #[r_1, r_2]) h8)
 (rop P (Instr.loadAt 26 g4_1) h6 fun s14 =>
 callM P 83 #[c0_1, s14] h6 fun s15 h9 =>
 eop P (Instr.alloc 54 true (.tuple #[])) h9 fun w5_1 h10 =>
 uop P (Instr.storeAt 54 w5_1 s15) h10 fun q4 h11 =>
 ∃ J1 : List Value -> Heap -> Prop, (callM P 70 #[c0_1, (.int .i64 16)] h11 fun s17 h12 =>
 pop P (binE .eql 3 (.tmp 17) (.const (.int .i64 0)) s17 (.int .i64 0)) fun s19 =>
 condM s19
 (pop P (Instr.fieldAt 26 g4_1 0) fun s21 =>
 rop P (Instr.loadAt 24 s21) h12 fun s22 =>
 pop P (lenS 24 3 s22) fun s23 =>
 eop P (Instr.buildSlice 33 3 #[(0, (.int .i64 (-1))), (1, s23), (2, (.int .i64 4611686018427387904))]) h12 fun s24 h13 =>
 callM P 69 #[c0_1, s24] h13 fun s25 h14 =>
 pop P (Instr.fieldAt 54 w5_1 1) fun s26 =>
 uop P (Instr.storeAt 3 s26 s25) h14 fun q5 h15 =>
 J1 [] h15)
 (pop P (binE .eql 3 (.tmp 17) (.const (.int .i64 1)) s17 (.int .i64 1)) fun s28 =>
 condM s28
 (pop P (Instr.fieldAt 54 w5_1 0) fun s29 =>
 rop P (Instr.loadAt 33 s29) h12 fun s30 =>
 pop P (Instr.fieldAt 54 w5_1 0) fun s32 =>
 rop P (Instr.loadAt 33 s32) h12 fun s33 =>
 pop P (lenS 33 3 s33) fun s34 =>
 (callM P 70 #[c0_1, s34] h12 fun s35 h16 =>
 (∀ w : World, w.heap = h16 -> (Instr.loadAt 33 s32).run P w = .ok s33 w) /\
 (∀ w : World, w.heap = h16 -> (Instr.loadAt 33 s29).run P w = .ok s30 w) /\
 eop P (Instr.buildSlice 33 3 #[(0, (.int .i64 (-1))), (1, (.int .i64 4)), (2, (.int .i64 5))]) h16 fun s37 h17 =>
 (∀ w : World, w.heap = h17 -> (Instr.loadAt 33 s32).run P w = .ok s33 w) /\
 (∀ w : World, w.heap = h17 -> (Instr.loadAt 33 s29).run P w = .ok s30 w) /\
 callM P 69 #[c0_1, s37] h17 fun s38 h18 =>
 (∀ w : World, w.heap = h18 -> (Instr.loadAt 33 s32).run P w = .ok s33 w) /\
 (∀ w : World, w.heap = h18 -> (Instr.loadAt 33 s29).run P w = .ok s30 w) /\
 pop P (Instr.indexAt 33 s30 s35) fun s39 =>
 uop P (Instr.storeAt 3 s39 s38) h18 fun q6 h19 =>
 J1 [] h19) /\
 (eop P (Instr.buildSlice 33 3 #[(0, (.int .i64 (-1))), (1, (.int .i64 4)), (2, (.int .i64 5))]) h12 fun s37b h20 =>
 (∀ w : World, w.heap = h20 -> (Instr.loadAt 33 s32).run P w = .ok s33 w) /\
 (∀ w : World, w.heap = h20 -> (Instr.loadAt 33 s29).run P w = .ok s30 w) /\
 callM P 70 #[c0_1, s34] h20 fun s35b h21 =>
 (∀ w : World, w.heap = h21 -> (Instr.loadAt 33 s32).run P w = .ok s33 w) /\
 (∀ w : World, w.heap = h21 -> (Instr.loadAt 33 s29).run P w = .ok s30 w) /\
 callM P 69 #[c0_1, s37b] h21 fun s38b h22 =>
 (∀ w : World, w.heap = h22 -> (Instr.loadAt 33 s32).run P w = .ok s33 w) /\
 (∀ w : World, w.heap = h22 -> (Instr.loadAt 33 s29).run P w = .ok s30 w) /\
 pop P (Instr.indexAt 33 s30 s35b) fun s39b =>
 uop P (Instr.storeAt 3 s39b s38b) h22 fun q7 h23 =>
 J1 [] h23))
 (pop P (binE .eql 3 (.tmp 17) (.const (.int .i64 2)) s17 (.int .i64 2)) fun s41 =>
 condM s41
 (pop P (Instr.fieldAt 54 w5_1 0) fun s42 =>
 rop P (Instr.loadAt 33 s42) h12 fun s43 =>
 eop P (Instr.buildSlice 33 1 #[(0, (.int .i64 0))]) h12 fun s44 h24 =>
 eop P (appS 33 33 33 s43 s44) h24 fun s45 h25 =>
 pop P (Instr.fieldAt 54 w5_1 0) fun s46 =>
 uop P (Instr.storeAt 33 s46 s45) h25 fun q8 h26 =>
 J1 [] h26)
 (J1 [] h12)))) /\
 ∀ (junk1 : Nat -> Value) (h27 : Heap), J1 [] h27 ->
 rop P (Instr.loadAt 26 g4_1) h27 fun s47 =>
 rop P (Instr.loadAt 54 w5_1) h27 fun s48 =>
 uop P (Instr.storeAt 26 s2 s47) h27 fun q9 h28 =>
 (∀ w : World, w.heap = h28 -> (Instr.loadAt 54 w5_1).run P w = .ok s48 w) /\
 uop P (Instr.storeAt 54 s3 s48) h28 fun q10 h29 =>
 rop P (Instr.loadAt 26 s2) h29 fun r_3 =>
 rop P (Instr.loadAt 54 s3) h29 fun r_4 =>
 K (.tuple #[r_3, r_4]) h29)
theorem e67 (c0_1 : Value) (h : Heap) (K : Value -> Heap -> Prop) : wpA Tryz.prog 49 (anOf [(31, [])]) (bodyOf Tryz.f67) 1 (fun A h => resA Tryz.prog A h K [.cell 2 26, .cell 3 54]) (fun _ _ _ => False) (fun A h => resA Tryz.prog A h K [.cell 2 26, .cell 3 54]) (aargs [c0_1] 0) h = t67 Tryz.prog c0_1 h K := by kernel_rfl
theorem c67 (c0_1 : Value) (h : Heap) (K : Value -> Heap -> Prop) (H : t67 Tryz.prog c0_1 h K) : callM Tryz.prog 67 #[c0_1] h K :=
  callM_of_wpA mixed (fn := Tryz.f67) Tryz.func67 (c := bodyOf Tryz.f67) rfl (of_decide_eq_true (by kernel_rfl)) (anOf [(31, [])]) 48 49 (by kernel_rfl) rfl [.cell 2 26, .cell 3 54] (by kernel_rfl) (args := [c0_1]) (by rw [e67]; exact H)
def t68 (P : Program) (c0_1 : Value) (n1_1 : Value) (h : Heap) (K : Value -> Heap -> Prop) : Prop :=
 callM P 70 #[c0_1, n1_1] h fun s7 h1 =>
 pop P (binE .eql 3 (.tmp 7) (.const (.int .i64 0)) s7 (.int .i64 0)) fun s8 =>
 K s8 h1
theorem e68 (c0_1 : Value) (n1_1 : Value) (h : Heap) (K : Value -> Heap -> Prop) : wpA Tryz.prog 9 (anOf []) (bodyOf Tryz.f68) 1 (fun A h => resA Tryz.prog A h K [.tmp 4]) (fun _ _ _ => False) (fun A h => resA Tryz.prog A h K [.tmp 4]) (aargs [c0_1, n1_1] 0) h = t68 Tryz.prog c0_1 n1_1 h K := by kernel_rfl
theorem c68 (c0_1 : Value) (n1_1 : Value) (h : Heap) (K : Value -> Heap -> Prop) (H : t68 Tryz.prog c0_1 n1_1 h K) : callM Tryz.prog 68 #[c0_1, n1_1] h K :=
  callM_of_wpA mixed (fn := Tryz.f68) Tryz.func68 (c := bodyOf Tryz.f68) rfl (of_decide_eq_true (by kernel_rfl)) (anOf []) 7 9 (by kernel_rfl) rfl [.tmp 4] (by kernel_rfl) (args := [c0_1, n1_1]) (by rw [e68]; exact H)
def t69 (P : Program) (c0_1 : Value) (list1_1 : Value) (h : Heap) (K : Value -> Heap -> Prop) : Prop :=
 pop P (lenS 33 3 list1_1) fun s8 =>
 callM P 70 #[c0_1, s8] h fun s9 h1 =>
 pop P (Instr.indexAt 33 list1_1 s9) fun s10 =>
 rop P (Instr.loadAt 3 s10) h1 fun s11 =>
 K s11 h1
theorem e69 (c0_1 : Value) (list1_1 : Value) (h : Heap) (K : Value -> Heap -> Prop) : wpA Tryz.prog 12 (anOf []) (bodyOf Tryz.f69) 1 (fun A h => resA Tryz.prog A h K [.tmp 4]) (fun _ _ _ => False) (fun A h => resA Tryz.prog A h K [.tmp 4]) (aargs [c0_1, list1_1] 0) h = t69 Tryz.prog c0_1 list1_1 h K := by kernel_rfl
theorem c69 (c0_1 : Value) (list1_1 : Value) (h : Heap) (K : Value -> Heap -> Prop) (H : t69 Tryz.prog c0_1 list1_1 h K) : callM Tryz.prog 69 #[c0_1, list1_1] h K :=
  callM_of_wpA mixed (fn := Tryz.f69) Tryz.func69 (c := bodyOf Tryz.f69) rfl (of_decide_eq_true (by kernel_rfl)) (anOf []) 10 12 (by kernel_rfl) rfl [.tmp 4] (by kernel_rfl) (args := [c0_1, list1_1]) (by rw [e69]; exact H)
def t70 (P : Program) (c0_1 : Value) (n1_1 : Value) (h : Heap) (K : Value -> Heap -> Prop) : Prop :=
 pop P (binA .leq 3 n1_1 (.int .i64 1)) fun s7 =>
 condM s7
 (K (.int .i64 0) h)
 (callM P 122 #[c0_1] h fun s9 h1 =>
 ∃ J1 : List Value -> Heap -> Prop, (pop P (binA .gtr 3 n1_1 (.int .i64 200)) fun s11 =>
 condM s11
 (pop P (binA .mul 3 s9 (.int .i64 256)) fun s13 =>
 callM P 122 #[c0_1] h1 fun s15 h2 =>
 pop P (binA .add 3 s13 s15) fun s16 =>
 J1 [s16] h2)
 (J1 [s9] h1)) /\
 ∀ (junk1 : Nat -> Value) (x5_1 : Value) (h3 : Heap), J1 [x5_1] h3 ->
 pop P (binA .rem 3 x5_1 n1_1) fun s19 =>
 K s19 h3)
theorem e70 (c0_1 : Value) (n1_1 : Value) (h : Heap) (K : Value -> Heap -> Prop) : wpA Tryz.prog 20 (anOf [(15, [5])]) (bodyOf Tryz.f70) 1 (fun A h => resA Tryz.prog A h K [.tmp 4]) (fun _ _ _ => False) (fun A h => resA Tryz.prog A h K [.tmp 4]) (aargs [c0_1, n1_1] 0) h = t70 Tryz.prog c0_1 n1_1 h K := by kernel_rfl
theorem c70 (c0_1 : Value) (n1_1 : Value) (h : Heap) (K : Value -> Heap -> Prop) (H : t70 Tryz.prog c0_1 n1_1 h K) : callM Tryz.prog 70 #[c0_1, n1_1] h K :=
  callM_of_wpA mixed (fn := Tryz.f70) Tryz.func70 (c := bodyOf Tryz.f70) rfl (of_decide_eq_true (by kernel_rfl)) (anOf [(15, [5])]) 18 20 (by kernel_rfl) rfl [.tmp 4] (by kernel_rfl) (args := [c0_1, n1_1]) (by rw [e70]; exact H)
def t72 (P : Program) (n0_1 : Value) (low1_1 : Value) (high2_1 : Value) (h : Heap) (K : Value -> Heap -> Prop) : Prop :=
 pop P (binA .leq 3 low1_1 n0_1) fun s9 =>
 guardM (asG s9 true) true (fun k_1 => k_1 n0_1 h) h fun s11 h1 =>
 guardM (asG s9 true) true (fun k_2 => k_2 high2_1 h1) h1 fun s12 h2 =>
 guardM (asG s9 true) true (fun k_3 => pop P (binA .leq 3 s11 s12) fun s13 =>
 k_3 s13 h2) h2 fun s13b h3 =>
 pop P (pickS s9 s13b (Value.bool false)) fun s14 =>
 K s14 h3
theorem e72 (n0_1 : Value) (low1_1 : Value) (high2_1 : Value) (h : Heap) (K : Value -> Heap -> Prop) : wpA Tryz.prog 15 (anOf []) (bodyOf Tryz.f72) 1 (fun A h => resA Tryz.prog A h K [.tmp 6]) (fun _ _ _ => False) (fun A h => resA Tryz.prog A h K [.tmp 6]) (aargs [n0_1, low1_1, high2_1] 0) h = t72 Tryz.prog n0_1 low1_1 high2_1 h K := by kernel_rfl
theorem c72 (n0_1 : Value) (low1_1 : Value) (high2_1 : Value) (h : Heap) (K : Value -> Heap -> Prop) (H : t72 Tryz.prog n0_1 low1_1 high2_1 h K) : callM Tryz.prog 72 #[n0_1, low1_1, high2_1] h K :=
  callM_of_wpA mixed (fn := Tryz.f72) Tryz.func72 (c := bodyOf Tryz.f72) rfl (of_decide_eq_true (by kernel_rfl)) (anOf []) 12 15 (by kernel_rfl) rfl [.tmp 6] (by kernel_rfl) (args := [n0_1, low1_1, high2_1]) (by rw [e72]; exact H)
def t73 (P : Program) (g0_1 : Value) (w1_1 : Value) (h : Heap) (K : Value -> Heap -> Prop) : Prop :=
 eop P (Instr.box 26 g0_1) h fun g2_1 h1 =>
 eop P (Instr.box 54 w1_1) h1 fun w3_1 h2 =>
 rop P (Instr.loadAt 26 g2_1) h2 fun s7 =>
 pop P (Instr.fieldAt 54 w3_1 1) fun s8 =>
 rop P (Instr.loadAt 3 s8) h2 fun s9 =>
 callM P 55 #[s7, s9] h2 fun s10 h3 =>
 pop P (Op.unary .not s10) fun s11 =>
 guardM (asG s11 false) false (fun k_1 => pop P (Instr.fieldAt 54 w3_1 0) fun s13 =>
 k_1 s13 h3) h3 fun s13b h4 =>
 guardM (asG s11 false) false (fun k_2 => rop P (Instr.loadAt 33 s13b) h4 fun s14 =>
 k_2 s14 h4) h4 fun s14b h5 =>
 guardM (asG s11 false) false (fun k_3 => pop P (lenS 33 3 s14b) fun s15 =>
 k_3 s15 h5) h5 fun s15b h6 =>
 guardM (asG s11 false) false (fun k_4 => pop P (Instr.fieldAt 26 g2_1 0) fun s16 =>
 k_4 s16 h6) h6 fun s16b h7 =>
 guardM (asG s11 false) false (fun k_5 => rop P (Instr.loadAt 24 s16b) h7 fun s17 =>
 k_5 s17 h7) h7 fun s17b h8 =>
 guardM (asG s11 false) false (fun k_6 => pop P (lenS 24 3 s17b) fun s18 =>
 k_6 s18 h8) h8 fun s18b h9 =>
 guardM (asG s11 false) false (fun k_7 => pop P (binE .neq 3 (.tmp 15) (.tmp 18) s15b s18b) fun s19 =>
 k_7 s19 h9) h9 fun s19b h10 =>
 pop P (pickS s11 (Value.bool true) s19b) fun s20 =>
 condM s20
 (K (Value.bool false) h10)
 (pop P (Instr.fieldAt 26 g2_1 0) fun s21 =>
 rop P (Instr.loadAt 24 s21) h10 fun s22 =>
 pop P (lenS 24 3 s22) fun s23 =>
 ∃ (I1 : List Value -> Heap -> Prop) (μ_1 : List Value -> Heap -> Nat), I1 [(.int .i64 0)] h10 /\
 ∀ (junk1 : Nat -> Value) (s24 : Value) (h11 : Heap), I1 [s24] h11 ->
 pop P (binA .lss 3 s24 s23) fun s25 =>
 condM s25
 (pop P (Instr.indexAt 24 s22 s24) fun s27 =>
 rop P (Instr.loadAt 33 s27) h11 fun s28 =>
 pop P (Instr.fieldAt 54 w3_1 0) fun s29 =>
 rop P (Instr.loadAt 33 s29) h11 fun s30 =>
 pop P (Instr.indexAt 33 s30 s24) fun s32 =>
 rop P (Instr.loadAt 3 s32) h11 fun s33 =>
 pop P (lenS 33 3 s28) fun s35 =>
 pop P (binA .sub 3 s35 (.int .i64 1)) fun s36 =>
 callM P 123 #[(.int .i64 0), s36] h11 fun s37 h12 =>
 (∀ w : World, w.heap = h12 -> (Instr.loadAt 3 s32).run P w = .ok s33 w) /\
 (∀ w : World, w.heap = h12 -> (Instr.loadAt 33 s29).run P w = .ok s30 w) /\
 callM P 74 #[s33, (.int .i64 0), s37] h12 fun s38 h13 =>
 (∀ w : World, w.heap = h13 -> (Instr.loadAt 33 s29).run P w = .ok s30 w) /\
 pop P (Op.unary .not s38) fun s39 =>
 condM s39
 (K (Value.bool false) h13)
 (pop P (binA .add 3 s24 (.int .i64 1)) fun s40 =>
 I1 [s40] h13 /\ μ_1 [s40] h13 < μ_1 [s24] h11))
 (K (Value.bool true) h11))
theorem e73 (g0_1 : Value) (w1_1 : Value) (h : Heap) (K : Value -> Heap -> Prop) : wpA Tryz.prog 41 (anOf [(58, [24])]) (bodyOf Tryz.f73) 1 (fun A h => resA Tryz.prog A h K [.tmp 4]) (fun _ _ _ => False) (fun A h => resA Tryz.prog A h K [.tmp 4]) (aargs [g0_1, w1_1] 0) h = t73 Tryz.prog g0_1 w1_1 h K := by kernel_rfl
theorem c73 (g0_1 : Value) (w1_1 : Value) (h : Heap) (K : Value -> Heap -> Prop) (H : t73 Tryz.prog g0_1 w1_1 h K) : callM Tryz.prog 73 #[g0_1, w1_1] h K :=
  callM_of_wpA mixed (fn := Tryz.f73) Tryz.func73 (c := bodyOf Tryz.f73) rfl (of_decide_eq_true (by kernel_rfl)) (anOf [(58, [24])]) 39 41 (by kernel_rfl) rfl [.tmp 4] (by kernel_rfl) (args := [g0_1, w1_1]) (by rw [e73]; exact H)
def t74 (P : Program) (n0_1 : Value) (lo1_1 : Value) (hi2_1 : Value) (h : Heap) (K : Value -> Heap -> Prop) : Prop :=
 pop P (binA .geq 3 n0_1 lo1_1) fun s9 =>
 guardM (asG s9 true) true (fun k_1 => k_1 n0_1 h) h fun s11 h1 =>
 guardM (asG s9 true) true (fun k_2 => k_2 hi2_1 h1) h1 fun s12 h2 =>
 guardM (asG s9 true) true (fun k_3 => pop P (binA .leq 3 s11 s12) fun s13 =>
 k_3 s13 h2) h2 fun s13b h3 =>
 pop P (pickS s9 s13b (Value.bool false)) fun s14 =>
 K s14 h3
theorem e74 (n0_1 : Value) (lo1_1 : Value) (hi2_1 : Value) (h : Heap) (K : Value -> Heap -> Prop) : wpA Tryz.prog 15 (anOf []) (bodyOf Tryz.f74) 1 (fun A h => resA Tryz.prog A h K [.tmp 6]) (fun _ _ _ => False) (fun A h => resA Tryz.prog A h K [.tmp 6]) (aargs [n0_1, lo1_1, hi2_1] 0) h = t74 Tryz.prog n0_1 lo1_1 hi2_1 h K := by kernel_rfl
theorem c74 (n0_1 : Value) (lo1_1 : Value) (hi2_1 : Value) (h : Heap) (K : Value -> Heap -> Prop) (H : t74 Tryz.prog n0_1 lo1_1 hi2_1 h K) : callM Tryz.prog 74 #[n0_1, lo1_1, hi2_1] h K :=
  callM_of_wpA mixed (fn := Tryz.f74) Tryz.func74 (c := bodyOf Tryz.f74) rfl (of_decide_eq_true (by kernel_rfl)) (anOf []) 12 15 (by kernel_rfl) rfl [.tmp 6] (by kernel_rfl) (args := [n0_1, lo1_1, hi2_1]) (by rw [e74]; exact H)
def t75 (P : Program) (s0_1 : Value) (f1_1 : Value) (h : Heap) (K : Value -> Heap -> Prop) : Prop :=
 callM P 124 #[s0_1, f1_1] h fun s7 h1 =>
 pop P (binA .geq 3 s7 (.int .i64 0)) fun s8 =>
 K s8 h1
theorem e75 (s0_1 : Value) (f1_1 : Value) (h : Heap) (K : Value -> Heap -> Prop) : wpA Tryz.prog 9 (anOf []) (bodyOf Tryz.f75) 1 (fun A h => resA Tryz.prog A h K [.tmp 4]) (fun _ _ _ => False) (fun A h => resA Tryz.prog A h K [.tmp 4]) (aargs [s0_1, f1_1] 0) h = t75 Tryz.prog s0_1 f1_1 h K := by kernel_rfl
theorem c75 (s0_1 : Value) (f1_1 : Value) (h : Heap) (K : Value -> Heap -> Prop) (H : t75 Tryz.prog s0_1 f1_1 h K) : callM Tryz.prog 75 #[s0_1, f1_1] h K :=
  callM_of_wpA mixed (fn := Tryz.f75) Tryz.func75 (c := bodyOf Tryz.f75) rfl (of_decide_eq_true (by kernel_rfl)) (anOf []) 7 9 (by kernel_rfl) rfl [.tmp 4] (by kernel_rfl) (args := [s0_1, f1_1]) (by rw [e75]; exact H)
def t77 (P : Program) (list0_1 : Value) (h : Heap) (K : Value -> Heap -> Prop) : Prop :=
 pop P (lenS 33 3 list0_1) fun s7 =>
 pop P (binE .eql 3 (.tmp 7) (.const (.int .i64 0)) s7 (.int .i64 0)) fun s8 =>
 condM s8
 (K (Value.string { data := #[45] }) h)
 (eop P (Instr.buildSlice 99 0 #[]) h fun s9 h1 =>
 pop P (lenS 33 3 list0_1) fun s11 =>
 ∃ (I1 : List Value -> Heap -> Prop) (μ_1 : List Value -> Heap -> Nat), I1 [s9, (.int .i64 0)] h1 /\
 ∀ (junk1 : Nat -> Value) (words3_1 : Value) (s12 : Value) (h2 : Heap), I1 [words3_1, s12] h2 ->
 pop P (binA .lss 3 s12 s11) fun s13 =>
 condM s13
 (pop P (Instr.indexAt 33 list0_1 s12) fun s14 =>
 rop P (Instr.loadAt 3 s14) h2 fun s15 =>
 callM P 125 #[s15] h2 fun s18 h3 =>
 eop P (Instr.buildSlice 99 1 #[(0, s18)]) h3 fun s19 h4 =>
 eop P (appS 99 99 99 words3_1 s19) h4 fun s20 h5 =>
 pop P (binA .add 3 s12 (.int .i64 1)) fun s21 =>
 I1 [s20, s21] h5 /\ μ_1 [s20, s21] h5 < μ_1 [words3_1, s12] h2)
 (callM P 78 #[words3_1, (Value.string { data := #[44] })] h2 fun s23 h6 =>
 K s23 h6))
theorem e77 (list0_1 : Value) (h : Heap) (K : Value -> Heap -> Prop) : wpA Tryz.prog 24 (anOf [(122, [3, 12])]) (bodyOf Tryz.f77) 1 (fun A h => resA Tryz.prog A h K [.tmp 2]) (fun _ _ _ => False) (fun A h => resA Tryz.prog A h K [.tmp 2]) (aargs [list0_1] 0) h = t77 Tryz.prog list0_1 h K := by kernel_rfl
theorem c77 (list0_1 : Value) (h : Heap) (K : Value -> Heap -> Prop) (H : t77 Tryz.prog list0_1 h K) : callM Tryz.prog 77 #[list0_1] h K :=
  callM_of_wpA mixed (fn := Tryz.f77) Tryz.func77 (c := bodyOf Tryz.f77) rfl (of_decide_eq_true (by kernel_rfl)) (anOf [(122, [3, 12])]) 23 24 (by kernel_rfl) rfl [.tmp 2] (by kernel_rfl) (args := [list0_1]) (by rw [e77]; exact H)
def t79 (P : Program) (l0_1 : Value) (lo1_1 : Value) (hi2_1 : Value) (h : Heap) (K : Value -> Heap -> Prop) : Prop :=
 pop P (lenS 33 3 l0_1) fun s10 =>
 ∃ (I1 : List Value -> Heap -> Prop) (μ_1 : List Value -> Heap -> Nat), I1 [(.int .i64 0)] h /\
 ∀ (junk1 : Nat -> Value) (s11 : Value) (h1 : Heap), I1 [s11] h1 ->
 pop P (binA .lss 3 s11 s10) fun s12 =>
 condM s12
 (pop P (Instr.indexAt 33 l0_1 s11) fun s13 =>
 rop P (Instr.loadAt 3 s13) h1 fun s14 =>
 callM P 74 #[s14, lo1_1, hi2_1] h1 fun s18 h2 =>
 pop P (Op.unary .not s18) fun s19 =>
 condM s19
 (K (Value.bool false) h2)
 (pop P (binA .add 3 s11 (.int .i64 1)) fun s20 =>
 I1 [s20] h2 /\ μ_1 [s20] h2 < μ_1 [s11] h1))
 (K (Value.bool true) h1)
theorem e79 (l0_1 : Value) (lo1_1 : Value) (hi2_1 : Value) (h : Heap) (K : Value -> Heap -> Prop) : wpA Tryz.prog 21 (anOf [(26, [11])]) (bodyOf Tryz.f79) 1 (fun A h => resA Tryz.prog A h K [.tmp 6]) (fun _ _ _ => False) (fun A h => resA Tryz.prog A h K [.tmp 6]) (aargs [l0_1, lo1_1, hi2_1] 0) h = t79 Tryz.prog l0_1 lo1_1 hi2_1 h K := by kernel_rfl
theorem c79 (l0_1 : Value) (lo1_1 : Value) (hi2_1 : Value) (h : Heap) (K : Value -> Heap -> Prop) (H : t79 Tryz.prog l0_1 lo1_1 hi2_1 h K) : callM Tryz.prog 79 #[l0_1, lo1_1, hi2_1] h K :=
  callM_of_wpA mixed (fn := Tryz.f79) Tryz.func79 (c := bodyOf Tryz.f79) rfl (of_decide_eq_true (by kernel_rfl)) (anOf [(26, [11])]) 18 21 (by kernel_rfl) rfl [.tmp 6] (by kernel_rfl) (args := [l0_1, lo1_1, hi2_1]) (by rw [e79]; exact H)
def t81 (P : Program) (c0_1 : Value) (h : Heap) (K : Value -> Heap -> Prop) : Prop :=
 eop P (Instr.alloc 26 true (.tuple #[])) h fun s2 h1 =>
 callM P 68 #[c0_1, (.int .i64 6)] h1 fun s10 h2 =>
 condM s10
 (callM P 121 #[c0_1] h2 fun s12 h3 =>
 uop P (Instr.storeAt 26 s2 s12) h3 fun q1 h4 =>
 rop P (Instr.loadAt 26 s2) h4 fun r_1 =>
 K r_1 h4)
 (callM P 70 #[c0_1, (.int .i64 5)] h2 fun s14 h5 =>
 pop P (binA .add 3 (.int .i64 1) s14) fun s15 =>
 callM P 68 #[c0_1, (.int .i64 2)] h5 fun s18 h6 =>
 callM P 129 #[s15, s18] h6 fun s19 h7 =>
 eop P (Instr.alloc 26 true (.tuple #[])) h7 fun g4_1 h8 =>
 uop P (Instr.storeAt 26 g4_1 s19) h8 fun q2 h9 =>
 callM P 70 #[c0_1, (.int .i64 3)] h9 fun s21 h10 =>
 ∃ (I1 : List Value -> Heap -> Prop) (μ_1 : List Value -> Heap -> Nat), I1 [s21] h10 /\
 ∀ (junk1 : Nat -> Value) (k5_1 : Value) (h11 : Heap), I1 [k5_1] h11 ->
 pop P (binA .gtr 3 k5_1 (.int .i64 0)) fun s23 =>
 condM s23
 (callM P 130 #[c0_1, s15] h11 fun s28 h12 =>
 callM P 70 #[c0_1, s15] h12 fun s31 h13 =>
 pop P (binA .add 3 (.int .i64 1) s31) fun s32 =>
 ∃ (I2 : List Value -> Heap -> Prop) (μ_2 : List Value -> Heap -> Nat), I2 [(.int .i64 0)] h13 /\
 ∀ (junk2 : Nat -> Value) (i8_1 : Value) (h14 : Heap), I2 [i8_1] h14 ->
 pop P (binA .lss 3 i8_1 s32) fun s35 =>
 condM s35
 (pop P (Instr.fieldAt 26 g4_1 0) fun s38 =>
 rop P (Instr.loadAt 24 s38) h14 fun s39 =>
 pop P (Instr.indexAt 33 s28 i8_1) fun s42 =>
 rop P (Instr.loadAt 3 s42) h14 fun s43 =>
 pop P (Instr.fieldAt 26 g4_1 0) fun s44 =>
 rop P (Instr.loadAt 24 s44) h14 fun s45 =>
 pop P (Instr.indexAt 33 s28 i8_1) fun s48 =>
 rop P (Instr.loadAt 3 s48) h14 fun s49 =>
 pop P (Instr.indexAt 24 s45 s49) fun s50 =>
 rop P (Instr.loadAt 33 s50) h14 fun s51 =>
 pop P (binA .add 3 i8_1 (.int .i64 1)) fun s54 =>
 pop P (binA .rem 3 s54 s32) fun s56 =>
 pop P (Instr.indexAt 33 s28 s56) fun s57 =>
 rop P (Instr.loadAt 3 s57) h14 fun s58 =>
 eop P (Instr.buildSlice 33 1 #[(0, s58)]) h14 fun s59 h15 =>
 (∀ w : World, w.heap = h15 -> (Instr.loadAt 33 s50).run P w = .ok s51 w) /\
 (∀ w : World, w.heap = h15 -> (Instr.loadAt 3 s48).run P w = .ok s49 w) /\
 (∀ w : World, w.heap = h15 -> (Instr.loadAt 24 s44).run P w = .ok s45 w) /\
 (∀ w : World, w.heap = h15 -> (Instr.loadAt 3 s42).run P w = .ok s43 w) /\
 (∀ w : World, w.heap = h15 -> (Instr.loadAt 24 s38).run P w = .ok s39 w) /\
 eop P (appS 33 33 33 s51 s59) h15 fun s60 h16 =>
 (∀ w : World, w.heap = h16 -> (Instr.loadAt 3 s48).run P w = .ok s49 w) /\
 (∀ w : World, w.heap = h16 -> (Instr.loadAt 24 s44).run P w = .ok s45 w) /\
 (∀ w : World, w.heap = h16 -> (Instr.loadAt 3 s42).run P w = .ok s43 w) /\
 (∀ w : World, w.heap = h16 -> (Instr.loadAt 24 s38).run P w = .ok s39 w) /\
 pop P (Instr.indexAt 24 s39 s43) fun s61 =>
 uop P (Instr.storeAt 33 s61 s60) h16 fun q3 h17 =>
 pop P (binA .add 3 i8_1 (.int .i64 1)) fun s37 =>
 I2 [s37] h17 /\ μ_2 [s37] h17 < μ_2 [i8_1] h14)
 (pop P (binA .sub 3 k5_1 (.int .i64 1)) fun s25 =>
 I1 [s25] h14 /\ μ_1 [s25] h14 < μ_1 [k5_1] h11))
 (rop P (Instr.loadAt 26 g4_1) h11 fun s62 =>
 uop P (Instr.storeAt 26 s2 s62) h11 fun q4 h18 =>
 rop P (Instr.loadAt 26 s2) h18 fun r_2 =>
 K r_2 h18))
theorem e81 (c0_1 : Value) (h : Heap) (K : Value -> Heap -> Prop) : wpA Tryz.prog 63 (anOf [(250, [5]), (64078, [8])]) (bodyOf Tryz.f81) 1 (fun A h => resA Tryz.prog A h K [.cell 2 26]) (fun _ _ _ => False) (fun A h => resA Tryz.prog A h K [.cell 2 26]) (aargs [c0_1] 0) h = t81 Tryz.prog c0_1 h K := by kernel_rfl
theorem c81 (c0_1 : Value) (h : Heap) (K : Value -> Heap -> Prop) (H : t81 Tryz.prog c0_1 h K) : callM Tryz.prog 81 #[c0_1] h K :=
  callM_of_wpA mixed (fn := Tryz.f81) Tryz.func81 (c := bodyOf Tryz.f81) rfl (of_decide_eq_true (by kernel_rfl)) (anOf [(250, [5]), (64078, [8])]) 62 63 (by kernel_rfl) rfl [.cell 2 26] (by kernel_rfl) (args := [c0_1]) (by rw [e81]; exact H)
def t82 (P : Program) (g0_1 : Value) (h : Heap) (K : Value -> Heap -> Prop) : Prop :=
 eop P (Instr.box 26 g0_1) h fun g1_1 h1 =>
 pop P (Instr.fieldAt 26 g1_1 0) fun s6 =>
 rop P (Instr.loadAt 24 s6) h1 fun s7 =>
 pop P (lenS 24 3 s7) fun s8 =>
 callM P 74 #[s8, (.int .i64 1), (.int .i64 8)] h1 fun s10 h2 =>
 pop P (Op.unary .not s10) fun s11 =>
 condM s11
 (K (Value.bool false) h2)
 (pop P (Instr.fieldAt 26 g1_1 0) fun s12 =>
 rop P (Instr.loadAt 24 s12) h2 fun s13 =>
 pop P (lenS 24 3 s13) fun s14 =>
 ∃ (I1 : List Value -> Heap -> Prop) (μ_1 : List Value -> Heap -> Nat), I1 [(.int .i64 0)] h2 /\
 ∀ (junk1 : Nat -> Value) (s15 : Value) (h3 : Heap), I1 [s15] h3 ->
 pop P (binA .lss 3 s15 s14) fun s16 =>
 condM s16
 (pop P (Instr.indexAt 24 s13 s15) fun s17 =>
 rop P (Instr.loadAt 33 s17) h3 fun s18 =>
 pop P (lenS 33 3 s18) fun s20 =>
 pop P (binA .gtr 3 s20 (.int .i64 5)) fun s21 =>
 guardM (asG s21 false) false (fun k_1 => k_1 s18 h3) h3 fun s23 h4 =>
 guardM (asG s21 false) false (fun k_2 => k_2 s8 h4) h4 fun s24 h5 =>
 guardM (asG s21 false) false (fun k_3 => pop P (binA .sub 3 s24 (.int .i64 1)) fun s25 =>
 k_3 s25 h5) h5 fun s25b h6 =>
 guardM (asG s21 false) false (fun k_4 => callM P 79 #[s23, (.int .i64 0), s25b] h6 fun s26 h7 =>
 k_4 s26 h7) h6 fun s26b h8 =>
 guardM (asG s21 false) false (fun k_5 => pop P (Op.unary .not s26b) fun s27 =>
 k_5 s27 h8) h8 fun s27b h9 =>
 pop P (pickS s21 (Value.bool true) s27b) fun s28 =>
 condM s28
 (K (Value.bool false) h9)
 (pop P (binA .add 3 s15 (.int .i64 1)) fun s29 =>
 I1 [s29] h9 /\ μ_1 [s29] h9 < μ_1 [s15] h3))
 (K (Value.bool true) h3))
theorem e82 (g0_1 : Value) (h : Heap) (K : Value -> Heap -> Prop) : wpA Tryz.prog 30 (anOf [(122, [15])]) (bodyOf Tryz.f82) 1 (fun A h => resA Tryz.prog A h K [.tmp 2]) (fun _ _ _ => False) (fun A h => resA Tryz.prog A h K [.tmp 2]) (aargs [g0_1] 0) h = t82 Tryz.prog g0_1 h K := by kernel_rfl
theorem c82 (g0_1 : Value) (h : Heap) (K : Value -> Heap -> Prop) (H : t82 Tryz.prog g0_1 h K) : callM Tryz.prog 82 #[g0_1] h K :=
  callM_of_wpA mixed (fn := Tryz.f82) Tryz.func82 (c := bodyOf Tryz.f82) rfl (of_decide_eq_true (by kernel_rfl)) (anOf [(122, [15])]) 29 30 (by kernel_rfl) rfl [.tmp 2] (by kernel_rfl) (args := [g0_1]) (by rw [e82]; exact H)
def t83 (P : Program) (c0_1 : Value) (g1_1 : Value) (h : Heap) (K : Value -> Heap -> Prop) : Prop :=
 eop P (Instr.box 26 g1_1) h fun g3_1 h1 =>
 eop P (Instr.alloc 54 true (.tuple #[])) h1 fun s4 h2 =>
 pop P (Instr.fieldAt 26 g3_1 0) fun s10 =>
 rop P (Instr.loadAt 24 s10) h2 fun s11 =>
 pop P (lenS 24 3 s11) fun s12 =>
 callM P 70 #[c0_1, s12] h2 fun s13 h3 =>
 pop P (Instr.build 54 #[(1, s13)]) fun s14 =>
 eop P (Instr.alloc 54 true (.tuple #[])) h3 fun w5_1 h4 =>
 uop P (Instr.storeAt 54 w5_1 s14) h4 fun q1 h5 =>
 pop P (Instr.fieldAt 26 g3_1 0) fun s15 =>
 rop P (Instr.loadAt 24 s15) h5 fun s16 =>
 pop P (lenS 24 3 s16) fun s17 =>
 ∃ (I1 : List Value -> Heap -> Prop) (μ_1 : List Value -> Heap -> Nat), I1 [(.int .i64 0)] h5 /\
 ∀ (junk1 : Nat -> Value) (s18 : Value) (h6 : Heap), I1 [s18] h6 ->
 pop P (binA .lss 3 s18 s17) fun s19 =>
 condM s19
 (pop P (Instr.indexAt 24 s16 s18) fun s20 =>
 rop P (Instr.loadAt 33 s20) h6 fun s21 =>
 ∃ J1 : List Value -> Heap -> Prop, (pop P (lenS 33 3 s21) fun s23 =>
 pop P (binA .gtr 3 s23 (.int .i64 0)) fun s24 =>
 condM s24
 (pop P (lenS 33 3 s21) fun s27 =>
 callM P 70 #[c0_1, s27] h6 fun s28 h7 =>
 J1 [s28] h7)
 (J1 [(.int .i64 0)] h6)) /\
 ∀ (junk2 : Nat -> Value) (k8_1 : Value) (h8 : Heap), J1 [k8_1] h8 ->
 pop P (Instr.fieldAt 54 w5_1 0) fun s29 =>
 rop P (Instr.loadAt 33 s29) h8 fun s30 =>
 eop P (Instr.buildSlice 33 1 #[(0, k8_1)]) h8 fun s32 h9 =>
 eop P (appS 33 33 33 s30 s32) h9 fun s33 h10 =>
 pop P (Instr.fieldAt 54 w5_1 0) fun s34 =>
 uop P (Instr.storeAt 33 s34 s33) h10 fun q2 h11 =>
 pop P (binA .add 3 s18 (.int .i64 1)) fun s35 =>
 I1 [s35] h11 /\ μ_1 [s35] h11 < μ_1 [s18] h6)
 (rop P (Instr.loadAt 54 w5_1) h6 fun s36 =>
 uop P (Instr.storeAt 54 s4 s36) h6 fun q3 h12 =>
 rop P (Instr.loadAt 54 s4) h12 fun r_1 =>
 K r_1 h12)
theorem e83 (c0_1 : Value) (g1_1 : Value) (h : Heap) (K : Value -> Heap -> Prop) : wpA Tryz.prog 37 (anOf [(58, [18]), (7475, [8])]) (bodyOf Tryz.f83) 1 (fun A h => resA Tryz.prog A h K [.cell 4 54]) (fun _ _ _ => False) (fun A h => resA Tryz.prog A h K [.cell 4 54]) (aargs [c0_1, g1_1] 0) h = t83 Tryz.prog c0_1 g1_1 h K := by kernel_rfl
theorem c83 (c0_1 : Value) (g1_1 : Value) (h : Heap) (K : Value -> Heap -> Prop) (H : t83 Tryz.prog c0_1 g1_1 h K) : callM Tryz.prog 83 #[c0_1, g1_1] h K :=
  callM_of_wpA mixed (fn := Tryz.f83) Tryz.func83 (c := bodyOf Tryz.f83) rfl (of_decide_eq_true (by kernel_rfl)) (anOf [(58, [18]), (7475, [8])]) 35 37 (by kernel_rfl) rfl [.cell 4 54] (by kernel_rfl) (args := [c0_1, g1_1]) (by rw [e83]; exact H)
def t84 (P : Program) (g0_1 : Value) (w1_1 : Value) (h : Heap) (K : Value -> Heap -> Prop) : Prop :=
 eop P (Instr.box 26 g0_1) h fun g2_1 h1 =>
 eop P (Instr.box 54 w1_1) h1 fun w3_1 h2 =>
 rop P (Instr.loadAt 26 g2_1) h2 fun s7 =>
 pop P (Instr.fieldAt 54 w3_1 1) fun s8 =>
 rop P (Instr.loadAt 3 s8) h2 fun s9 =>
 eop P (Instr.buildSlice 33 1 #[(0, s9)]) h2 fun s10 h3 =>
 callM P 54 #[s7, s10] h3 fun s11 h4 =>
 pop P (Op.unary .not s11) fun s12 =>
 guardM (asG s12 false) false (fun k_1 => pop P (Instr.fieldAt 54 w3_1 0) fun s14 =>
 k_1 s14 h4) h4 fun s14b h5 =>
 guardM (asG s12 false) false (fun k_2 => rop P (Instr.loadAt 33 s14b) h5 fun s15 =>
 k_2 s15 h5) h5 fun s15b h6 =>
 guardM (asG s12 false) false (fun k_3 => pop P (lenS 33 3 s15b) fun s16 =>
 k_3 s16 h6) h6 fun s16b h7 =>
 guardM (asG s12 false) false (fun k_4 => pop P (Instr.fieldAt 26 g2_1 0) fun s17 =>
 k_4 s17 h7) h7 fun s17b h8 =>
 guardM (asG s12 false) false (fun k_5 => rop P (Instr.loadAt 24 s17b) h8 fun s18 =>
 k_5 s18 h8) h8 fun s18b h9 =>
 guardM (asG s12 false) false (fun k_6 => pop P (lenS 24 3 s18b) fun s19 =>
 k_6 s19 h9) h9 fun s19b h10 =>
 guardM (asG s12 false) false (fun k_7 => pop P (binE .neq 3 (.tmp 16) (.tmp 19) s16b s19b) fun s20 =>
 k_7 s20 h10) h10 fun s20b h11 =>
 pop P (pickS s12 (Value.bool true) s20b) fun s21 =>
 condM s21
 (K (Value.bool false) h11)
 (pop P (Instr.fieldAt 54 w3_1 0) fun s22 =>
 rop P (Instr.loadAt 33 s22) h11 fun s23 =>
 pop P (lenS 33 3 s23) fun s24 =>
 ∃ (I1 : List Value -> Heap -> Prop) (μ_1 : List Value -> Heap -> Nat), I1 [(.int .i64 0)] h11 /\
 ∀ (junk1 : Nat -> Value) (s25 : Value) (h12 : Heap), I1 [s25] h12 ->
 pop P (binA .lss 3 s25 s24) fun s26 =>
 condM s26
 (pop P (Instr.indexAt 33 s23 s25) fun s28 =>
 rop P (Instr.loadAt 3 s28) h12 fun s29 =>
 pop P (Instr.fieldAt 26 g2_1 0) fun s31 =>
 rop P (Instr.loadAt 24 s31) h12 fun s32 =>
 pop P (Instr.indexAt 24 s32 s25) fun s34 =>
 rop P (Instr.loadAt 33 s34) h12 fun s35 =>
 pop P (lenS 33 3 s35) fun s36 =>
 pop P (binA .sub 3 s36 (.int .i64 1)) fun s37 =>
 pop P (Builtin.max_ #[3, 3] 3 #[s37, (.int .i64 0)]) fun s38 =>
 callM P 72 #[s29, (.int .i64 0), s38] h12 fun s39 h13 =>
 pop P (Op.unary .not s39) fun s40 =>
 condM s40
 (K (Value.bool false) h13)
 (pop P (binA .add 3 s25 (.int .i64 1)) fun s41 =>
 I1 [s41] h13 /\ μ_1 [s41] h13 < μ_1 [s25] h12))
 (K (Value.bool true) h12))
theorem e84 (g0_1 : Value) (w1_1 : Value) (h : Heap) (K : Value -> Heap -> Prop) : wpA Tryz.prog 42 (anOf [(58, [25])]) (bodyOf Tryz.f84) 1 (fun A h => resA Tryz.prog A h K [.tmp 4]) (fun _ _ _ => False) (fun A h => resA Tryz.prog A h K [.tmp 4]) (aargs [g0_1, w1_1] 0) h = t84 Tryz.prog g0_1 w1_1 h K := by kernel_rfl
theorem c84 (g0_1 : Value) (w1_1 : Value) (h : Heap) (K : Value -> Heap -> Prop) (H : t84 Tryz.prog g0_1 w1_1 h K) : callM Tryz.prog 84 #[g0_1, w1_1] h K :=
  callM_of_wpA mixed (fn := Tryz.f84) Tryz.func84 (c := bodyOf Tryz.f84) rfl (of_decide_eq_true (by kernel_rfl)) (anOf [(58, [25])]) 40 42 (by kernel_rfl) rfl [.tmp 4] (by kernel_rfl) (args := [g0_1, w1_1]) (by rw [e84]; exact H)
def t85 (P : Program) (g0_1 : Value) (w1_1 : Value) (h : Heap) (K : Value -> Heap -> Prop) : Prop :=
 eop P (Instr.box 26 g0_1) h fun g2_1 h1 =>
 eop P (Instr.box 54 w1_1) h1 fun w3_1 h2 =>
 eop P (Instr.makeMap 147 none) h2 fun s13 h3 =>
 rop P (Instr.loadAt 54 w3_1) h3 fun s14 =>
 callM P 91 #[s14] h3 fun s15 h4 =>
 eop P (Instr.alloc 54 true (.tuple #[])) h4 fun now8_1 h5 =>
 uop P (Instr.storeAt 54 now8_1 s15) h5 fun q1 h6 =>
 ∃ J1 : List Value -> Heap -> Prop, (∃ (I1 : List Value -> Heap -> Prop) (μ_1 : List Value -> Heap -> Nat), I1 [(.int .i64 0)] h6 /\
 ∀ (junk1 : Nat -> Value) (n9_1 : Value) (h7 : Heap), I1 [n9_1] h7 ->
 pop P (binA .leq 3 n9_1 (.int .i64 2000)) fun s17 =>
 condM s17
 (rop P (Instr.loadAt 54 now8_1) h7 fun s20 =>
 callM P 131 #[s20] h7 fun s21 h8 =>
 rop P (Instr.lookup 147 s13 s21 true) h8 fun s25 =>
 pop P (Instr.extract s25 0) fun s26 =>
 pop P (Instr.extract s25 1) fun s27 =>
 condM s27
 (pop P (binA .sub 3 n9_1 s26) fun s32 =>
 K (.tuple #[s26, s32, (Value.bool true)]) h8)
 (uop P (Instr.mapUpdate 147 s13 s21 n9_1) h8 fun q2 h9 =>
 rop P (Instr.loadAt 26 g2_1) h9 fun s36 =>
 callM P 100 #[s36, now8_1] h9 fun s37 h10 =>
 pop P (Op.unary .not s37) fun s38 =>
 condM s38
 (J1 [] h10)
 (pop P (binA .add 3 n9_1 (.int .i64 1)) fun s19 =>
 I1 [s19] h10 /\ μ_1 [s19] h10 < μ_1 [n9_1] h7)))
 (J1 [] h7)) /\
 ∀ (junk2 : Nat -> Value) (h11 : Heap), J1 [] h11 ->
 K (.tuple #[(.int .i64 0), (.int .i64 0), (Value.bool false)]) h11
theorem e85 (g0_1 : Value) (w1_1 : Value) (h : Heap) (K : Value -> Heap -> Prop) : wpA Tryz.prog 39 (anOf [(7, []), (58, [9])]) (bodyOf Tryz.f85) 1 (fun A h => resA Tryz.prog A h K [.tmp 4, .tmp 5, .tmp 6]) (fun _ _ _ => False) (fun A h => resA Tryz.prog A h K [.tmp 4, .tmp 5, .tmp 6]) (aargs [g0_1, w1_1] 0) h = t85 Tryz.prog g0_1 w1_1 h K := by kernel_rfl
theorem c85 (g0_1 : Value) (w1_1 : Value) (h : Heap) (K : Value -> Heap -> Prop) (H : t85 Tryz.prog g0_1 w1_1 h K) : callM Tryz.prog 85 #[g0_1, w1_1] h K :=
  callM_of_wpA mixed (fn := Tryz.f85) Tryz.func85 (c := bodyOf Tryz.f85) rfl (of_decide_eq_true (by kernel_rfl)) (anOf [(7, []), (58, [9])]) 37 39 (by kernel_rfl) rfl [.tmp 4, .tmp 5, .tmp 6] (by kernel_rfl) (args := [g0_1, w1_1]) (by rw [e85]; exact H)
def t86 (P : Program) (g0_1 : Value) (w1_1 : Value) (h : Heap) (K : Value -> Heap -> Prop) : Prop :=
 eop P (Instr.box 26 g0_1) h fun g2_1 h1 =>
 eop P (Instr.box 54 w1_1) h1 fun w3_1 h2 =>
 eop P (Instr.alloc 54 true (.tuple #[])) h2 fun s5 h3 =>
 ∃ J1 : List Value -> Heap -> Prop, (rop P (Instr.loadAt 54 w3_1) h3 fun s22 =>
 rop P (Instr.loadAt 54 w3_1) h3 fun s23 =>
 (eop P (Instr.alloc 54 true (.tuple #[])) h3 fun slow7_1 h4 =>
 (∀ w : World, w.heap = h4 -> (Instr.loadAt 54 w3_1).run P w = .ok s23 w) /\
 (∀ w : World, w.heap = h4 -> (Instr.loadAt 54 w3_1).run P w = .ok s22 w) /\
 eop P (Instr.alloc 54 true (.tuple #[])) h4 fun fast8_1 h5 =>
 (∀ w : World, w.heap = h5 -> (Instr.loadAt 54 w3_1).run P w = .ok s23 w) /\
 (∀ w : World, w.heap = h5 -> (Instr.loadAt 54 w3_1).run P w = .ok s22 w) /\
 uop P (Instr.storeAt 54 slow7_1 s22) h5 fun q1 h6 =>
 (∀ w : World, w.heap = h6 -> (Instr.loadAt 54 w3_1).run P w = .ok s23 w) /\
 uop P (Instr.storeAt 54 fast8_1 s23) h6 fun q2 h7 =>
 J1 [slow7_1, fast8_1] h7) /\
 (eop P (Instr.alloc 54 true (.tuple #[])) h3 fun fast8_2 h8 =>
 (∀ w : World, w.heap = h8 -> (Instr.loadAt 54 w3_1).run P w = .ok s23 w) /\
 (∀ w : World, w.heap = h8 -> (Instr.loadAt 54 w3_1).run P w = .ok s22 w) /\
 eop P (Instr.alloc 54 true (.tuple #[])) h8 fun slow7_2 h9 =>
 (∀ w : World, w.heap = h9 -> (Instr.loadAt 54 w3_1).run P w = .ok s23 w) /\
 (∀ w : World, w.heap = h9 -> (Instr.loadAt 54 w3_1).run P w = .ok s22 w) /\
 uop P (Instr.storeAt 54 slow7_2 s22) h9 fun q3 h10 =>
 (∀ w : World, w.heap = h10 -> (Instr.loadAt 54 w3_1).run P w = .ok s23 w) /\
 uop P (Instr.storeAt 54 fast8_2 s23) h10 fun q4 h11 =>
 J1 [slow7_2, fast8_2] h11)) /\
 ∀ (junk1 : Nat -> Value) (slow7_3 : Value) (fast8_3 : Value) (h12 : Heap), J1 [slow7_3, fast8_3] h12 ->
 ∃ (I1 : List Value -> Heap -> Prop) (μ_1 : List Value -> Heap -> Nat), I1 [(Value.bool false), (.int .i64 1)] h12 /\
 ∀ (junk2 : Nat -> Value) (met9_1 : Value) (n10_1 : Value) (h13 : Heap), I1 [met9_1, n10_1] h13 ->
 pop P (binA .mul 3 (.int .i64 2) n10_1) fun s25 =>
 pop P (binA .leq 3 s25 (.int .i64 4000)) fun s26 =>
 guardM (asG s26 true) true (fun k_1 => k_1 met9_1 h13) h13 fun s28 h14 =>
 guardM (asG s26 true) true (fun k_2 => pop P (Op.unary .not s28) fun s29 =>
 k_2 s29 h14) h14 fun s29b h15 =>
 pop P (pickS s26 s29b (Value.bool false)) fun s30 =>
 condM s30
 (rop P (Instr.loadAt 26 g2_1) h15 fun s34 =>
 rop P (Instr.loadAt 54 slow7_3) h15 fun s35 =>
 callM P 105 #[s34, s35] h15 fun s36 h16 =>
 pop P (Instr.extract s36 0) fun s37 =>
 pop P (Instr.extract s36 1) fun s38 =>
 eop P (Instr.alloc 54 true (.tuple #[])) h16 fun one11_1 h17 =>
 uop P (Instr.storeAt 54 one11_1 s37) h17 fun q5 h18 =>
 rop P (Instr.loadAt 26 g2_1) h18 fun s40 =>
 rop P (Instr.loadAt 54 fast8_3) h18 fun s41 =>
 callM P 105 #[s40, s41] h18 fun s42 h19 =>
 pop P (Instr.extract s42 0) fun s43 =>
 pop P (Instr.extract s42 1) fun s44 =>
 eop P (Instr.alloc 54 true (.tuple #[])) h19 fun two13_1 h20 =>
 uop P (Instr.storeAt 54 two13_1 s43) h20 fun q6 h21 =>
 pop P (Op.unary .not s38) fun s46 =>
 guardM (asG s46 false) false (fun k_3 => k_3 s44 h21) h21 fun s48 h22 =>
 guardM (asG s46 false) false (fun k_4 => pop P (Op.unary .not s48) fun s49 =>
 k_4 s49 h22) h22 fun s49b h23 =>
 pop P (pickS s46 (Value.bool true) s49b) fun s50 =>
 condM s50
 (rop P (Instr.loadAt 54 w3_1) h23 fun s51 =>
 uop P (Instr.storeAt 54 s5 s51) h23 fun q7 h24 =>
 rop P (Instr.loadAt 54 s5) h24 fun r_1 =>
 K (.tuple #[(.int .i64 0), r_1, (.int .i64 0)]) h24)
 (rop P (Instr.loadAt 26 g2_1) h23 fun s53 =>
 rop P (Instr.loadAt 54 two13_1) h23 fun s54 =>
 callM P 105 #[s53, s54] h23 fun s55 h25 =>
 pop P (Instr.extract s55 0) fun s56 =>
 pop P (Instr.extract s55 1) fun s57 =>
 eop P (Instr.alloc 54 true (.tuple #[])) h25 fun three15_1 h26 =>
 uop P (Instr.storeAt 54 three15_1 s56) h26 fun q8 h27 =>
 pop P (Op.unary .not s57) fun s59 =>
 condM s59
 (rop P (Instr.loadAt 54 w3_1) h27 fun s60 =>
 uop P (Instr.storeAt 54 s5 s60) h27 fun q9 h28 =>
 rop P (Instr.loadAt 54 s5) h28 fun r_2 =>
 K (.tuple #[(.int .i64 0), r_2, (.int .i64 0)]) h28)
 (rop P (Instr.loadAt 54 one11_1) h27 fun s61 =>
 uop P (Instr.storeAt 54 slow7_3 s61) h27 fun q10 h29 =>
 rop P (Instr.loadAt 54 three15_1) h29 fun s62 =>
 uop P (Instr.storeAt 54 fast8_3 s62) h29 fun q11 h30 =>
 rop P (Instr.loadAt 54 slow7_3) h30 fun s63 =>
 rop P (Instr.loadAt 54 fast8_3) h30 fun s64 =>
 callM P 132 #[s63, s64] h30 fun s65 h31 =>
 pop P (binA .add 3 n10_1 (.int .i64 1)) fun s32 =>
 I1 [s65, s32] h31 /\ μ_1 [s65, s32] h31 < μ_1 [met9_1, n10_1] h13)))
 (pop P (Op.unary .not met9_1) fun s67 =>
 condM s67
 (rop P (Instr.loadAt 54 w3_1) h15 fun s68 =>
 uop P (Instr.storeAt 54 s5 s68) h15 fun q12 h32 =>
 rop P (Instr.loadAt 54 s5) h32 fun r_3 =>
 K (.tuple #[(.int .i64 0), r_3, (.int .i64 0)]) h32)
 (rop P (Instr.loadAt 26 g2_1) h15 fun s69 =>
 rop P (Instr.loadAt 54 slow7_3) h15 fun s70 =>
 callM P 89 #[s69, s70, (.int .i64 2000)] h15 fun s71 h33 =>
 pop P (binE .eql 3 (.tmp 72) (.const (.int .i64 0)) s71 (.int .i64 0)) fun s73 =>
 condM s73
 (rop P (Instr.loadAt 54 w3_1) h33 fun s74 =>
 uop P (Instr.storeAt 54 s5 s74) h33 fun q13 h34 =>
 rop P (Instr.loadAt 54 s5) h34 fun r_4 =>
 K (.tuple #[(.int .i64 0), r_4, (.int .i64 0)]) h34)
 (∃ J2 : List Value -> Heap -> Prop, (rop P (Instr.loadAt 54 w3_1) h33 fun s75 =>
 rop P (Instr.loadAt 54 w3_1) h33 fun s76 =>
 (eop P (Instr.alloc 54 true (.tuple #[])) h33 fun first18_1 h35 =>
 (∀ w : World, w.heap = h35 -> (Instr.loadAt 54 w3_1).run P w = .ok s76 w) /\
 (∀ w : World, w.heap = h35 -> (Instr.loadAt 54 w3_1).run P w = .ok s75 w) /\
 eop P (Instr.alloc 54 true (.tuple #[])) h35 fun second19_1 h36 =>
 (∀ w : World, w.heap = h36 -> (Instr.loadAt 54 w3_1).run P w = .ok s76 w) /\
 (∀ w : World, w.heap = h36 -> (Instr.loadAt 54 w3_1).run P w = .ok s75 w) /\
 uop P (Instr.storeAt 54 first18_1 s75) h36 fun q14 h37 =>
 (∀ w : World, w.heap = h37 -> (Instr.loadAt 54 w3_1).run P w = .ok s76 w) /\
 uop P (Instr.storeAt 54 second19_1 s76) h37 fun q15 h38 =>
 J2 [first18_1, second19_1] h38) /\
 (eop P (Instr.alloc 54 true (.tuple #[])) h33 fun second19_2 h39 =>
 (∀ w : World, w.heap = h39 -> (Instr.loadAt 54 w3_1).run P w = .ok s76 w) /\
 (∀ w : World, w.heap = h39 -> (Instr.loadAt 54 w3_1).run P w = .ok s75 w) /\
 eop P (Instr.alloc 54 true (.tuple #[])) h39 fun first18_2 h40 =>
 (∀ w : World, w.heap = h40 -> (Instr.loadAt 54 w3_1).run P w = .ok s76 w) /\
 (∀ w : World, w.heap = h40 -> (Instr.loadAt 54 w3_1).run P w = .ok s75 w) /\
 uop P (Instr.storeAt 54 first18_2 s75) h40 fun q16 h41 =>
 (∀ w : World, w.heap = h41 -> (Instr.loadAt 54 w3_1).run P w = .ok s76 w) /\
 uop P (Instr.storeAt 54 second19_2 s76) h41 fun q17 h42 =>
 J2 [first18_2, second19_2] h42)) /\
 ∀ (junk3 : Nat -> Value) (first18_3 : Value) (second19_3 : Value) (h43 : Heap), J2 [first18_3, second19_3] h43 ->
 ∃ (I2 : List Value -> Heap -> Prop) (μ_2 : List Value -> Heap -> Nat), I2 [(.int .i64 0)] h43 /\
 ∀ (junk4 : Nat -> Value) (n20_1 : Value) (h44 : Heap), I2 [n20_1] h44 ->
 pop P (binA .lss 3 n20_1 s71) fun s79 =>
 condM s79
 (rop P (Instr.loadAt 26 g2_1) h44 fun s83 =>
 rop P (Instr.loadAt 54 second19_3) h44 fun s84 =>
 callM P 105 #[s83, s84] h44 fun s85 h45 =>
 pop P (Instr.extract s85 0) fun s86 =>
 pop P (Instr.extract s85 1) fun s87 =>
 uop P (Instr.storeAt 54 second19_3 s86) h45 fun q18 h46 =>
 pop P (binA .add 3 n20_1 (.int .i64 1)) fun s81 =>
 I2 [s81] h46 /\ μ_2 [s81] h46 < μ_2 [n20_1] h44)
 (∃ (I3 : List Value -> Heap -> Prop) (μ_3 : List Value -> Heap -> Nat), I3 [(.int .i64 0)] h44 /\
 ∀ (junk5 : Nat -> Value) (start21_1 : Value) (h47 : Heap), I3 [start21_1] h47 ->
 rop P (Instr.loadAt 54 first18_3) h47 fun s88 =>
 rop P (Instr.loadAt 54 second19_3) h47 fun s89 =>
 callM P 132 #[s88, s89] h47 fun s90 h48 =>
 pop P (Op.unary .not s90) fun s91 =>
 guardM (asG s91 true) true (fun k_5 => k_5 start21_1 h48) h48 fun s93 h49 =>
 guardM (asG s91 true) true (fun k_6 => pop P (binA .leq 3 s93 (.int .i64 2000)) fun s94 =>
 k_6 s94 h49) h49 fun s94b h50 =>
 pop P (pickS s91 s94b (Value.bool false)) fun s95 =>
 condM s95
 (rop P (Instr.loadAt 26 g2_1) h50 fun s97 =>
 rop P (Instr.loadAt 54 first18_3) h50 fun s98 =>
 callM P 105 #[s97, s98] h50 fun s99 h51 =>
 pop P (Instr.extract s99 0) fun s100 =>
 pop P (Instr.extract s99 1) fun s101 =>
 uop P (Instr.storeAt 54 first18_3 s100) h51 fun q19 h52 =>
 rop P (Instr.loadAt 26 g2_1) h52 fun s103 =>
 rop P (Instr.loadAt 54 second19_3) h52 fun s104 =>
 callM P 105 #[s103, s104] h52 fun s105 h53 =>
 pop P (Instr.extract s105 0) fun s106 =>
 pop P (Instr.extract s105 1) fun s107 =>
 uop P (Instr.storeAt 54 second19_3 s106) h53 fun q20 h54 =>
 pop P (binA .add 3 start21_1 (.int .i64 1)) fun s109 =>
 I3 [s109] h54 /\ μ_3 [s109] h54 < μ_3 [start21_1] h47)
 (pop P (binA .add 3 start21_1 s71) fun s112 =>
 pop P (binA .gtr 3 s112 (.int .i64 2000)) fun s113 =>
 condM s113
 (rop P (Instr.loadAt 54 w3_1) h50 fun s114 =>
 uop P (Instr.storeAt 54 s5 s114) h50 fun q21 h55 =>
 rop P (Instr.loadAt 54 s5) h55 fun r_5 =>
 K (.tuple #[(.int .i64 0), r_5, (.int .i64 0)]) h55)
 (rop P (Instr.loadAt 54 first18_3) h50 fun s116 =>
 uop P (Instr.storeAt 54 s5 s116) h50 fun q22 h56 =>
 rop P (Instr.loadAt 54 s5) h56 fun r_6 =>
 K (.tuple #[start21_1, r_6, s71]) h56))))))
theorem e86 (g0_1 : Value) (w1_1 : Value) (h : Heap) (K : Value -> Heap -> Prop) : wpA Tryz.prog 118 (anOf [(3, [7, 8]), (122, [9, 10]), (255, [18, 19]), (4090, [20]), (8188, [21])]) (bodyOf Tryz.f86) 1 (fun A h => resA Tryz.prog A h K [.tmp 4, .cell 5 54, .tmp 6]) (fun _ _ _ => False) (fun A h => resA Tryz.prog A h K [.tmp 4, .cell 5 54, .tmp 6]) (aargs [g0_1, w1_1] 0) h = t86 Tryz.prog g0_1 w1_1 h K := by kernel_rfl
theorem c86 (g0_1 : Value) (w1_1 : Value) (h : Heap) (K : Value -> Heap -> Prop) (H : t86 Tryz.prog g0_1 w1_1 h K) : callM Tryz.prog 86 #[g0_1, w1_1] h K :=
  callM_of_wpA mixed (fn := Tryz.f86) Tryz.func86 (c := bodyOf Tryz.f86) rfl (of_decide_eq_true (by kernel_rfl)) (anOf [(3, [7, 8]), (122, [9, 10]), (255, [18, 19]), (4090, [20]), (8188, [21])]) 116 118 (by kernel_rfl) rfl [.tmp 4, .cell 5 54, .tmp 6] (by kernel_rfl) (args := [g0_1, w1_1]) (by rw [e86]; exact H)
def t87 (P : Program) (g0_1 : Value) (w1_1 : Value) (from2_1 : Value) (so3_1 : Value) (h : Heap) (K : Value -> Heap -> Prop) : Prop :=
 eop P (Instr.box 26 g0_1) h fun g4_1 h1 =>
 eop P (Instr.box 54 w1_1) h1 fun w5_1 h2 =>
 rop P (Instr.loadAt 54 w5_1) h2 fun s12 =>
 callM P 91 #[s12] h2 fun s13 h3 =>
 eop P (Instr.alloc 54 true (.tuple #[])) h3 fun now10_1 h4 =>
 uop P (Instr.storeAt 54 now10_1 s13) h4 fun q1 h5 =>
 ∃ (I1 : List Value -> Heap -> Prop) (μ_1 : List Value -> Heap -> Nat), I1 [(.int .i64 0)] h5 /\
 ∀ (junk1 : Nat -> Value) (n11_1 : Value) (h6 : Heap), I1 [n11_1] h6 ->
 pop P (binA .leq 3 n11_1 (.int .i64 2000)) fun s15 =>
 condM s15
 (pop P (binA .geq 3 n11_1 from2_1) fun s20 =>
 guardM (asG s20 true) true (fun k_1 => k_1 so3_1 h6) h6 fun s22 h7 =>
 guardM (asG s20 true) true (fun k_2 => rop P (Instr.loadAt 54 now10_1) h7 fun s23 =>
 k_2 s23 h7) h7 fun s23b h8 =>
 guardM (asG s20 true) true (fun k_3 => callV P s22 [s23b] h8 fun s24 h9 =>
 k_3 s24 h9) h8 fun s24b h10 =>
 pop P (pickS s20 s24b (Value.bool false)) fun s25 =>
 condM s25
 (K (.tuple #[n11_1, (Value.bool true)]) h10)
 (rop P (Instr.loadAt 26 g4_1) h10 fun s27 =>
 callM P 100 #[s27, now10_1] h10 fun s28 h11 =>
 pop P (Op.unary .not s28) fun s29 =>
 condM s29
 (K (.tuple #[(.int .i64 0), (Value.bool false)]) h11)
 (pop P (binA .add 3 n11_1 (.int .i64 1)) fun s17 =>
 I1 [s17] h11 /\ μ_1 [s17] h11 < μ_1 [n11_1] h6)))
 (K (.tuple #[(.int .i64 0), (Value.bool false)]) h6)
theorem e87 (g0_1 : Value) (w1_1 : Value) (from2_1 : Value) (so3_1 : Value) (h : Heap) (K : Value -> Heap -> Prop) : wpA Tryz.prog 30 (anOf [(58, [11])]) (bodyOf Tryz.f87) 1 (fun A h => resA Tryz.prog A h K [.tmp 8, .tmp 9]) (fun _ _ _ => False) (fun A h => resA Tryz.prog A h K [.tmp 8, .tmp 9]) (aargs [g0_1, w1_1, from2_1, so3_1] 0) h = t87 Tryz.prog g0_1 w1_1 from2_1 so3_1 h K := by kernel_rfl
theorem c87 (g0_1 : Value) (w1_1 : Value) (from2_1 : Value) (so3_1 : Value) (h : Heap) (K : Value -> Heap -> Prop) (H : t87 Tryz.prog g0_1 w1_1 from2_1 so3_1 h K) : callM Tryz.prog 87 #[g0_1, w1_1, from2_1, so3_1] h K :=
  callM_of_wpA mixed (fn := Tryz.f87) Tryz.func87 (c := bodyOf Tryz.f87) rfl (of_decide_eq_true (by kernel_rfl)) (anOf [(58, [11])]) 26 30 (by kernel_rfl) rfl [.tmp 8, .tmp 9] (by kernel_rfl) (args := [g0_1, w1_1, from2_1, so3_1]) (by rw [e87]; exact H)
def t88 (P : Program) (w0_1 : Value) (o1_1 : Value) (h : Heap) (K : Value -> Heap -> Prop) : Prop :=
 eop P (Instr.box 54 w0_1) h fun w2_1 h1 =>
 eop P (Instr.box 54 o1_1) h1 fun o3_1 h2 =>
 pop P (Instr.fieldAt 54 w2_1 1) fun s5 =>
 rop P (Instr.loadAt 3 s5) h2 fun s6 =>
 pop P (Instr.fieldAt 54 o3_1 1) fun s7 =>
 rop P (Instr.loadAt 3 s7) h2 fun s8 =>
 pop P (binE .eql 3 (.tmp 6) (.tmp 8) s6 s8) fun s9 =>
 guardM (asG s9 true) true (fun k_1 => pop P (Instr.fieldAt 54 w2_1 0) fun s11 =>
 k_1 s11 h2) h2 fun s11b h3 =>
 guardM (asG s9 true) true (fun k_2 => rop P (Instr.loadAt 33 s11b) h3 fun s12 =>
 k_2 s12 h3) h3 fun s12b h4 =>
 guardM (asG s9 true) true (fun k_3 => pop P (Instr.fieldAt 54 o3_1 0) fun s13 =>
 k_3 s13 h4) h4 fun s13b h5 =>
 guardM (asG s9 true) true (fun k_4 => rop P (Instr.loadAt 33 s13b) h5 fun s14 =>
 k_4 s14 h5) h5 fun s14b h6 =>
 guardM (asG s9 true) true (fun k_5 => callM P 133 #[s12b, s14b] h6 fun s15 h7 =>
 k_5 s15 h7) h6 fun s15b h8 =>
 pop P (pickS s9 s15b (Value.bool false)) fun s16 =>
 K s16 h8
theorem e88 (w0_1 : Value) (o1_1 : Value) (h : Heap) (K : Value -> Heap -> Prop) : wpA Tryz.prog 17 (anOf []) (bodyOf Tryz.f88) 1 (fun A h => resA Tryz.prog A h K [.tmp 4]) (fun _ _ _ => False) (fun A h => resA Tryz.prog A h K [.tmp 4]) (aargs [w0_1, o1_1] 0) h = t88 Tryz.prog w0_1 o1_1 h K := by kernel_rfl
theorem c88 (w0_1 : Value) (o1_1 : Value) (h : Heap) (K : Value -> Heap -> Prop) (H : t88 Tryz.prog w0_1 o1_1 h K) : callM Tryz.prog 88 #[w0_1, o1_1] h K :=
  callM_of_wpA mixed (fn := Tryz.f88) Tryz.func88 (c := bodyOf Tryz.f88) rfl (of_decide_eq_true (by kernel_rfl)) (anOf []) 15 17 (by kernel_rfl) rfl [.tmp 4] (by kernel_rfl) (args := [w0_1, o1_1]) (by rw [e88]; exact H)
def t89 (P : Program) (g0_1 : Value) (w1_1 : Value) (most2_1 : Value) (h : Heap) (K : Value -> Heap -> Prop) : Prop :=
 eop P (Instr.box 26 g0_1) h fun g3_1 h1 =>
 eop P (Instr.box 54 w1_1) h1 fun w4_1 h2 =>
 rop P (Instr.loadAt 54 w4_1) h2 fun s11 =>
 eop P (Instr.alloc 54 true (.tuple #[])) h2 fun now7_1 h3 =>
 uop P (Instr.storeAt 54 now7_1 s11) h3 fun q1 h4 =>
 ∃ (I1 : List Value -> Heap -> Prop) (μ_1 : List Value -> Heap -> Nat), I1 [(.int .i64 1)] h4 /\
 ∀ (junk1 : Nat -> Value) (n8_1 : Value) (h5 : Heap), I1 [n8_1] h5 ->
 pop P (binA .leq 3 n8_1 most2_1) fun s14 =>
 condM s14
 (rop P (Instr.loadAt 26 g3_1) h5 fun s18 =>
 rop P (Instr.loadAt 54 now7_1) h5 fun s19 =>
 callM P 105 #[s18, s19] h5 fun s20 h6 =>
 pop P (Instr.extract s20 0) fun s21 =>
 pop P (Instr.extract s20 1) fun s22 =>
 eop P (Instr.alloc 54 true (.tuple #[])) h6 fun next9_1 h7 =>
 uop P (Instr.storeAt 54 next9_1 s21) h7 fun q2 h8 =>
 pop P (Op.unary .not s22) fun s24 =>
 condM s24
 (K (.int .i64 0) h8)
 (rop P (Instr.loadAt 54 next9_1) h8 fun s25 =>
 uop P (Instr.storeAt 54 now7_1 s25) h8 fun q3 h9 =>
 rop P (Instr.loadAt 54 now7_1) h9 fun s26 =>
 rop P (Instr.loadAt 54 w4_1) h9 fun s27 =>
 callM P 132 #[s26, s27] h9 fun s28 h10 =>
 condM s28
 (K n8_1 h10)
 (pop P (binA .add 3 n8_1 (.int .i64 1)) fun s16 =>
 I1 [s16] h10 /\ μ_1 [s16] h10 < μ_1 [n8_1] h5)))
 (K (.int .i64 0) h5)
theorem e89 (g0_1 : Value) (w1_1 : Value) (most2_1 : Value) (h : Heap) (K : Value -> Heap -> Prop) : wpA Tryz.prog 30 (anOf [(58, [8])]) (bodyOf Tryz.f89) 1 (fun A h => resA Tryz.prog A h K [.tmp 6]) (fun _ _ _ => False) (fun A h => resA Tryz.prog A h K [.tmp 6]) (aargs [g0_1, w1_1, most2_1] 0) h = t89 Tryz.prog g0_1 w1_1 most2_1 h K := by kernel_rfl
theorem c89 (g0_1 : Value) (w1_1 : Value) (most2_1 : Value) (h : Heap) (K : Value -> Heap -> Prop) (H : t89 Tryz.prog g0_1 w1_1 most2_1 h K) : callM Tryz.prog 89 #[g0_1, w1_1, most2_1] h K :=
  callM_of_wpA mixed (fn := Tryz.f89) Tryz.func89 (c := bodyOf Tryz.f89) rfl (of_decide_eq_true (by kernel_rfl)) (anOf [(58, [8])]) 27 30 (by kernel_rfl) rfl [.tmp 6] (by kernel_rfl) (args := [g0_1, w1_1, most2_1]) (by rw [e89]; exact H)
def t90 (P : Program) (g0_1 : Value) (w1_1 : Value) (n2_1 : Value) (most3_1 : Value) (h : Heap) (K : Value -> Heap -> Prop) : Prop :=
 eop P (Instr.box 26 g0_1) h fun g4_1 h1 =>
 eop P (Instr.box 54 w1_1) h1 fun w5_1 h2 =>
 rop P (Instr.loadAt 26 g4_1) h2 fun s9 =>
 rop P (Instr.loadAt 54 w5_1) h2 fun s10 =>
 callM P 84 #[s9, s10] h2 fun s11 h3 =>
 guardM (asG s11 true) true (fun k_1 => k_1 n2_1 h3) h3 fun s13 h4 =>
 guardM (asG s11 true) true (fun k_2 => k_2 most3_1 h4) h4 fun s14 h5 =>
 guardM (asG s11 true) true (fun k_3 => callM P 72 #[s13, (.int .i64 0), s14] h5 fun s15 h6 =>
 k_3 s15 h6) h5 fun s15b h7 =>
 pop P (pickS s11 s15b (Value.bool false)) fun s16 =>
 K s16 h7
theorem e90 (g0_1 : Value) (w1_1 : Value) (n2_1 : Value) (most3_1 : Value) (h : Heap) (K : Value -> Heap -> Prop) : wpA Tryz.prog 17 (anOf []) (bodyOf Tryz.f90) 1 (fun A h => resA Tryz.prog A h K [.tmp 8]) (fun _ _ _ => False) (fun A h => resA Tryz.prog A h K [.tmp 8]) (aargs [g0_1, w1_1, n2_1, most3_1] 0) h = t90 Tryz.prog g0_1 w1_1 n2_1 most3_1 h K := by kernel_rfl
theorem c90 (g0_1 : Value) (w1_1 : Value) (n2_1 : Value) (most3_1 : Value) (h : Heap) (K : Value -> Heap -> Prop) (H : t90 Tryz.prog g0_1 w1_1 n2_1 most3_1 h K) : callM Tryz.prog 90 #[g0_1, w1_1, n2_1, most3_1] h K :=
  callM_of_wpA mixed (fn := Tryz.f90) Tryz.func90 (c := bodyOf Tryz.f90) rfl (of_decide_eq_true (by kernel_rfl)) (anOf []) 13 17 (by kernel_rfl) rfl [.tmp 8] (by kernel_rfl) (args := [g0_1, w1_1, n2_1, most3_1]) (by rw [e90]; exact H)
def t91 (P : Program) (w0_1 : Value) (h : Heap) (K : Value -> Heap -> Prop) : Prop :=
 eop P (Instr.box 54 w0_1) h fun w1_1 h1 =>
 eop P (Instr.alloc 54 true (.tuple #[])) h1 fun s2 h2 =>
 pop P (Instr.fieldAt 54 w1_1 0) fun s3 =>
 rop P (Instr.loadAt 33 s3) h2 fun s4 =>
 pop P (Instr.fieldAt 54 w1_1 1) fun s6 =>
 rop P (Instr.loadAt 3 s6) h2 fun s7 =>
 callM P 117 #[s4] h2 fun s5 h3 =>
 (∀ w : World, w.heap = h3 -> (Instr.loadAt 3 s6).run P w = .ok s7 w) /\
 pop P (Instr.build 54 #[(0, s5), (1, s7)]) fun s8 =>
 uop P (Instr.storeAt 54 s2 s8) h3 fun q1 h4 =>
 rop P (Instr.loadAt 54 s2) h4 fun r_1 =>
 K r_1 h4
theorem e91 (w0_1 : Value) (h : Heap) (K : Value -> Heap -> Prop) : wpA Tryz.prog 9 (anOf []) (bodyOf Tryz.f91) 1 (fun A h => resA Tryz.prog A h K [.cell 2 54]) (fun _ _ _ => False) (fun A h => resA Tryz.prog A h K [.cell 2 54]) (aargs [w0_1] 0) h = t91 Tryz.prog w0_1 h K := by kernel_rfl
theorem c91 (w0_1 : Value) (h : Heap) (K : Value -> Heap -> Prop) (H : t91 Tryz.prog w0_1 h K) : callM Tryz.prog 91 #[w0_1] h K :=
  callM_of_wpA mixed (fn := Tryz.f91) Tryz.func91 (c := bodyOf Tryz.f91) rfl (of_decide_eq_true (by kernel_rfl)) (anOf []) 8 9 (by kernel_rfl) rfl [.cell 2 54] (by kernel_rfl) (args := [w0_1]) (by rw [e91]; exact H)
def t92 (P : Program) (g0_1 : Value) (w1_1 : Value) (n2_1 : Value) (with3_1 : Value) (h : Heap) (K : Value -> Heap -> Prop) : Prop :=
 eop P (Instr.box 26 g0_1) h fun g4_1 h1 =>
 ∃ (I1 : List Value -> Heap -> Prop) (μ_1 : List Value -> Heap -> Nat), I1 [(.int .i64 0)] h1 /\
 ∀ (junk1 : Nat -> Value) (s11 : Value) (h2 : Heap), I1 [s11] h2 ->
 pop P (binA .lss 3 s11 n2_1) fun s12 =>
 condM s12
 (pop P (nilS w1_1) fun s14 =>
 pop P (Instr.fieldAt 54 s14 1) fun s15 =>
 rop P (Instr.loadAt 3 s15) h2 fun s16 =>
 rop P (Instr.loadAt 26 g4_1) h2 fun s17 =>
 callM P 100 #[s17, w1_1] h2 fun s19 h3 =>
 pop P (Op.unary .not s19) fun s20 =>
 condM s20
 (K (Value.bool false) h3)
 (callV P with3_1 [s16] h3 fun s23 h4 =>
 pop P (binA .add 3 s11 (.int .i64 1)) fun s24 =>
 I1 [s24] h4 /\ μ_1 [s24] h4 < μ_1 [s11] h2))
 (K (Value.bool true) h2)
theorem e92 (g0_1 : Value) (w1_1 : Value) (n2_1 : Value) (with3_1 : Value) (h : Heap) (K : Value -> Heap -> Prop) : wpA Tryz.prog 25 (anOf [(26, [11])]) (bodyOf Tryz.f92) 1 (fun A h => resA Tryz.prog A h K [.tmp 8]) (fun _ _ _ => False) (fun A h => resA Tryz.prog A h K [.tmp 8]) (aargs [g0_1, w1_1, n2_1, with3_1] 0) h = t92 Tryz.prog g0_1 w1_1 n2_1 with3_1 h K := by kernel_rfl
theorem c92 (g0_1 : Value) (w1_1 : Value) (n2_1 : Value) (with3_1 : Value) (h : Heap) (K : Value -> Heap -> Prop) (H : t92 Tryz.prog g0_1 w1_1 n2_1 with3_1 h K) : callM Tryz.prog 92 #[g0_1, w1_1, n2_1, with3_1] h K :=
  callM_of_wpA mixed (fn := Tryz.f92) Tryz.func92 (c := bodyOf Tryz.f92) rfl (of_decide_eq_true (by kernel_rfl)) (anOf [(26, [11])]) 21 25 (by kernel_rfl) rfl [.tmp 8] (by kernel_rfl) (args := [g0_1, w1_1, n2_1, with3_1]) (by rw [e92]; exact H)
def t93 (P : Program) (s0 : Value) (h : Heap) (K : Value -> Heap -> Prop) : Prop :=
 K (.tuple #[]) h
theorem e93 (s0 : Value) (h : Heap) (K : Value -> Heap -> Prop) : wpA Tryz.prog 2 (anOf []) (bodyOf Tryz.f93) 1 (fun A h => resA Tryz.prog A h K []) (fun _ _ _ => False) (fun A h => resA Tryz.prog A h K []) (aargs [s0] 0) h = t93 Tryz.prog s0 h K := by kernel_rfl
theorem c93 (s0 : Value) (h : Heap) (K : Value -> Heap -> Prop) (H : t93 Tryz.prog s0 h K) : callM Tryz.prog 93 #[s0] h K :=
  callM_of_wpA mixed (fn := Tryz.f93) Tryz.func93 (c := bodyOf Tryz.f93) rfl (of_decide_eq_true (by kernel_rfl)) (anOf []) 1 2 (by kernel_rfl) rfl [] (by kernel_rfl) (args := [s0]) (by rw [e93]; exact H)
def t94 (P : Program) (g0_1 : Value) (h : Heap) (K : Value -> Heap -> Prop) : Prop :=
 eop P (Instr.box 26 g0_1) h fun g1_1 h1 =>
 pop P (Instr.fieldAt 26 g1_1 0) fun s6 =>
 rop P (Instr.loadAt 24 s6) h1 fun s7 =>
 pop P (lenS 24 3 s7) fun s8 =>
 eop P (Instr.alloc 3 true (.tuple #[])) h1 fun n3_1 h2 =>
 uop P (Instr.storeAt 3 n3_1 s8) h2 fun q1 h3 =>
 rop P (Instr.loadAt 3 n3_1) h3 fun s9 =>
 callM P 72 #[s9, (.int .i64 1), (.int .i64 8)] h3 fun s10 h4 =>
 pop P (Op.unary .not s10) fun s11 =>
 condM s11
 (K (Value.bool false) h4)
 (pop P (Instr.fieldAt 26 g1_1 0) fun s12 =>
 rop P (Instr.loadAt 24 s12) h4 fun s13 =>
 pop P (lenS 24 3 s13) fun s14 =>
 ∃ (I1 : List Value -> Heap -> Prop) (μ_1 : List Value -> Heap -> Nat), I1 [(.int .i64 0)] h4 /\
 ∀ (junk1 : Nat -> Value) (s15 : Value) (h5 : Heap), I1 [s15] h5 ->
 pop P (binA .lss 3 s15 s14) fun s16 =>
 condM s16
 (pop P (Instr.indexAt 24 s13 s15) fun s17 =>
 rop P (Instr.loadAt 33 s17) h5 fun s18 =>
 pop P (lenS 33 3 s18) fun s20 =>
 pop P (binA .gtr 3 s20 (.int .i64 5)) fun s21 =>
 guardM (asG s21 false) false (fun k_1 => k_1 s18 h5) h5 fun s23 h6 =>
 guardM (asG s21 false) false (fun k_2 => pop P (Instr.makeFunc (Fn.func 134) #[] #[n3_1]) fun s24 =>
 k_2 s24 h6) h6 fun s24b h7 =>
 guardM (asG s21 false) false (fun k_3 => callM P 75 #[s23, s24b] h7 fun s25 h8 =>
 k_3 s25 h8) h7 fun s25b h9 =>
 pop P (pickS s21 (Value.bool true) s25b) fun s26 =>
 condM s26
 (K (Value.bool false) h9)
 (pop P (binA .add 3 s15 (.int .i64 1)) fun s27 =>
 I1 [s27] h9 /\ μ_1 [s27] h9 < μ_1 [s15] h5))
 (K (Value.bool true) h5))
theorem e94 (g0_1 : Value) (h : Heap) (K : Value -> Heap -> Prop) : wpA Tryz.prog 28 (anOf [(122, [15])]) (bodyOf Tryz.f94) 1 (fun A h => resA Tryz.prog A h K [.tmp 2]) (fun _ _ _ => False) (fun A h => resA Tryz.prog A h K [.tmp 2]) (aargs [g0_1] 0) h = t94 Tryz.prog g0_1 h K := by kernel_rfl
theorem c94 (g0_1 : Value) (h : Heap) (K : Value -> Heap -> Prop) (H : t94 Tryz.prog g0_1 h K) : callM Tryz.prog 94 #[g0_1] h K :=
  callM_of_wpA mixed (fn := Tryz.f94) Tryz.func94 (c := bodyOf Tryz.f94) rfl (of_decide_eq_true (by kernel_rfl)) (anOf [(122, [15])]) 27 28 (by kernel_rfl) rfl [.tmp 2] (by kernel_rfl) (args := [g0_1]) (by rw [e94]; exact H)
def t95 (P : Program) (g0_1 : Value) (h : Heap) (K : Value -> Heap -> Prop) : Prop :=
 eop P (Instr.box 26 g0_1) h fun g1_1 h1 =>
 pop P (Instr.fieldAt 26 g1_1 0) fun s4 =>
 rop P (Instr.loadAt 24 s4) h1 fun s5 =>
 pop P (lenS 24 3 s5) fun s6 =>
 ∃ (I1 : List Value -> Heap -> Prop) (μ_1 : List Value -> Heap -> Nat), I1 [(.int .i64 0)] h1 /\
 ∀ (junk1 : Nat -> Value) (s7 : Value) (h2 : Heap), I1 [s7] h2 ->
 pop P (binA .lss 3 s7 s6) fun s8 =>
 condM s8
 (rop P (Instr.loadAt 26 g1_1) h2 fun s10 =>
 pop P (Instr.fieldAt 26 g1_1 0) fun s14 =>
 rop P (Instr.loadAt 24 s14) h2 fun s15 =>
 pop P (lenS 24 3 s15) fun s16 =>
 callM P 135 #[s10, s7] h2 fun s12 h3 =>
 (∀ w : World, w.heap = h3 -> (Instr.loadAt 24 s14).run P w = .ok s15 w) /\
 pop P (lenS 33 3 s12) fun s13 =>
 pop P (binE .neq 3 (.tmp 13) (.tmp 16) s13 s16) fun s17 =>
 condM s17
 (K (Value.bool false) h3)
 (pop P (binA .add 3 s7 (.int .i64 1)) fun s18 =>
 I1 [s18] h3 /\ μ_1 [s18] h3 < μ_1 [s7] h2))
 (K (Value.bool true) h2)
theorem e95 (g0_1 : Value) (h : Heap) (K : Value -> Heap -> Prop) : wpA Tryz.prog 19 (anOf [(26, [7])]) (bodyOf Tryz.f95) 1 (fun A h => resA Tryz.prog A h K [.tmp 2]) (fun _ _ _ => False) (fun A h => resA Tryz.prog A h K [.tmp 2]) (aargs [g0_1] 0) h = t95 Tryz.prog g0_1 h K := by kernel_rfl
theorem c95 (g0_1 : Value) (h : Heap) (K : Value -> Heap -> Prop) (H : t95 Tryz.prog g0_1 h K) : callM Tryz.prog 95 #[g0_1] h K :=
  callM_of_wpA mixed (fn := Tryz.f95) Tryz.func95 (c := bodyOf Tryz.f95) rfl (of_decide_eq_true (by kernel_rfl)) (anOf [(26, [7])]) 18 19 (by kernel_rfl) rfl [.tmp 2] (by kernel_rfl) (args := [g0_1]) (by rw [e95]; exact H)
def t96 (P : Program) (g0_1 : Value) (h : Heap) (K : Value -> Heap -> Prop) : Prop :=
 eop P (Instr.box 26 g0_1) h fun g1_1 h1 =>
 pop P (Instr.fieldAt 26 g1_1 0) fun s5 =>
 rop P (Instr.loadAt 24 s5) h1 fun s6 =>
 pop P (lenS 24 3 s6) fun s7 =>
 ∃ (I1 : List Value -> Heap -> Prop) (μ_1 : List Value -> Heap -> Nat), I1 [(.int .i64 0)] h1 /\
 ∀ (junk1 : Nat -> Value) (s8 : Value) (h2 : Heap), I1 [s8] h2 ->
 pop P (binA .lss 3 s8 s7) fun s9 =>
 condM s9
 (pop P (Instr.indexAt 24 s6 s8) fun s11 =>
 rop P (Instr.loadAt 33 s11) h2 fun s12 =>
 pop P (lenS 33 3 s12) fun s14 =>
 rop P (Instr.loadAt 26 g1_1) h2 fun s15 =>
 callM P 136 #[s15, s8] h2 fun s17 h3 =>
 pop P (binE .neq 3 (.tmp 14) (.tmp 17) s14 s17) fun s18 =>
 condM s18
 (K (Value.bool false) h3)
 (pop P (binA .add 3 s8 (.int .i64 1)) fun s19 =>
 I1 [s19] h3 /\ μ_1 [s19] h3 < μ_1 [s8] h2))
 (K (Value.bool true) h2)
theorem e96 (g0_1 : Value) (h : Heap) (K : Value -> Heap -> Prop) : wpA Tryz.prog 20 (anOf [(26, [8])]) (bodyOf Tryz.f96) 1 (fun A h => resA Tryz.prog A h K [.tmp 2]) (fun _ _ _ => False) (fun A h => resA Tryz.prog A h K [.tmp 2]) (aargs [g0_1] 0) h = t96 Tryz.prog g0_1 h K := by kernel_rfl
theorem c96 (g0_1 : Value) (h : Heap) (K : Value -> Heap -> Prop) (H : t96 Tryz.prog g0_1 h K) : callM Tryz.prog 96 #[g0_1] h K :=
  callM_of_wpA mixed (fn := Tryz.f96) Tryz.func96 (c := bodyOf Tryz.f96) rfl (of_decide_eq_true (by kernel_rfl)) (anOf [(26, [8])]) 19 20 (by kernel_rfl) rfl [.tmp 2] (by kernel_rfl) (args := [g0_1]) (by rw [e96]; exact H)
def t97 (P : Program) (slices0_1 : Value) (h : Heap) (K : Value -> Heap -> Prop) : Prop :=
 pop P (lenS 24 3 slices0_1) fun s10 =>
 ∃ (I1 : List Value -> Heap -> Prop) (μ_1 : List Value -> Heap -> Nat), I1 [(.int .i64 0), (.int .i64 0)] h /\
 ∀ (junk1 : Nat -> Value) (size3_1 : Value) (s11 : Value) (h1 : Heap), I1 [size3_1, s11] h1 ->
 pop P (binA .lss 3 s11 s10) fun s12 =>
 condM s12
 (pop P (Instr.indexAt 24 slices0_1 s11) fun s13 =>
 rop P (Instr.loadAt 33 s13) h1 fun s14 =>
 pop P (lenS 33 3 s14) fun s17 =>
 pop P (binA .add 3 size3_1 s17) fun s18 =>
 pop P (binA .lss 3 s18 (.int .i64 0)) fun s20 =>
 condM s20
 (pop P (Instr.makeInterface 9 (Value.string { data := #[108, 101, 110, 32, 111, 117, 116, 32, 111, 102, 32, 114, 97, 110, 103, 101] })) fun s21 =>
 False)
 (pop P (binA .add 3 s11 (.int .i64 1)) fun s22 =>
 I1 [s18, s22] h1 /\ μ_1 [s18, s22] h1 < μ_1 [size3_1, s11] h1))
 (callM P 137 #[(Value.slice none 0 0), size3_1] h1 fun s24 h2 =>
 pop P (lenS 24 3 slices0_1) fun s26 =>
 ∃ (I2 : List Value -> Heap -> Prop) (μ_2 : List Value -> Heap -> Nat), I2 [s24, (.int .i64 0)] h2 /\
 ∀ (junk2 : Nat -> Value) (newslice6_1 : Value) (s27 : Value) (h3 : Heap), I2 [newslice6_1, s27] h3 ->
 pop P (binA .lss 3 s27 s26) fun s28 =>
 condM s28
 (pop P (Instr.indexAt 24 slices0_1 s27) fun s29 =>
 rop P (Instr.loadAt 33 s29) h3 fun s30 =>
 eop P (appS 33 33 33 newslice6_1 s30) h3 fun s33 h4 =>
 pop P (binA .add 3 s27 (.int .i64 1)) fun s34 =>
 I2 [s33, s34] h4 /\ μ_2 [s33, s34] h4 < μ_2 [newslice6_1, s27] h3)
 (K newslice6_1 h3))
theorem e97 (slices0_1 : Value) (h : Heap) (K : Value -> Heap -> Prop) : wpA Tryz.prog 36 (anOf [(58, [3, 11]), (250, [6, 27])]) (bodyOf Tryz.f97) 1 (fun A h => resA Tryz.prog A h K [.tmp 2]) (fun _ _ _ => False) (fun A h => resA Tryz.prog A h K [.tmp 2]) (aargs [slices0_1] 0) h = t97 Tryz.prog slices0_1 h K := by kernel_rfl
theorem c97 (slices0_1 : Value) (h : Heap) (K : Value -> Heap -> Prop) (H : t97 Tryz.prog slices0_1 h K) : callM Tryz.prog 97 #[slices0_1] h K :=
  callM_of_wpA mixed (fn := Tryz.f97) Tryz.func97 (c := bodyOf Tryz.f97) rfl (of_decide_eq_true (by kernel_rfl)) (anOf [(58, [3, 11]), (250, [6, 27])]) 35 36 (by kernel_rfl) rfl [.tmp 2] (by kernel_rfl) (args := [slices0_1]) (by rw [e97]; exact H)
def t98 (P : Program) (g0_1 : Value) (w1_1 : Value) (h : Heap) (K : Value -> Heap -> Prop) : Prop :=
 eop P (Instr.box 26 g0_1) h fun g2_1 h1 =>
 eop P (Instr.box 54 w1_1) h1 fun w3_1 h2 =>
 pop P (Instr.fieldAt 26 g2_1 0) fun s8 =>
 rop P (Instr.loadAt 24 s8) h2 fun s9 =>
 pop P (lenS 24 3 s9) fun s10 =>
 ∃ (I1 : List Value -> Heap -> Prop) (μ_1 : List Value -> Heap -> Nat), I1 [(.int .i64 0)] h2 /\
 ∀ (junk1 : Nat -> Value) (s11 : Value) (h3 : Heap), I1 [s11] h3 ->
 pop P (binA .lss 3 s11 s10) fun s12 =>
 condM s12
 (rop P (Instr.loadAt 26 g2_1) h3 fun s15 =>
 pop P (Instr.fieldAt 54 w3_1 0) fun s16 =>
 rop P (Instr.loadAt 33 s16) h3 fun s17 =>
 callM P 138 #[s15, s17, s11] h3 fun s19 h4 =>
 pop P (Instr.extract s19 0) fun s20 =>
 pop P (Instr.extract s19 1) fun s21 =>
 pop P (Op.unary .not s21) fun s23 =>
 guardM (asG s23 false) false (fun k_1 => k_1 s20 h4) h4 fun s25 h5 =>
 guardM (asG s23 false) false (fun k_2 => pop P (Instr.fieldAt 54 w3_1 1) fun s26 =>
 k_2 s26 h5) h5 fun s26b h6 =>
 guardM (asG s23 false) false (fun k_3 => rop P (Instr.loadAt 3 s26b) h6 fun s27 =>
 k_3 s27 h6) h6 fun s27b h7 =>
 guardM (asG s23 false) false (fun k_4 => callM P 139 #[s25, s27b] h7 fun s28 h8 =>
 k_4 s28 h8) h7 fun s28b h9 =>
 guardM (asG s23 false) false (fun k_5 => pop P (Op.unary .not s28b) fun s29 =>
 k_5 s29 h9) h9 fun s29b h10 =>
 pop P (pickS s23 (Value.bool true) s29b) fun s30 =>
 condM s30
 (K (Value.bool false) h10)
 (pop P (binA .add 3 s11 (.int .i64 1)) fun s31 =>
 I1 [s31] h10 /\ μ_1 [s31] h10 < μ_1 [s11] h3))
 (K (Value.bool true) h3)
theorem e98 (g0_1 : Value) (w1_1 : Value) (h : Heap) (K : Value -> Heap -> Prop) : wpA Tryz.prog 32 (anOf [(26, [11])]) (bodyOf Tryz.f98) 1 (fun A h => resA Tryz.prog A h K [.tmp 4]) (fun _ _ _ => False) (fun A h => resA Tryz.prog A h K [.tmp 4]) (aargs [g0_1, w1_1] 0) h = t98 Tryz.prog g0_1 w1_1 h K := by kernel_rfl
theorem c98 (g0_1 : Value) (w1_1 : Value) (h : Heap) (K : Value -> Heap -> Prop) (H : t98 Tryz.prog g0_1 w1_1 h K) : callM Tryz.prog 98 #[g0_1, w1_1] h K :=
  callM_of_wpA mixed (fn := Tryz.f98) Tryz.func98 (c := bodyOf Tryz.f98) rfl (of_decide_eq_true (by kernel_rfl)) (anOf [(26, [11])]) 30 32 (by kernel_rfl) rfl [.tmp 4] (by kernel_rfl) (args := [g0_1, w1_1]) (by rw [e98]; exact H)
def t99 (P : Program) (s0 : Value) (h : Heap) (K : Value -> Heap -> Prop) : Prop :=
 K (.tuple #[]) h
theorem e99 (s0 : Value) (h : Heap) (K : Value -> Heap -> Prop) : wpA Tryz.prog 2 (anOf []) (bodyOf Tryz.f99) 1 (fun A h => resA Tryz.prog A h K []) (fun _ _ _ => False) (fun A h => resA Tryz.prog A h K []) (aargs [s0] 0) h = t99 Tryz.prog s0 h K := by kernel_rfl
theorem c99 (s0 : Value) (h : Heap) (K : Value -> Heap -> Prop) (H : t99 Tryz.prog s0 h K) : callM Tryz.prog 99 #[s0] h K :=
  callM_of_wpA mixed (fn := Tryz.f99) Tryz.func99 (c := bodyOf Tryz.f99) rfl (of_decide_eq_true (by kernel_rfl)) (anOf []) 1 2 (by kernel_rfl) rfl [] (by kernel_rfl) (args := [s0]) (by rw [e99]; exact H)
def t100 (P : Program) (g0_1 : Value) (w1_1 : Value) (h : Heap) (K : Value -> Heap -> Prop) : Prop :=
 eop P (Instr.box 26 g0_1) h fun g2_1 h1 =>
 pop P (Instr.fieldAt 26 g2_1 0) fun s6 =>
 rop P (Instr.loadAt 24 s6) h1 fun s7 =>
 pop P (nilS w1_1) fun s9 =>
 pop P (Instr.fieldAt 54 s9 1) fun s10 =>
 rop P (Instr.loadAt 3 s10) h1 fun s11 =>
 pop P (Instr.indexAt 24 s7 s11) fun s12 =>
 rop P (Instr.loadAt 33 s12) h1 fun s13 =>
 pop P (lenS 33 3 s13) fun s15 =>
 pop P (binE .eql 3 (.tmp 15) (.const (.int .i64 0)) s15 (.int .i64 0)) fun s16 =>
 condM s16
 (K (Value.bool false) h1)
 (pop P (nilS w1_1) fun s18 =>
 pop P (Instr.fieldAt 54 s18 0) fun s19 =>
 rop P (Instr.loadAt 33 s19) h1 fun s20 =>
 pop P (nilS w1_1) fun s22 =>
 pop P (Instr.fieldAt 54 s22 1) fun s23 =>
 rop P (Instr.loadAt 3 s23) h1 fun s24 =>
 pop P (nilS w1_1) fun s26 =>
 pop P (Instr.fieldAt 54 s26 0) fun s27 =>
 rop P (Instr.loadAt 33 s27) h1 fun s28 =>
 pop P (nilS w1_1) fun s30 =>
 pop P (Instr.fieldAt 54 s30 1) fun s31 =>
 rop P (Instr.loadAt 3 s31) h1 fun s32 =>
 pop P (Instr.indexAt 33 s28 s32) fun s33 =>
 rop P (Instr.loadAt 3 s33) h1 fun s34 =>
 pop P (binA .add 3 s34 (.int .i64 1)) fun s35 =>
 pop P (lenS 33 3 s13) fun s37 =>
 pop P (binA .rem 3 s35 s37) fun s38 =>
 pop P (Instr.indexAt 33 s20 s24) fun s39 =>
 uop P (Instr.storeAt 3 s39 s38) h1 fun q1 h2 =>
 pop P (nilS w1_1) fun s43 =>
 pop P (Instr.fieldAt 54 s43 0) fun s44 =>
 rop P (Instr.loadAt 33 s44) h2 fun s45 =>
 pop P (nilS w1_1) fun s47 =>
 pop P (Instr.fieldAt 54 s47 1) fun s48 =>
 rop P (Instr.loadAt 3 s48) h2 fun s49 =>
 pop P (Instr.indexAt 33 s45 s49) fun s50 =>
 rop P (Instr.loadAt 3 s50) h2 fun s51 =>
 pop P (Instr.indexAt 33 s13 s51) fun s52 =>
 rop P (Instr.loadAt 3 s52) h2 fun s53 =>
 pop P (nilS w1_1) fun s54 =>
 pop P (Instr.fieldAt 54 s54 1) fun s55 =>
 uop P (Instr.storeAt 3 s55 s53) h2 fun q2 h3 =>
 K (Value.bool true) h3)
theorem e100 (g0_1 : Value) (w1_1 : Value) (h : Heap) (K : Value -> Heap -> Prop) : wpA Tryz.prog 56 (anOf []) (bodyOf Tryz.f100) 1 (fun A h => resA Tryz.prog A h K [.tmp 4]) (fun _ _ _ => False) (fun A h => resA Tryz.prog A h K [.tmp 4]) (aargs [g0_1, w1_1] 0) h = t100 Tryz.prog g0_1 w1_1 h K := by kernel_rfl
theorem c100 (g0_1 : Value) (w1_1 : Value) (h : Heap) (K : Value -> Heap -> Prop) (H : t100 Tryz.prog g0_1 w1_1 h K) : callM Tryz.prog 100 #[g0_1, w1_1] h K :=
  callM_of_wpA mixed (fn := Tryz.f100) Tryz.func100 (c := bodyOf Tryz.f100) rfl (of_decide_eq_true (by kernel_rfl)) (anOf []) 54 56 (by kernel_rfl) rfl [.tmp 4] (by kernel_rfl) (args := [g0_1, w1_1]) (by rw [e100]; exact H)
def t101 (P : Program) (s0 : Value) (s1 : Value) (s2 : Value) (h : Heap) (K : Value -> Heap -> Prop) : Prop :=
 rop P (Instr.loadAt 33 s1) h fun s4 =>
 pop P (Instr.fieldAt 54 s2 1) fun s5 =>
 rop P (Instr.loadAt 3 s5) h fun s6 =>
 eop P (Instr.buildSlice 33 1 #[(0, s6)]) h fun s7 h1 =>
 eop P (appS 33 33 33 s4 s7) h1 fun s8 h2 =>
 uop P (Instr.storeAt 33 s1 s8) h2 fun q1 h3 =>
 K (.tuple #[]) h3
theorem e101 (s0 : Value) (s1 : Value) (s2 : Value) (h : Heap) (K : Value -> Heap -> Prop) : wpA Tryz.prog 9 (anOf []) (bodyOf Tryz.f101) 1 (fun A h => resA Tryz.prog A h K []) (fun _ _ _ => False) (fun A h => resA Tryz.prog A h K []) (aargs [s0, s1, s2] 0) h = t101 Tryz.prog s0 s1 s2 h K := by kernel_rfl
theorem c101 (s0 : Value) (s1 : Value) (s2 : Value) (h : Heap) (K : Value -> Heap -> Prop) (H : t101 Tryz.prog s0 s1 s2 h K) : callM Tryz.prog 101 #[s0, s1, s2] h K :=
  callM_of_wpA mixed (fn := Tryz.f101) Tryz.func101 (c := bodyOf Tryz.f101) rfl (of_decide_eq_true (by kernel_rfl)) (anOf []) 6 9 (by kernel_rfl) rfl [] (by kernel_rfl) (args := [s0, s1, s2]) (by rw [e101]; exact H)
def t102 (P : Program) (g0_1 : Value) (h : Heap) (K : Value -> Heap -> Prop) : Prop :=
 eop P (Instr.box 26 g0_1) h fun g1_1 h1 =>
 pop P (Instr.fieldAt 26 g1_1 0) fun s4 =>
 rop P (Instr.loadAt 24 s4) h1 fun s5 =>
 pop P (lenS 24 3 s5) fun s6 =>
 ∃ (I1 : List Value -> Heap -> Prop) (μ_1 : List Value -> Heap -> Nat), I1 [(.int .i64 0)] h1 /\
 ∀ (junk1 : Nat -> Value) (s7 : Value) (h2 : Heap), I1 [s7] h2 ->
 pop P (binA .lss 3 s7 s6) fun s8 =>
 condM s8
 (rop P (Instr.loadAt 26 g1_1) h2 fun s10 =>
 pop P (Instr.fieldAt 26 g1_1 0) fun s14 =>
 rop P (Instr.loadAt 24 s14) h2 fun s15 =>
 pop P (lenS 24 3 s15) fun s16 =>
 callM P 140 #[s10, s7] h2 fun s12 h3 =>
 (∀ w : World, w.heap = h3 -> (Instr.loadAt 24 s14).run P w = .ok s15 w) /\
 pop P (lenS 33 3 s12) fun s13 =>
 pop P (binE .neq 3 (.tmp 13) (.tmp 16) s13 s16) fun s17 =>
 condM s17
 (K (Value.bool false) h3)
 (pop P (binA .add 3 s7 (.int .i64 1)) fun s18 =>
 I1 [s18] h3 /\ μ_1 [s18] h3 < μ_1 [s7] h2))
 (K (Value.bool true) h2)
theorem e102 (g0_1 : Value) (h : Heap) (K : Value -> Heap -> Prop) : wpA Tryz.prog 19 (anOf [(26, [7])]) (bodyOf Tryz.f102) 1 (fun A h => resA Tryz.prog A h K [.tmp 2]) (fun _ _ _ => False) (fun A h => resA Tryz.prog A h K [.tmp 2]) (aargs [g0_1] 0) h = t102 Tryz.prog g0_1 h K := by kernel_rfl
theorem c102 (g0_1 : Value) (h : Heap) (K : Value -> Heap -> Prop) (H : t102 Tryz.prog g0_1 h K) : callM Tryz.prog 102 #[g0_1] h K :=
  callM_of_wpA mixed (fn := Tryz.f102) Tryz.func102 (c := bodyOf Tryz.f102) rfl (of_decide_eq_true (by kernel_rfl)) (anOf [(26, [7])]) 18 19 (by kernel_rfl) rfl [.tmp 2] (by kernel_rfl) (args := [g0_1]) (by rw [e102]; exact H)
def t103 (P : Program) (g0_1 : Value) (h : Heap) (K : Value -> Heap -> Prop) : Prop :=
 eop P (Instr.box 26 g0_1) h fun g1_1 h1 =>
 pop P (Instr.fieldAt 26 g1_1 0) fun s5 =>
 rop P (Instr.loadAt 24 s5) h1 fun s6 =>
 pop P (lenS 24 3 s6) fun s7 =>
 ∃ (I1 : List Value -> Heap -> Prop) (μ_1 : List Value -> Heap -> Nat), I1 [(.int .i64 0)] h1 /\
 ∀ (junk1 : Nat -> Value) (s8 : Value) (h2 : Heap), I1 [s8] h2 ->
 pop P (binA .lss 3 s8 s7) fun s9 =>
 condM s9
 (pop P (Instr.indexAt 24 s6 s8) fun s11 =>
 rop P (Instr.loadAt 33 s11) h2 fun s12 =>
 pop P (lenS 33 3 s12) fun s14 =>
 rop P (Instr.loadAt 26 g1_1) h2 fun s15 =>
 callM P 141 #[s15, s8] h2 fun s17 h3 =>
 pop P (binE .neq 3 (.tmp 14) (.tmp 17) s14 s17) fun s18 =>
 condM s18
 (K (Value.bool false) h3)
 (pop P (binA .add 3 s8 (.int .i64 1)) fun s19 =>
 I1 [s19] h3 /\ μ_1 [s19] h3 < μ_1 [s8] h2))
 (K (Value.bool true) h2)
theorem e103 (g0_1 : Value) (h : Heap) (K : Value -> Heap -> Prop) : wpA Tryz.prog 20 (anOf [(26, [8])]) (bodyOf Tryz.f103) 1 (fun A h => resA Tryz.prog A h K [.tmp 2]) (fun _ _ _ => False) (fun A h => resA Tryz.prog A h K [.tmp 2]) (aargs [g0_1] 0) h = t103 Tryz.prog g0_1 h K := by kernel_rfl
theorem c103 (g0_1 : Value) (h : Heap) (K : Value -> Heap -> Prop) (H : t103 Tryz.prog g0_1 h K) : callM Tryz.prog 103 #[g0_1] h K :=
  callM_of_wpA mixed (fn := Tryz.f103) Tryz.func103 (c := bodyOf Tryz.f103) rfl (of_decide_eq_true (by kernel_rfl)) (anOf [(26, [8])]) 19 20 (by kernel_rfl) rfl [.tmp 2] (by kernel_rfl) (args := [g0_1]) (by rw [e103]; exact H)
def t104 (P : Program) (g0_1 : Value) (h : Heap) (K : Value -> Heap -> Prop) : Prop :=
 eop P (Instr.box 26 g0_1) h fun g1_1 h1 =>
 pop P (Instr.fieldAt 26 g1_1 0) fun s6 =>
 rop P (Instr.loadAt 24 s6) h1 fun s7 =>
 pop P (lenS 24 3 s7) fun s8 =>
 ∃ (I1 : List Value -> Heap -> Prop) (μ_1 : List Value -> Heap -> Nat), I1 [(.int .i64 0), (.int .i64 0)] h1 /\
 ∀ (junk1 : Nat -> Value) (n3_1 : Value) (s9 : Value) (h2 : Heap), I1 [n3_1, s9] h2 ->
 pop P (binA .lss 3 s9 s8) fun s10 =>
 condM s10
 (pop P (Instr.indexAt 24 s7 s9) fun s11 =>
 rop P (Instr.loadAt 33 s11) h2 fun s12 =>
 pop P (lenS 33 3 s12) fun s15 =>
 pop P (binA .add 3 n3_1 s15) fun s16 =>
 pop P (binA .add 3 s9 (.int .i64 1)) fun s17 =>
 I1 [s16, s17] h2 /\ μ_1 [s16, s17] h2 < μ_1 [n3_1, s9] h2)
 (K n3_1 h2)
theorem e104 (g0_1 : Value) (h : Heap) (K : Value -> Heap -> Prop) : wpA Tryz.prog 19 (anOf [(58, [3, 9])]) (bodyOf Tryz.f104) 1 (fun A h => resA Tryz.prog A h K [.tmp 2]) (fun _ _ _ => False) (fun A h => resA Tryz.prog A h K [.tmp 2]) (aargs [g0_1] 0) h = t104 Tryz.prog g0_1 h K := by kernel_rfl
theorem c104 (g0_1 : Value) (h : Heap) (K : Value -> Heap -> Prop) (H : t104 Tryz.prog g0_1 h K) : callM Tryz.prog 104 #[g0_1] h K :=
  callM_of_wpA mixed (fn := Tryz.f104) Tryz.func104 (c := bodyOf Tryz.f104) rfl (of_decide_eq_true (by kernel_rfl)) (anOf [(58, [3, 9])]) 18 19 (by kernel_rfl) rfl [.tmp 2] (by kernel_rfl) (args := [g0_1]) (by rw [e104]; exact H)
def t105 (P : Program) (g0_1 : Value) (w1_1 : Value) (h : Heap) (K : Value -> Heap -> Prop) : Prop :=
 eop P (Instr.box 26 g0_1) h fun g2_1 h1 =>
 eop P (Instr.box 54 w1_1) h1 fun w3_1 h2 =>
 eop P (Instr.alloc 54 true (.tuple #[])) h2 fun s4 h3 =>
 pop P (Instr.fieldAt 26 g2_1 0) fun s9 =>
 rop P (Instr.loadAt 24 s9) h3 fun s10 =>
 pop P (Instr.fieldAt 54 w3_1 1) fun s11 =>
 rop P (Instr.loadAt 3 s11) h3 fun s12 =>
 pop P (Instr.indexAt 24 s10 s12) fun s13 =>
 rop P (Instr.loadAt 33 s13) h3 fun s14 =>
 pop P (lenS 33 3 s14) fun s16 =>
 pop P (binE .eql 3 (.tmp 16) (.const (.int .i64 0)) s16 (.int .i64 0)) fun s17 =>
 condM s17
 (rop P (Instr.loadAt 54 w3_1) h3 fun s18 =>
 uop P (Instr.storeAt 54 s4 s18) h3 fun q1 h4 =>
 rop P (Instr.loadAt 54 s4) h4 fun r_1 =>
 K (.tuple #[r_1, (Value.bool false)]) h4)
 (pop P (Instr.fieldAt 54 w3_1 0) fun s19 =>
 rop P (Instr.loadAt 33 s19) h3 fun s20 =>
 callM P 119 #[s20] h3 fun s21 h5 =>
 pop P (Instr.build 54 #[(0, s21)]) fun s22 =>
 eop P (Instr.alloc 54 true (.tuple #[])) h5 fun out7_1 h6 =>
 uop P (Instr.storeAt 54 out7_1 s22) h6 fun q2 h7 =>
 pop P (Instr.fieldAt 54 w3_1 0) fun s23 =>
 rop P (Instr.loadAt 33 s23) h7 fun s24 =>
 pop P (Instr.fieldAt 54 w3_1 1) fun s25 =>
 rop P (Instr.loadAt 3 s25) h7 fun s26 =>
 pop P (Instr.indexAt 33 s24 s26) fun s27 =>
 rop P (Instr.loadAt 3 s27) h7 fun s28 =>
 pop P (binA .add 3 s28 (.int .i64 1)) fun s29 =>
 pop P (lenS 33 3 s14) fun s31 =>
 pop P (binA .rem 3 s29 s31) fun s32 =>
 pop P (Instr.fieldAt 54 out7_1 0) fun s33 =>
 rop P (Instr.loadAt 33 s33) h7 fun s34 =>
 pop P (Instr.fieldAt 54 w3_1 1) fun s35 =>
 rop P (Instr.loadAt 3 s35) h7 fun s36 =>
 pop P (Instr.indexAt 33 s34 s36) fun s38 =>
 uop P (Instr.storeAt 3 s38 s32) h7 fun q3 h8 =>
 pop P (Instr.indexAt 33 s14 s32) fun s41 =>
 rop P (Instr.loadAt 3 s41) h8 fun s42 =>
 pop P (Instr.fieldAt 54 out7_1 1) fun s43 =>
 uop P (Instr.storeAt 3 s43 s42) h8 fun q4 h9 =>
 rop P (Instr.loadAt 54 out7_1) h9 fun s44 =>
 uop P (Instr.storeAt 54 s4 s44) h9 fun q5 h10 =>
 rop P (Instr.loadAt 54 s4) h10 fun r_2 =>
 K (.tuple #[r_2, (Value.bool true)]) h10)
theorem e105 (g0_1 : Value) (w1_1 : Value) (h : Heap) (K : Value -> Heap -> Prop) : wpA Tryz.prog 45 (anOf []) (bodyOf Tryz.f105) 1 (fun A h => resA Tryz.prog A h K [.cell 4 54, .tmp 5]) (fun _ _ _ => False) (fun A h => resA Tryz.prog A h K [.cell 4 54, .tmp 5]) (aargs [g0_1, w1_1] 0) h = t105 Tryz.prog g0_1 w1_1 h K := by kernel_rfl
theorem c105 (g0_1 : Value) (w1_1 : Value) (h : Heap) (K : Value -> Heap -> Prop) (H : t105 Tryz.prog g0_1 w1_1 h K) : callM Tryz.prog 105 #[g0_1, w1_1] h K :=
  callM_of_wpA mixed (fn := Tryz.f105) Tryz.func105 (c := bodyOf Tryz.f105) rfl (of_decide_eq_true (by kernel_rfl)) (anOf []) 43 45 (by kernel_rfl) rfl [.cell 4 54, .tmp 5] (by kernel_rfl) (args := [g0_1, w1_1]) (by rw [e105]; exact H)
def t106 (P : Program) (g0_1 : Value) (w1_1 : Value) (n2_1 : Value) (h : Heap) (K : Value -> Heap -> Prop) : Prop :=
 eop P (Instr.box 26 g0_1) h fun g3_1 h1 =>
 eop P (Instr.box 54 w1_1) h1 fun w4_1 h2 =>
 eop P (Instr.alloc 124 true (.tuple #[])) h2 fun s6 h3 =>
 ∃ J1 : List Value -> Heap -> Prop, (rop P (Instr.loadAt 54 w4_1) h3 fun s14 =>
 pop P (Instr.fieldAt 54 w4_1 1) fun s15 =>
 rop P (Instr.loadAt 3 s15) h3 fun s16 =>
 pop P (Instr.fieldAt 26 g3_1 0) fun s18 =>
 rop P (Instr.loadAt 24 s18) h3 fun s19 =>
 pop P (lenS 24 3 s19) fun s20 =>
 (eop P (Instr.buildSlice 33 1 #[(0, s16)]) h3 fun s17 h4 =>
 (∀ w : World, w.heap = h4 -> (Instr.loadAt 24 s18).run P w = .ok s19 w) /\
 (∀ w : World, w.heap = h4 -> (Instr.loadAt 54 w4_1).run P w = .ok s14 w) /\
 (eop P (Instr.makeSlice 33 s20 s20) h4 fun s21 h5 =>
 (∀ w : World, w.heap = h5 -> (Instr.loadAt 24 s18).run P w = .ok s19 w) /\
 (∀ w : World, w.heap = h5 -> (Instr.loadAt 54 w4_1).run P w = .ok s14 w) /\
 pop P (Instr.build 124 #[(0, s14), (1, s17), (2, s21)]) fun s22 =>
 eop P (Instr.alloc 124 true (.tuple #[])) h5 fun r8_1 h6 =>
 (∀ w : World, w.heap = h6 -> (Instr.loadAt 24 s18).run P w = .ok s19 w) /\
 (∀ w : World, w.heap = h6 -> (Instr.loadAt 54 w4_1).run P w = .ok s14 w) /\
 uop P (Instr.storeAt 124 r8_1 s22) h6 fun q1 h7 =>
 J1 [r8_1] h7) /\
 (eop P (Instr.alloc 124 true (.tuple #[])) h4 fun r8_2 h8 =>
 (∀ w : World, w.heap = h8 -> (Instr.loadAt 24 s18).run P w = .ok s19 w) /\
 (∀ w : World, w.heap = h8 -> (Instr.loadAt 54 w4_1).run P w = .ok s14 w) /\
 eop P (Instr.makeSlice 33 s20 s20) h8 fun s21b h9 =>
 (∀ w : World, w.heap = h9 -> (Instr.loadAt 24 s18).run P w = .ok s19 w) /\
 (∀ w : World, w.heap = h9 -> (Instr.loadAt 54 w4_1).run P w = .ok s14 w) /\
 pop P (Instr.build 124 #[(0, s14), (1, s17), (2, s21b)]) fun s22b =>
 uop P (Instr.storeAt 124 r8_2 s22b) h9 fun q2 h10 =>
 J1 [r8_2] h10)) /\
 (eop P (Instr.makeSlice 33 s20 s20) h3 fun s21c h11 =>
 (∀ w : World, w.heap = h11 -> (Instr.loadAt 24 s18).run P w = .ok s19 w) /\
 (∀ w : World, w.heap = h11 -> (Instr.loadAt 3 s15).run P w = .ok s16 w) /\
 (∀ w : World, w.heap = h11 -> (Instr.loadAt 54 w4_1).run P w = .ok s14 w) /\
 (eop P (Instr.buildSlice 33 1 #[(0, s16)]) h11 fun s17b h12 =>
 (∀ w : World, w.heap = h12 -> (Instr.loadAt 24 s18).run P w = .ok s19 w) /\
 (∀ w : World, w.heap = h12 -> (Instr.loadAt 54 w4_1).run P w = .ok s14 w) /\
 pop P (Instr.build 124 #[(0, s14), (1, s17b), (2, s21c)]) fun s22c =>
 eop P (Instr.alloc 124 true (.tuple #[])) h12 fun r8_3 h13 =>
 (∀ w : World, w.heap = h13 -> (Instr.loadAt 24 s18).run P w = .ok s19 w) /\
 (∀ w : World, w.heap = h13 -> (Instr.loadAt 54 w4_1).run P w = .ok s14 w) /\
 uop P (Instr.storeAt 124 r8_3 s22c) h13 fun q3 h14 =>
 J1 [r8_3] h14) /\
 (eop P (Instr.alloc 124 true (.tuple #[])) h11 fun r8_4 h15 =>
 (∀ w : World, w.heap = h15 -> (Instr.loadAt 24 s18).run P w = .ok s19 w) /\
 (∀ w : World, w.heap = h15 -> (Instr.loadAt 3 s15).run P w = .ok s16 w) /\
 (∀ w : World, w.heap = h15 -> (Instr.loadAt 54 w4_1).run P w = .ok s14 w) /\
 eop P (Instr.buildSlice 33 1 #[(0, s16)]) h15 fun s17c h16 =>
 (∀ w : World, w.heap = h16 -> (Instr.loadAt 24 s18).run P w = .ok s19 w) /\
 (∀ w : World, w.heap = h16 -> (Instr.loadAt 54 w4_1).run P w = .ok s14 w) /\
 pop P (Instr.build 124 #[(0, s14), (1, s17c), (2, s21c)]) fun s22d =>
 uop P (Instr.storeAt 124 r8_4 s22d) h16 fun q4 h17 =>
 J1 [r8_4] h17)) /\
 (eop P (Instr.alloc 124 true (.tuple #[])) h3 fun r8_5 h18 =>
 (∀ w : World, w.heap = h18 -> (Instr.loadAt 24 s18).run P w = .ok s19 w) /\
 (∀ w : World, w.heap = h18 -> (Instr.loadAt 3 s15).run P w = .ok s16 w) /\
 (∀ w : World, w.heap = h18 -> (Instr.loadAt 54 w4_1).run P w = .ok s14 w) /\
 (eop P (Instr.buildSlice 33 1 #[(0, s16)]) h18 fun s17d h19 =>
 (∀ w : World, w.heap = h19 -> (Instr.loadAt 24 s18).run P w = .ok s19 w) /\
 (∀ w : World, w.heap = h19 -> (Instr.loadAt 54 w4_1).run P w = .ok s14 w) /\
 eop P (Instr.makeSlice 33 s20 s20) h19 fun s21d h20 =>
 (∀ w : World, w.heap = h20 -> (Instr.loadAt 24 s18).run P w = .ok s19 w) /\
 (∀ w : World, w.heap = h20 -> (Instr.loadAt 54 w4_1).run P w = .ok s14 w) /\
 pop P (Instr.build 124 #[(0, s14), (1, s17d), (2, s21d)]) fun s22e =>
 uop P (Instr.storeAt 124 r8_5 s22e) h20 fun q5 h21 =>
 J1 [r8_5] h21) /\
 (eop P (Instr.makeSlice 33 s20 s20) h18 fun s21e h22 =>
 (∀ w : World, w.heap = h22 -> (Instr.loadAt 24 s18).run P w = .ok s19 w) /\
 (∀ w : World, w.heap = h22 -> (Instr.loadAt 3 s15).run P w = .ok s16 w) /\
 (∀ w : World, w.heap = h22 -> (Instr.loadAt 54 w4_1).run P w = .ok s14 w) /\
 eop P (Instr.buildSlice 33 1 #[(0, s16)]) h22 fun s17e h23 =>
 (∀ w : World, w.heap = h23 -> (Instr.loadAt 24 s18).run P w = .ok s19 w) /\
 (∀ w : World, w.heap = h23 -> (Instr.loadAt 54 w4_1).run P w = .ok s14 w) /\
 pop P (Instr.build 124 #[(0, s14), (1, s17e), (2, s21e)]) fun s22f =>
 uop P (Instr.storeAt 124 r8_5 s22f) h23 fun q6 h24 =>
 J1 [r8_5] h24))) /\
 ∀ (junk1 : Nat -> Value) (r8_6 : Value) (h25 : Heap), J1 [r8_6] h25 ->
 pop P (Instr.fieldAt 26 g3_1 0) fun s23 =>
 rop P (Instr.loadAt 24 s23) h25 fun s24 =>
 pop P (lenS 24 3 s24) fun s25 =>
 ∃ (I1 : List Value -> Heap -> Prop) (μ_1 : List Value -> Heap -> Nat), I1 [(.int .i64 0)] h25 /\
 ∀ (junk2 : Nat -> Value) (s26 : Value) (h26 : Heap), I1 [s26] h26 ->
 pop P (binA .lss 3 s26 s25) fun s27 =>
 condM s27
 (pop P (Instr.indexAt 24 s24 s26) fun s28 =>
 rop P (Instr.loadAt 33 s28) h26 fun s29 =>
 pop P (Instr.fieldAt 124 r8_6 3) fun s30 =>
 rop P (Instr.loadAt 24 s30) h26 fun s31 =>
 pop P (lenS 33 3 s29) fun s33 =>
 eop P (Instr.makeSlice 33 s33 s33) h26 fun s34 h27 =>
 (∀ w : World, w.heap = h27 -> (Instr.loadAt 24 s30).run P w = .ok s31 w) /\
 eop P (Instr.buildSlice 24 1 #[(0, s34)]) h27 fun s35 h28 =>
 (∀ w : World, w.heap = h28 -> (Instr.loadAt 24 s30).run P w = .ok s31 w) /\
 eop P (appS 24 24 24 s31 s35) h28 fun s36 h29 =>
 pop P (Instr.fieldAt 124 r8_6 3) fun s37 =>
 uop P (Instr.storeAt 24 s37 s36) h29 fun q7 h30 =>
 pop P (binA .add 3 s26 (.int .i64 1)) fun s38 =>
 I1 [s38] h30 /\ μ_1 [s38] h30 < μ_1 [s26] h26)
 (∃ (I2 : List Value -> Heap -> Prop) (μ_2 : List Value -> Heap -> Nat), I2 [n2_1] h26 /\
 ∀ (junk3 : Nat -> Value) (n2_2 : Value) (h31 : Heap), I2 [n2_2] h31 ->
 pop P (binA .gtr 3 n2_2 (.int .i64 0)) fun s40 =>
 condM s40
 (rop P (Instr.loadAt 26 g3_1) h31 fun s44 =>
 pop P (Instr.fieldAt 124 r8_6 0) fun s45 =>
 rop P (Instr.loadAt 54 s45) h31 fun s46 =>
 callM P 105 #[s44, s46] h31 fun s47 h32 =>
 pop P (Instr.extract s47 0) fun s48 =>
 pop P (Instr.extract s47 1) fun s49 =>
 eop P (Instr.alloc 54 true (.tuple #[])) h32 fun next11_1 h33 =>
 uop P (Instr.storeAt 54 next11_1 s48) h33 fun q8 h34 =>
 pop P (Op.unary .not s49) fun s51 =>
 condM s51
 (pop P (Instr.build 124 #[]) fun s52 =>
 uop P (Instr.storeAt 124 s6 s52) h34 fun q9 h35 =>
 rop P (Instr.loadAt 124 s6) h35 fun r_1 =>
 K (.tuple #[r_1, (Value.bool false)]) h35)
 (pop P (Instr.fieldAt 124 r8_6 3) fun s53 =>
 rop P (Instr.loadAt 24 s53) h34 fun s54 =>
 pop P (Instr.fieldAt 124 r8_6 0) fun s55 =>
 pop P (Instr.fieldAt 54 s55 1) fun s56 =>
 rop P (Instr.loadAt 3 s56) h34 fun s57 =>
 pop P (Instr.indexAt 24 s54 s57) fun s58 =>
 rop P (Instr.loadAt 33 s58) h34 fun s59 =>
 pop P (Instr.fieldAt 54 next11_1 0) fun s61 =>
 rop P (Instr.loadAt 33 s61) h34 fun s62 =>
 pop P (Instr.fieldAt 124 r8_6 0) fun s63 =>
 pop P (Instr.fieldAt 54 s63 1) fun s64 =>
 rop P (Instr.loadAt 3 s64) h34 fun s65 =>
 pop P (Instr.indexAt 33 s62 s65) fun s66 =>
 rop P (Instr.loadAt 3 s66) h34 fun s67 =>
 pop P (Instr.indexAt 33 s59 s67) fun s68 =>
 rop P (Instr.loadAt 3 s68) h34 fun s69 =>
 pop P (binA .add 3 s69 (.int .i64 1)) fun s70 =>
 pop P (Instr.indexAt 33 s59 s67) fun s71 =>
 uop P (Instr.storeAt 3 s71 s70) h34 fun q10 h36 =>
 pop P (Instr.fieldAt 124 r8_6 2) fun s72 =>
 rop P (Instr.loadAt 33 s72) h36 fun s73 =>
 pop P (Instr.fieldAt 54 next11_1 1) fun s74 =>
 rop P (Instr.loadAt 3 s74) h36 fun s75 =>
 pop P (Instr.indexAt 33 s73 s75) fun s76 =>
 rop P (Instr.loadAt 3 s76) h36 fun s77 =>
 pop P (binA .add 3 s77 (.int .i64 1)) fun s78 =>
 pop P (Instr.indexAt 33 s73 s75) fun s79 =>
 uop P (Instr.storeAt 3 s79 s78) h36 fun q11 h37 =>
 pop P (Instr.fieldAt 124 r8_6 1) fun s80 =>
 rop P (Instr.loadAt 33 s80) h37 fun s81 =>
 pop P (Instr.fieldAt 54 next11_1 1) fun s82 =>
 rop P (Instr.loadAt 3 s82) h37 fun s83 =>
 eop P (Instr.buildSlice 33 1 #[(0, s83)]) h37 fun s84 h38 =>
 eop P (appS 33 33 33 s81 s84) h38 fun s85 h39 =>
 pop P (Instr.fieldAt 124 r8_6 1) fun s86 =>
 uop P (Instr.storeAt 33 s86 s85) h39 fun q12 h40 =>
 rop P (Instr.loadAt 54 next11_1) h40 fun s87 =>
 pop P (Instr.fieldAt 124 r8_6 0) fun s88 =>
 uop P (Instr.storeAt 54 s88 s87) h40 fun q13 h41 =>
 pop P (binA .sub 3 n2_2 (.int .i64 1)) fun s42 =>
 I2 [s42] h41 /\ μ_2 [s42] h41 < μ_2 [n2_2] h31))
 (rop P (Instr.loadAt 124 r8_6) h31 fun s89 =>
 uop P (Instr.storeAt 124 s6 s89) h31 fun q14 h42 =>
 rop P (Instr.loadAt 124 s6) h42 fun r_2 =>
 K (.tuple #[r_2, (Value.bool true)]) h42))
theorem e106 (g0_1 : Value) (w1_1 : Value) (n2_1 : Value) (h : Heap) (K : Value -> Heap -> Prop) : wpA Tryz.prog 90 (anOf [(3, [8]), (58, [26]), (60, [2])]) (bodyOf Tryz.f106) 1 (fun A h => resA Tryz.prog A h K [.cell 6 124, .tmp 7]) (fun _ _ _ => False) (fun A h => resA Tryz.prog A h K [.cell 6 124, .tmp 7]) (aargs [g0_1, w1_1, n2_1] 0) h = t106 Tryz.prog g0_1 w1_1 n2_1 h K := by kernel_rfl
theorem c106 (g0_1 : Value) (w1_1 : Value) (n2_1 : Value) (h : Heap) (K : Value -> Heap -> Prop) (H : t106 Tryz.prog g0_1 w1_1 n2_1 h K) : callM Tryz.prog 106 #[g0_1, w1_1, n2_1] h K :=
  callM_of_wpA mixed (fn := Tryz.f106) Tryz.func106 (c := bodyOf Tryz.f106) rfl (of_decide_eq_true (by kernel_rfl)) (anOf [(3, [8]), (58, [26]), (60, [2])]) 87 90 (by kernel_rfl) rfl [.cell 6 124, .tmp 7] (by kernel_rfl) (args := [g0_1, w1_1, n2_1]) (by rw [e106]; exact H)
def t107 (P : Program) (now0_1 : Value) (s1 : Value) (h : Heap) (K : Value -> Heap -> Prop) : Prop :=
 eop P (Instr.box 54 now0_1) h fun now2_1 h1 =>
 pop P (Instr.fieldAt 54 now2_1 1) fun s4 =>
 rop P (Instr.loadAt 3 s4) h1 fun s5 =>
 rop P (Instr.loadAt 3 s1) h1 fun s6 =>
 pop P (binE .eql 3 (.tmp 5) (.tmp 6) s5 s6) fun s7 =>
 K s7 h1
theorem e107 (now0_1 : Value) (s1 : Value) (h : Heap) (K : Value -> Heap -> Prop) : wpA Tryz.prog 8 (anOf []) (bodyOf Tryz.f107) 1 (fun A h => resA Tryz.prog A h K [.tmp 3]) (fun _ _ _ => False) (fun A h => resA Tryz.prog A h K [.tmp 3]) (aargs [now0_1, s1] 0) h = t107 Tryz.prog now0_1 s1 h K := by kernel_rfl
theorem c107 (now0_1 : Value) (s1 : Value) (h : Heap) (K : Value -> Heap -> Prop) (H : t107 Tryz.prog now0_1 s1 h K) : callM Tryz.prog 107 #[now0_1, s1] h K :=
  callM_of_wpA mixed (fn := Tryz.f107) Tryz.func107 (c := bodyOf Tryz.f107) rfl (of_decide_eq_true (by kernel_rfl)) (anOf []) 6 8 (by kernel_rfl) rfl [.tmp 3] (by kernel_rfl) (args := [now0_1, s1]) (by rw [e107]; exact H)
def t108 (P : Program) (code0_1 : Value) (h : Heap) (K : Value -> Heap -> Prop) : Prop :=
 eop P (Instr.alloc 26 true (.tuple #[])) h fun s2 h1 =>
 eop P (Instr.alloc 54 true (.tuple #[])) h1 fun s3 h2 =>
 pop P (Instr.build 84 #[(0, code0_1)]) fun s6 =>
 eop P (Instr.box 84 s6) h2 fun s7 h3 =>
 callM P 67 #[s7] h3 fun s9 h4 =>
 pop P (Instr.extract s9 0) fun s10 =>
 pop P (Instr.extract s9 1) fun s11 =>
 uop P (Instr.storeAt 26 s2 s10) h4 fun q1 h5 =>
 uop P (Instr.storeAt 54 s3 s11) h5 fun q2 h6 =>
 rop P (Instr.loadAt 26 s2) h6 fun r_1 =>
 rop P (Instr.loadAt 54 s3) h6 fun r_2 =>
 K (.tuple #[r_1, r_2]) h6
theorem e108 (code0_1 : Value) (h : Heap) (K : Value -> Heap -> Prop) : wpA Tryz.prog 12 (anOf []) (bodyOf Tryz.f108) 1 (fun A h => resA Tryz.prog A h K [.cell 2 26, .cell 3 54]) (fun _ _ _ => False) (fun A h => resA Tryz.prog A h K [.cell 2 26, .cell 3 54]) (aargs [code0_1] 0) h = t108 Tryz.prog code0_1 h K := by kernel_rfl
theorem c108 (code0_1 : Value) (h : Heap) (K : Value -> Heap -> Prop) (H : t108 Tryz.prog code0_1 h K) : callM Tryz.prog 108 #[code0_1] h K :=
  callM_of_wpA mixed (fn := Tryz.f108) Tryz.func108 (c := bodyOf Tryz.f108) rfl (of_decide_eq_true (by kernel_rfl)) (anOf []) 11 12 (by kernel_rfl) rfl [.cell 2 26, .cell 3 54] (by kernel_rfl) (args := [code0_1]) (by rw [e108]; exact H)
def t109 (P : Program) (now0_1 : Value) (s1 : Value) (h : Heap) (K : Value -> Heap -> Prop) : Prop :=
 eop P (Instr.box 54 now0_1) h fun now2_1 h1 =>
 rop P (Instr.loadAt 127 s1) h1 fun s4 =>
 pop P (Instr.fieldAt 54 now2_1 1) fun s5 =>
 rop P (Instr.loadAt 3 s5) h1 fun s6 =>
 pop P (Instr.indexAt 127 s4 s6) fun s7 =>
 uop P (Instr.storeAt 4 s7 (Value.bool true)) h1 fun q1 h2 =>
 rop P (Instr.loadAt 127 s1) h2 fun s8 =>
 callM P 110 #[s8, (Value.bool false)] h2 fun s9 h3 =>
 pop P (Op.unary .not s9) fun s10 =>
 K s10 h3
theorem e109 (now0_1 : Value) (s1 : Value) (h : Heap) (K : Value -> Heap -> Prop) : wpA Tryz.prog 11 (anOf []) (bodyOf Tryz.f109) 1 (fun A h => resA Tryz.prog A h K [.tmp 3]) (fun _ _ _ => False) (fun A h => resA Tryz.prog A h K [.tmp 3]) (aargs [now0_1, s1] 0) h = t109 Tryz.prog now0_1 s1 h K := by kernel_rfl
theorem c109 (now0_1 : Value) (s1 : Value) (h : Heap) (K : Value -> Heap -> Prop) (H : t109 Tryz.prog now0_1 s1 h K) : callM Tryz.prog 109 #[now0_1, s1] h K :=
  callM_of_wpA mixed (fn := Tryz.f109) Tryz.func109 (c := bodyOf Tryz.f109) rfl (of_decide_eq_true (by kernel_rfl)) (anOf []) 9 11 (by kernel_rfl) rfl [.tmp 3] (by kernel_rfl) (args := [now0_1, s1]) (by rw [e109]; exact H)
def t110 (P : Program) (s0_1 : Value) (v1_1 : Value) (h : Heap) (K : Value -> Heap -> Prop) : Prop :=
 callM P 142 #[s0_1, v1_1] h fun s7 h1 =>
 pop P (binA .geq 3 s7 (.int .i64 0)) fun s8 =>
 K s8 h1
theorem e110 (s0_1 : Value) (v1_1 : Value) (h : Heap) (K : Value -> Heap -> Prop) : wpA Tryz.prog 9 (anOf []) (bodyOf Tryz.f110) 1 (fun A h => resA Tryz.prog A h K [.tmp 4]) (fun _ _ _ => False) (fun A h => resA Tryz.prog A h K [.tmp 4]) (aargs [s0_1, v1_1] 0) h = t110 Tryz.prog s0_1 v1_1 h K := by kernel_rfl
theorem c110 (s0_1 : Value) (v1_1 : Value) (h : Heap) (K : Value -> Heap -> Prop) (H : t110 Tryz.prog s0_1 v1_1 h K) : callM Tryz.prog 110 #[s0_1, v1_1] h K :=
  callM_of_wpA mixed (fn := Tryz.f110) Tryz.func110 (c := bodyOf Tryz.f110) rfl (of_decide_eq_true (by kernel_rfl)) (anOf []) 7 9 (by kernel_rfl) rfl [.tmp 4] (by kernel_rfl) (args := [s0_1, v1_1]) (by rw [e110]; exact H)
def t112 (P : Program) (p0_1 : Value) (s1 : Value) (h : Heap) (K : Value -> Heap -> Prop) : Prop :=
 pop P (Instr.fieldAt 26 s1 0) fun s5 =>
 rop P (Instr.loadAt 24 s5) h fun s6 =>
 pop P (lenS 24 3 s6) fun s7 =>
 pop P (binA .sub 3 s7 (.int .i64 1)) fun s8 =>
 callM P 72 #[p0_1, (.int .i64 0), s8] h fun s9 h1 =>
 pop P (Op.unary .not s9) fun s10 =>
 K s10 h1
theorem e112 (p0_1 : Value) (s1 : Value) (h : Heap) (K : Value -> Heap -> Prop) : wpA Tryz.prog 11 (anOf []) (bodyOf Tryz.f112) 1 (fun A h => resA Tryz.prog A h K [.tmp 3]) (fun _ _ _ => False) (fun A h => resA Tryz.prog A h K [.tmp 3]) (aargs [p0_1, s1] 0) h = t112 Tryz.prog p0_1 s1 h K := by kernel_rfl
theorem c112 (p0_1 : Value) (s1 : Value) (h : Heap) (K : Value -> Heap -> Prop) (H : t112 Tryz.prog p0_1 s1 h K) : callM Tryz.prog 112 #[p0_1, s1] h K :=
  callM_of_wpA mixed (fn := Tryz.f112) Tryz.func112 (c := bodyOf Tryz.f112) rfl (of_decide_eq_true (by kernel_rfl)) (anOf []) 9 11 (by kernel_rfl) rfl [.tmp 3] (by kernel_rfl) (args := [p0_1, s1]) (by rw [e112]; exact H)
def t115 (P : Program) (s0_1 : Value) (v1_1 : Value) (h : Heap) (K : Value -> Heap -> Prop) : Prop :=
 pop P (lenS 33 3 s0_1) fun s7 =>
 ∃ (I1 : List Value -> Heap -> Prop) (μ_1 : List Value -> Heap -> Nat), I1 [(.int .i64 0)] h /\
 ∀ (junk1 : Nat -> Value) (s8 : Value) (h1 : Heap), I1 [s8] h1 ->
 pop P (binA .lss 3 s8 s7) fun s9 =>
 condM s9
 (pop P (Instr.indexAt 33 s0_1 s8) fun s14 =>
 rop P (Instr.loadAt 3 s14) h1 fun s15 =>
 pop P (binE .eql 3 (.tmp 11) (.tmp 15) v1_1 s15) fun s16 =>
 condM s16
 (K s8 h1)
 (pop P (binA .add 3 s8 (.int .i64 1)) fun s18 =>
 I1 [s18] h1 /\ μ_1 [s18] h1 < μ_1 [s8] h1))
 (K (.int .i64 (-1)) h1)
theorem e115 (s0_1 : Value) (v1_1 : Value) (h : Heap) (K : Value -> Heap -> Prop) : wpA Tryz.prog 19 (anOf [(26, [8])]) (bodyOf Tryz.f115) 1 (fun A h => resA Tryz.prog A h K [.tmp 4]) (fun _ _ _ => False) (fun A h => resA Tryz.prog A h K [.tmp 4]) (aargs [s0_1, v1_1] 0) h = t115 Tryz.prog s0_1 v1_1 h K := by kernel_rfl
theorem c115 (s0_1 : Value) (v1_1 : Value) (h : Heap) (K : Value -> Heap -> Prop) (H : t115 Tryz.prog s0_1 v1_1 h K) : callM Tryz.prog 115 #[s0_1, v1_1] h K :=
  callM_of_wpA mixed (fn := Tryz.f115) Tryz.func115 (c := bodyOf Tryz.f115) rfl (of_decide_eq_true (by kernel_rfl)) (anOf [(26, [8])]) 17 19 (by kernel_rfl) rfl [.tmp 4] (by kernel_rfl) (args := [s0_1, v1_1]) (by rw [e115]; exact H)
def t117 (P : Program) (s0_1 : Value) (h : Heap) (K : Value -> Heap -> Prop) : Prop :=
 pop P (binE .eql 33 (.tmp 3) (.const (Value.slice none 0 0)) s0_1 (Value.slice none 0 0)) fun s4 =>
 condM s4
 (K (Value.slice none 0 0) h)
 (eop P (Instr.buildSlice 33 0 #[]) h fun s5 h1 =>
 eop P (appS 33 33 33 s5 s0_1) h1 fun s7 h2 =>
 K s7 h2)
theorem e117 (s0_1 : Value) (h : Heap) (K : Value -> Heap -> Prop) : wpA Tryz.prog 8 (anOf []) (bodyOf Tryz.f117) 1 (fun A h => resA Tryz.prog A h K [.tmp 2]) (fun _ _ _ => False) (fun A h => resA Tryz.prog A h K [.tmp 2]) (aargs [s0_1] 0) h = t117 Tryz.prog s0_1 h K := by kernel_rfl
theorem c117 (s0_1 : Value) (h : Heap) (K : Value -> Heap -> Prop) (H : t117 Tryz.prog s0_1 h K) : callM Tryz.prog 117 #[s0_1] h K :=
  callM_of_wpA mixed (fn := Tryz.f117) Tryz.func117 (c := bodyOf Tryz.f117) rfl (of_decide_eq_true (by kernel_rfl)) (anOf []) 7 8 (by kernel_rfl) rfl [.tmp 2] (by kernel_rfl) (args := [s0_1]) (by rw [e117]; exact H)
def t119 (P : Program) (l0_1 : Value) (h : Heap) (K : Value -> Heap -> Prop) : Prop :=
 eop P (Instr.buildSlice 33 0 #[]) h fun s3 h1 =>
 eop P (appS 33 33 33 s3 l0_1) h1 fun s5 h2 =>
 K s5 h2
theorem e119 (l0_1 : Value) (h : Heap) (K : Value -> Heap -> Prop) : wpA Tryz.prog 6 (anOf []) (bodyOf Tryz.f119) 1 (fun A h => resA Tryz.prog A h K [.tmp 2]) (fun _ _ _ => False) (fun A h => resA Tryz.prog A h K [.tmp 2]) (aargs [l0_1] 0) h = t119 Tryz.prog l0_1 h K := by kernel_rfl
theorem c119 (l0_1 : Value) (h : Heap) (K : Value -> Heap -> Prop) (H : t119 Tryz.prog l0_1 h K) : callM Tryz.prog 119 #[l0_1] h K :=
  callM_of_wpA mixed (fn := Tryz.f119) Tryz.func119 (c := bodyOf Tryz.f119) rfl (of_decide_eq_true (by kernel_rfl)) (anOf []) 5 6 (by kernel_rfl) rfl [.tmp 2] (by kernel_rfl) (args := [l0_1]) (by rw [e119]; exact H)
def t121 (P : Program) (c0_1 : Value) (h : Heap) (K : Value -> Heap -> Prop) : Prop :=
 eop P (Instr.alloc 26 true (.tuple #[])) h fun s2 h1 =>
 callM P 144 #[c0_1, (.int .i64 6)] h1 fun s5 h2 =>
 eop P (Instr.alloc 26 true (.tuple #[])) h2 fun g3_1 h3 =>
 uop P (Instr.storeAt 26 g3_1 s5) h3 fun q1 h4 =>
 callM P 70 #[c0_1, (.int .i64 16)] h4 fun s7 h5 =>
 pop P (binE .eql 3 (.tmp 7) (.const (.int .i64 0)) s7 (.int .i64 0)) fun s9 =>
 condM s9
 (pop P (Instr.fieldAt 26 g3_1 0) fun s10 =>
 rop P (Instr.loadAt 24 s10) h5 fun s11 =>
 pop P (Instr.fieldAt 26 g3_1 0) fun s12 =>
 rop P (Instr.loadAt 24 s12) h5 fun s13 =>
 pop P (Instr.indexAt 24 s13 (.int .i64 0)) fun s14 =>
 rop P (Instr.loadAt 33 s14) h5 fun s15 =>
 pop P (Instr.fieldAt 26 g3_1 0) fun s17 =>
 rop P (Instr.loadAt 24 s17) h5 fun s18 =>
 pop P (lenS 24 3 s18) fun s19 =>
 eop P (Instr.buildSlice 33 3 #[(0, (.int .i64 (-1))), (1, s19), (2, (.int .i64 4611686018427387904))]) h5 fun s20 h6 =>
 (∀ w : World, w.heap = h6 -> (Instr.loadAt 24 s17).run P w = .ok s18 w) /\
 (∀ w : World, w.heap = h6 -> (Instr.loadAt 33 s14).run P w = .ok s15 w) /\
 (∀ w : World, w.heap = h6 -> (Instr.loadAt 24 s12).run P w = .ok s13 w) /\
 (∀ w : World, w.heap = h6 -> (Instr.loadAt 24 s10).run P w = .ok s11 w) /\
 callM P 69 #[c0_1, s20] h6 fun s21 h7 =>
 (∀ w : World, w.heap = h7 -> (Instr.loadAt 24 s17).run P w = .ok s18 w) /\
 (∀ w : World, w.heap = h7 -> (Instr.loadAt 33 s14).run P w = .ok s15 w) /\
 (∀ w : World, w.heap = h7 -> (Instr.loadAt 24 s12).run P w = .ok s13 w) /\
 (∀ w : World, w.heap = h7 -> (Instr.loadAt 24 s10).run P w = .ok s11 w) /\
 eop P (Instr.buildSlice 33 1 #[(0, s21)]) h7 fun s22 h8 =>
 (∀ w : World, w.heap = h8 -> (Instr.loadAt 24 s17).run P w = .ok s18 w) /\
 (∀ w : World, w.heap = h8 -> (Instr.loadAt 33 s14).run P w = .ok s15 w) /\
 (∀ w : World, w.heap = h8 -> (Instr.loadAt 24 s12).run P w = .ok s13 w) /\
 (∀ w : World, w.heap = h8 -> (Instr.loadAt 24 s10).run P w = .ok s11 w) /\
 eop P (appS 33 33 33 s15 s22) h8 fun s23 h9 =>
 (∀ w : World, w.heap = h9 -> (Instr.loadAt 24 s17).run P w = .ok s18 w) /\
 (∀ w : World, w.heap = h9 -> (Instr.loadAt 24 s12).run P w = .ok s13 w) /\
 (∀ w : World, w.heap = h9 -> (Instr.loadAt 24 s10).run P w = .ok s11 w) /\
 pop P (Instr.indexAt 24 s11 (.int .i64 0)) fun s24 =>
 uop P (Instr.storeAt 33 s24 s23) h9 fun q2 h10 =>
 rop P (Instr.loadAt 26 g3_1) h10 fun s52 =>
 uop P (Instr.storeAt 26 s2 s52) h10 fun q3 h11 =>
 rop P (Instr.loadAt 26 s2) h11 fun r_1 =>
 K r_1 h11)
 (pop P (binE .eql 3 (.tmp 7) (.const (.int .i64 1)) s7 (.int .i64 1)) fun s26 =>
 condM s26
 (pop P (Instr.fieldAt 26 g3_1 0) fun s27 =>
 rop P (Instr.loadAt 24 s27) h5 fun s28 =>
 callM P 70 #[c0_1, (.int .i64 2)] h5 fun s30 h12 =>
 (∀ w : World, w.heap = h12 -> (Instr.loadAt 24 s27).run P w = .ok s28 w) /\
 pop P (binA .add 3 (.int .i64 5) s30) fun s31 =>
 eop P (Instr.makeSlice 33 s31 s31) h12 fun s32 h13 =>
 (∀ w : World, w.heap = h13 -> (Instr.loadAt 24 s27).run P w = .ok s28 w) /\
 pop P (Instr.indexAt 24 s28 (.int .i64 0)) fun s33 =>
 uop P (Instr.storeAt 33 s33 s32) h13 fun q4 h14 =>
 rop P (Instr.loadAt 26 g3_1) h14 fun s52b =>
 uop P (Instr.storeAt 26 s2 s52b) h14 fun q5 h15 =>
 rop P (Instr.loadAt 26 s2) h15 fun r_2 =>
 K r_2 h15)
 (pop P (binE .eql 3 (.tmp 7) (.const (.int .i64 2)) s7 (.int .i64 2)) fun s35 =>
 condM s35
 (∃ (I1 : List Value -> Heap -> Prop) (μ_1 : List Value -> Heap -> Nat), I1 [] h5 /\
 ∀ (junk1 : Nat -> Value) (h16 : Heap), I1 [] h16 ->
 pop P (Instr.fieldAt 26 g3_1 0) fun s36 =>
 rop P (Instr.loadAt 24 s36) h16 fun s37 =>
 pop P (lenS 24 3 s37) fun s38 =>
 callM P 70 #[c0_1, (.int .i64 2)] h16 fun s40 h17 =>
 (∀ w : World, w.heap = h17 -> (Instr.loadAt 24 s36).run P w = .ok s37 w) /\
 pop P (binA .add 3 (.int .i64 8) s40) fun s41 =>
 pop P (binA .lss 3 s38 s41) fun s42 =>
 condM s42
 (pop P (Instr.fieldAt 26 g3_1 0) fun s43 =>
 rop P (Instr.loadAt 24 s43) h17 fun s44 =>
 eop P (Instr.buildSlice 33 1 #[(0, (.int .i64 0))]) h17 fun s45 h18 =>
 eop P (Instr.buildSlice 24 1 #[(0, s45)]) h18 fun s46 h19 =>
 eop P (appS 24 24 24 s44 s46) h19 fun s47 h20 =>
 pop P (Instr.fieldAt 26 g3_1 0) fun s48 =>
 uop P (Instr.storeAt 24 s48 s47) h20 fun q6 h21 =>
 I1 [] h21 /\ μ_1 [] h21 < μ_1 [] h16)
 (rop P (Instr.loadAt 26 g3_1) h17 fun s52c =>
 uop P (Instr.storeAt 26 s2 s52c) h17 fun q7 h22 =>
 rop P (Instr.loadAt 26 s2) h22 fun r_3 =>
 K r_3 h22))
 (pop P (binE .eql 3 (.tmp 7) (.const (.int .i64 3)) s7 (.int .i64 3)) fun s50 =>
 condM s50
 (pop P (Instr.build 26 #[]) fun s51 =>
 uop P (Instr.storeAt 26 g3_1 s51) h5 fun q8 h23 =>
 rop P (Instr.loadAt 26 g3_1) h23 fun s52d =>
 uop P (Instr.storeAt 26 s2 s52d) h23 fun q9 h24 =>
 rop P (Instr.loadAt 26 s2) h24 fun r_4 =>
 K r_4 h24)
 (rop P (Instr.loadAt 26 g3_1) h5 fun s52e =>
 uop P (Instr.storeAt 26 s2 s52e) h5 fun q10 h25 =>
 rop P (Instr.loadAt 26 s2) h25 fun r_5 =>
 K r_5 h25))))
theorem e121 (c0_1 : Value) (h : Heap) (K : Value -> Heap -> Prop) : wpA Tryz.prog 53 (anOf [(7548, [])]) (bodyOf Tryz.f121) 1 (fun A h => resA Tryz.prog A h K [.cell 2 26]) (fun _ _ _ => False) (fun A h => resA Tryz.prog A h K [.cell 2 26]) (aargs [c0_1] 0) h = t121 Tryz.prog c0_1 h K := by kernel_rfl
theorem c121 (c0_1 : Value) (h : Heap) (K : Value -> Heap -> Prop) (H : t121 Tryz.prog c0_1 h K) : callM Tryz.prog 121 #[c0_1] h K :=
  callM_of_wpA mixed (fn := Tryz.f121) Tryz.func121 (c := bodyOf Tryz.f121) rfl (of_decide_eq_true (by kernel_rfl)) (anOf [(7548, [])]) 52 53 (by kernel_rfl) rfl [.cell 2 26] (by kernel_rfl) (args := [c0_1]) (by rw [e121]; exact H)
def t122 (P : Program) (c0_1 : Value) (h : Heap) (K : Value -> Heap -> Prop) : Prop :=
 ∃ J1 : List Value -> Heap -> Prop, (pop P (nilS c0_1) fun s5 =>
 pop P (Instr.fieldAt 84 s5 1) fun s6 =>
 rop P (Instr.loadAt 3 s6) h fun s7 =>
 pop P (nilS c0_1) fun s9 =>
 pop P (Instr.fieldAt 84 s9 0) fun s10 =>
 rop P (Instr.loadAt 22 s10) h fun s11 =>
 pop P (lenS 22 3 s11) fun s12 =>
 pop P (binA .lss 3 s7 s12) fun s13 =>
 condM s13
 (pop P (nilS c0_1) fun s15 =>
 pop P (Instr.fieldAt 84 s15 0) fun s16 =>
 rop P (Instr.loadAt 22 s16) h fun s17 =>
 pop P (nilS c0_1) fun s19 =>
 pop P (Instr.fieldAt 84 s19 1) fun s20 =>
 rop P (Instr.loadAt 3 s20) h fun s21 =>
 pop P (Instr.indexAt 22 s17 s21) fun s22 =>
 rop P (Instr.loadAt 5 s22) h fun s23 =>
 rop P (convert 5 3 s23) h fun s24 =>
 J1 [s24] h)
 (J1 [(.int .i64 0)] h)) /\
 ∀ (junk1 : Nat -> Value) (b3_1 : Value) (h1 : Heap), J1 [b3_1] h1 ->
 pop P (nilS c0_1) fun s26 =>
 pop P (Instr.fieldAt 84 s26 1) fun s27 =>
 rop P (Instr.loadAt 3 s27) h1 fun s28 =>
 pop P (binA .add 3 s28 (.int .i64 1)) fun s29 =>
 pop P (nilS c0_1) fun s30 =>
 pop P (Instr.fieldAt 84 s30 1) fun s31 =>
 uop P (Instr.storeAt 3 s31 s29) h1 fun q1 h2 =>
 pop P (nilS c0_1) fun s34 =>
 pop P (Instr.fieldAt 84 s34 2) fun s35 =>
 rop P (Instr.loadAt 82 s35) h2 fun s36 =>
 pop P (binA .mul 82 s36 (Value.int IntKind.u64 6364136223846793005)) fun s37 =>
 rop P (convert 3 82 b3_1) h2 fun s39 =>
 pop P (binA .add 82 s37 s39) fun s40 =>
 pop P (binA .add 82 s40 (Value.int IntKind.u64 1442695040888963407)) fun s41 =>
 pop P (nilS c0_1) fun s42 =>
 pop P (Instr.fieldAt 84 s42 2) fun s43 =>
 uop P (Instr.storeAt 82 s43 s41) h2 fun q2 h3 =>
 pop P (nilS c0_1) fun s45 =>
 pop P (Instr.fieldAt 84 s45 1) fun s46 =>
 rop P (Instr.loadAt 3 s46) h3 fun s47 =>
 pop P (nilS c0_1) fun s49 =>
 pop P (Instr.fieldAt 84 s49 0) fun s50 =>
 rop P (Instr.loadAt 22 s50) h3 fun s51 =>
 pop P (lenS 22 3 s51) fun s52 =>
 pop P (binA .leq 3 s47 s52) fun s53 =>
 condM s53
 (K b3_1 h3)
 (pop P (nilS c0_1) fun s56 =>
 pop P (Instr.fieldAt 84 s56 2) fun s57 =>
 rop P (Instr.loadAt 82 s57) h3 fun s58 =>
 pop P (binA .shr 82 s58 (Value.int IntKind.u64 40)) fun s59 =>
 pop P (binA .and 82 s59 (Value.int IntKind.u64 255)) fun s60 =>
 rop P (convert 82 3 s60) h3 fun s61 =>
 K s61 h3)
theorem e122 (c0_1 : Value) (h : Heap) (K : Value -> Heap -> Prop) : wpA Tryz.prog 62 (anOf [(7, [3])]) (bodyOf Tryz.f122) 1 (fun A h => resA Tryz.prog A h K [.tmp 2]) (fun _ _ _ => False) (fun A h => resA Tryz.prog A h K [.tmp 2]) (aargs [c0_1] 0) h = t122 Tryz.prog c0_1 h K := by kernel_rfl
theorem c122 (c0_1 : Value) (h : Heap) (K : Value -> Heap -> Prop) (H : t122 Tryz.prog c0_1 h K) : callM Tryz.prog 122 #[c0_1] h K :=
  callM_of_wpA mixed (fn := Tryz.f122) Tryz.func122 (c := bodyOf Tryz.f122) rfl (of_decide_eq_true (by kernel_rfl)) (anOf [(7, [3])]) 61 62 (by kernel_rfl) rfl [.tmp 2] (by kernel_rfl) (args := [c0_1]) (by rw [e122]; exact H)
def t123 (P : Program) (a0_1 : Value) (b1_1 : Value) (h : Heap) (K : Value -> Heap -> Prop) : Prop :=
 pop P (binA .gtr 3 a0_1 b1_1) fun s7 =>
 condM s7
 (K a0_1 h)
 (K b1_1 h)
theorem e123 (a0_1 : Value) (b1_1 : Value) (h : Heap) (K : Value -> Heap -> Prop) : wpA Tryz.prog 10 (anOf []) (bodyOf Tryz.f123) 1 (fun A h => resA Tryz.prog A h K [.tmp 4]) (fun _ _ _ => False) (fun A h => resA Tryz.prog A h K [.tmp 4]) (aargs [a0_1, b1_1] 0) h = t123 Tryz.prog a0_1 b1_1 h K := by kernel_rfl
theorem c123 (a0_1 : Value) (b1_1 : Value) (h : Heap) (K : Value -> Heap -> Prop) (H : t123 Tryz.prog a0_1 b1_1 h K) : callM Tryz.prog 123 #[a0_1, b1_1] h K :=
  callM_of_wpA mixed (fn := Tryz.f123) Tryz.func123 (c := bodyOf Tryz.f123) rfl (of_decide_eq_true (by kernel_rfl)) (anOf []) 8 10 (by kernel_rfl) rfl [.tmp 4] (by kernel_rfl) (args := [a0_1, b1_1]) (by rw [e123]; exact H)
def t124 (P : Program) (s0_1 : Value) (f1_1 : Value) (h : Heap) (K : Value -> Heap -> Prop) : Prop :=
 pop P (lenS 33 3 s0_1) fun s7 =>
 ∃ (I1 : List Value -> Heap -> Prop) (μ_1 : List Value -> Heap -> Nat), I1 [(.int .i64 0)] h /\
 ∀ (junk1 : Nat -> Value) (s8 : Value) (h1 : Heap), I1 [s8] h1 ->
 pop P (binA .lss 3 s8 s7) fun s9 =>
 condM s9
 (pop P (Instr.indexAt 33 s0_1 s8) fun s14 =>
 rop P (Instr.loadAt 3 s14) h1 fun s15 =>
 callV P f1_1 [s15] h1 fun s16 h2 =>
 condM s16
 (K s8 h2)
 (pop P (binA .add 3 s8 (.int .i64 1)) fun s18 =>
 I1 [s18] h2 /\ μ_1 [s18] h2 < μ_1 [s8] h1))
 (K (.int .i64 (-1)) h1)
theorem e124 (s0_1 : Value) (f1_1 : Value) (h : Heap) (K : Value -> Heap -> Prop) : wpA Tryz.prog 19 (anOf [(26, [8])]) (bodyOf Tryz.f124) 1 (fun A h => resA Tryz.prog A h K [.tmp 4]) (fun _ _ _ => False) (fun A h => resA Tryz.prog A h K [.tmp 4]) (aargs [s0_1, f1_1] 0) h = t124 Tryz.prog s0_1 f1_1 h K := by kernel_rfl
theorem c124 (s0_1 : Value) (f1_1 : Value) (h : Heap) (K : Value -> Heap -> Prop) (H : t124 Tryz.prog s0_1 f1_1 h K) : callM Tryz.prog 124 #[s0_1, f1_1] h K :=
  callM_of_wpA mixed (fn := Tryz.f124) Tryz.func124 (c := bodyOf Tryz.f124) rfl (of_decide_eq_true (by kernel_rfl)) (anOf [(26, [8])]) 17 19 (by kernel_rfl) rfl [.tmp 4] (by kernel_rfl) (args := [s0_1, f1_1]) (by rw [e124]; exact H)
def t129 (P : Program) (n0_1 : Value) (both1_1 : Value) (h : Heap) (K : Value -> Heap -> Prop) : Prop :=
 eop P (Instr.alloc 26 true (.tuple #[])) h fun s4 h1 =>
 pop P (Instr.build 26 #[]) fun s8 =>
 eop P (Instr.alloc 26 true (.tuple #[])) h1 fun g5_1 h2 =>
 uop P (Instr.storeAt 26 g5_1 s8) h2 fun q1 h3 =>
 ∃ (I1 : List Value -> Heap -> Prop) (μ_1 : List Value -> Heap -> Nat), I1 [(.int .i64 0)] h3 /\
 ∀ (junk1 : Nat -> Value) (p6_1 : Value) (h4 : Heap), I1 [p6_1] h4 ->
 pop P (binA .lss 3 p6_1 n0_1) fun s11 =>
 condM s11
 (pop P (binA .add 3 p6_1 (.int .i64 1)) fun s15 =>
 pop P (binA .rem 3 s15 n0_1) fun s17 =>
 eop P (Instr.buildSlice 33 1 #[(0, s17)]) h4 fun s18 h5 =>
 ∃ J1 : List Value -> Heap -> Prop, (condM both1_1
 (pop P (binA .add 3 p6_1 n0_1) fun s23 =>
 pop P (binA .sub 3 s23 (.int .i64 1)) fun s24 =>
 pop P (binA .rem 3 s24 n0_1) fun s26 =>
 eop P (Instr.buildSlice 33 1 #[(0, s26)]) h5 fun s27 h6 =>
 eop P (appS 33 33 33 s18 s27) h6 fun s28 h7 =>
 J1 [s28] h7)
 (J1 [s18] h5)) /\
 ∀ (junk2 : Nat -> Value) (list7_1 : Value) (h8 : Heap), J1 [list7_1] h8 ->
 pop P (Instr.fieldAt 26 g5_1 0) fun s29 =>
 rop P (Instr.loadAt 24 s29) h8 fun s30 =>
 eop P (Instr.buildSlice 24 1 #[(0, list7_1)]) h8 fun s32 h9 =>
 eop P (appS 24 24 24 s30 s32) h9 fun s33 h10 =>
 pop P (Instr.fieldAt 26 g5_1 0) fun s34 =>
 uop P (Instr.storeAt 24 s34 s33) h10 fun q2 h11 =>
 pop P (binA .add 3 p6_1 (.int .i64 1)) fun s13 =>
 I1 [s13] h11 /\ μ_1 [s13] h11 < μ_1 [p6_1] h4)
 (rop P (Instr.loadAt 26 g5_1) h4 fun s35 =>
 uop P (Instr.storeAt 26 s4 s35) h4 fun q3 h12 =>
 rop P (Instr.loadAt 26 s4) h12 fun r_1 =>
 K r_1 h12)
theorem e129 (n0_1 : Value) (both1_1 : Value) (h : Heap) (K : Value -> Heap -> Prop) : wpA Tryz.prog 36 (anOf [(58, [6]), (1865, [7])]) (bodyOf Tryz.f129) 1 (fun A h => resA Tryz.prog A h K [.cell 4 26]) (fun _ _ _ => False) (fun A h => resA Tryz.prog A h K [.cell 4 26]) (aargs [n0_1, both1_1] 0) h = t129 Tryz.prog n0_1 both1_1 h K := by kernel_rfl
theorem c129 (n0_1 : Value) (both1_1 : Value) (h : Heap) (K : Value -> Heap -> Prop) (H : t129 Tryz.prog n0_1 both1_1 h K) : callM Tryz.prog 129 #[n0_1, both1_1] h K :=
  callM_of_wpA mixed (fn := Tryz.f129) Tryz.func129 (c := bodyOf Tryz.f129) rfl (of_decide_eq_true (by kernel_rfl)) (anOf [(58, [6]), (1865, [7])]) 34 36 (by kernel_rfl) rfl [.cell 4 26] (by kernel_rfl) (args := [n0_1, both1_1]) (by rw [e129]; exact H)
def t130 (P : Program) (c0_1 : Value) (n1_1 : Value) (h : Heap) (K : Value -> Heap -> Prop) : Prop :=
 ∃ (I1 : List Value -> Heap -> Prop) (μ_1 : List Value -> Heap -> Nat), I1 [(Value.slice none 0 0), (.int .i64 0)] h /\
 ∀ (junk1 : Nat -> Value) (out5_1 : Value) (p6_1 : Value) (h1 : Heap), I1 [out5_1, p6_1] h1 ->
 pop P (binA .lss 3 p6_1 n1_1) fun s12 =>
 condM s12
 (eop P (Instr.buildSlice 33 1 #[(0, p6_1)]) h1 fun s17 h2 =>
 eop P (appS 33 33 33 out5_1 s17) h2 fun s18 h3 =>
 pop P (binA .add 3 p6_1 (.int .i64 1)) fun s14 =>
 I1 [s18, s14] h3 /\ μ_1 [s18, s14] h3 < μ_1 [out5_1, p6_1] h1)
 (pop P (lenS 33 3 out5_1) fun s20 =>
 ∃ (I2 : List Value -> Heap -> Prop) (μ_2 : List Value -> Heap -> Nat), I2 [(.int .i64 0)] h1 /\
 ∀ (junk2 : Nat -> Value) (s21 : Value) (h4 : Heap), I2 [s21] h4 ->
 pop P (binA .lss 3 s21 s20) fun s22 =>
 condM s22
 (callM P 70 #[c0_1, n1_1] h4 fun s26 h5 =>
 pop P (Instr.indexAt 33 out5_1 s21) fun s29 =>
 rop P (Instr.loadAt 3 s29) h5 fun s30 =>
 pop P (Instr.indexAt 33 out5_1 s26) fun s35 =>
 rop P (Instr.loadAt 3 s35) h5 fun s36 =>
 pop P (Instr.indexAt 33 out5_1 s21) fun s37 =>
 uop P (Instr.storeAt 3 s37 s36) h5 fun q1 h6 =>
 pop P (Instr.indexAt 33 out5_1 s26) fun s41 =>
 uop P (Instr.storeAt 3 s41 s30) h6 fun q2 h7 =>
 pop P (binA .add 3 s21 (.int .i64 1)) fun s42 =>
 I2 [s42] h7 /\ μ_2 [s42] h7 < μ_2 [s21] h4)
 (K out5_1 h4))
theorem e130 (c0_1 : Value) (n1_1 : Value) (h : Heap) (K : Value -> Heap -> Prop) : wpA Tryz.prog 44 (anOf [(58, [5, 6]), (122, [21])]) (bodyOf Tryz.f130) 1 (fun A h => resA Tryz.prog A h K [.tmp 4]) (fun _ _ _ => False) (fun A h => resA Tryz.prog A h K [.tmp 4]) (aargs [c0_1, n1_1] 0) h = t130 Tryz.prog c0_1 n1_1 h K := by kernel_rfl
theorem c130 (c0_1 : Value) (n1_1 : Value) (h : Heap) (K : Value -> Heap -> Prop) (H : t130 Tryz.prog c0_1 n1_1 h K) : callM Tryz.prog 130 #[c0_1, n1_1] h K :=
  callM_of_wpA mixed (fn := Tryz.f130) Tryz.func130 (c := bodyOf Tryz.f130) rfl (of_decide_eq_true (by kernel_rfl)) (anOf [(58, [5, 6]), (122, [21])]) 42 44 (by kernel_rfl) rfl [.tmp 4] (by kernel_rfl) (args := [c0_1, n1_1]) (by rw [e130]; exact H)
def t131 (P : Program) (w0_1 : Value) (h : Heap) (K : Value -> Heap -> Prop) : Prop :=
 eop P (Instr.box 54 w0_1) h fun w1_1 h1 =>
 pop P (Instr.fieldAt 54 w1_1 1) fun s3 =>
 rop P (Instr.loadAt 3 s3) h1 fun s4 =>
 pop P (Instr.fieldAt 54 w1_1 0) fun s7 =>
 rop P (Instr.loadAt 33 s7) h1 fun s8 =>
 callM P 125 #[s4] h1 fun s5 h2 =>
 (∀ w : World, w.heap = h2 -> (Instr.loadAt 33 s7).run P w = .ok s8 w) /\
 pop P (binA .add 9 s5 (Value.string { data := #[58] })) fun s6 =>
 callM P 77 #[s8] h2 fun s9 h3 =>
 pop P (binA .add 9 s6 s9) fun s10 =>
 K s10 h3
theorem e131 (w0_1 : Value) (h : Heap) (K : Value -> Heap -> Prop) : wpA Tryz.prog 11 (anOf []) (bodyOf Tryz.f131) 1 (fun A h => resA Tryz.prog A h K [.tmp 2]) (fun _ _ _ => False) (fun A h => resA Tryz.prog A h K [.tmp 2]) (aargs [w0_1] 0) h = t131 Tryz.prog w0_1 h K := by kernel_rfl
theorem c131 (w0_1 : Value) (h : Heap) (K : Value -> Heap -> Prop) (H : t131 Tryz.prog w0_1 h K) : callM Tryz.prog 131 #[w0_1] h K :=
  callM_of_wpA mixed (fn := Tryz.f131) Tryz.func131 (c := bodyOf Tryz.f131) rfl (of_decide_eq_true (by kernel_rfl)) (anOf []) 10 11 (by kernel_rfl) rfl [.tmp 2] (by kernel_rfl) (args := [w0_1]) (by rw [e131]; exact H)
def t132 (P : Program) (v0_1 : Value) (w1_1 : Value) (h : Heap) (K : Value -> Heap -> Prop) : Prop :=
 eop P (Instr.box 54 v0_1) h fun v2_1 h1 =>
 eop P (Instr.box 54 w1_1) h1 fun w3_1 h2 =>
 pop P (Instr.fieldAt 54 v2_1 1) fun s7 =>
 rop P (Instr.loadAt 3 s7) h2 fun s8 =>
 pop P (Instr.fieldAt 54 w3_1 1) fun s9 =>
 rop P (Instr.loadAt 3 s9) h2 fun s10 =>
 pop P (binE .neq 3 (.tmp 8) (.tmp 10) s8 s10) fun s11 =>
 guardM (asG s11 false) false (fun k_1 => pop P (Instr.fieldAt 54 v2_1 0) fun s13 =>
 k_1 s13 h2) h2 fun s13b h3 =>
 guardM (asG s11 false) false (fun k_2 => rop P (Instr.loadAt 33 s13b) h3 fun s14 =>
 k_2 s14 h3) h3 fun s14b h4 =>
 guardM (asG s11 false) false (fun k_3 => pop P (lenS 33 3 s14b) fun s15 =>
 k_3 s15 h4) h4 fun s15b h5 =>
 guardM (asG s11 false) false (fun k_4 => pop P (Instr.fieldAt 54 w3_1 0) fun s16 =>
 k_4 s16 h5) h5 fun s16b h6 =>
 guardM (asG s11 false) false (fun k_5 => rop P (Instr.loadAt 33 s16b) h6 fun s17 =>
 k_5 s17 h6) h6 fun s17b h7 =>
 guardM (asG s11 false) false (fun k_6 => pop P (lenS 33 3 s17b) fun s18 =>
 k_6 s18 h7) h7 fun s18b h8 =>
 guardM (asG s11 false) false (fun k_7 => pop P (binE .neq 3 (.tmp 15) (.tmp 18) s15b s18b) fun s19 =>
 k_7 s19 h8) h8 fun s19b h9 =>
 pop P (pickS s11 (Value.bool true) s19b) fun s20 =>
 condM s20
 (K (Value.bool false) h9)
 (pop P (Instr.fieldAt 54 v2_1 0) fun s21 =>
 rop P (Instr.loadAt 33 s21) h9 fun s22 =>
 pop P (lenS 33 3 s22) fun s23 =>
 ∃ (I1 : List Value -> Heap -> Prop) (μ_1 : List Value -> Heap -> Nat), I1 [(.int .i64 0)] h9 /\
 ∀ (junk1 : Nat -> Value) (s24 : Value) (h10 : Heap), I1 [s24] h10 ->
 pop P (binA .lss 3 s24 s23) fun s25 =>
 condM s25
 (pop P (Instr.indexAt 33 s22 s24) fun s27 =>
 rop P (Instr.loadAt 3 s27) h10 fun s28 =>
 pop P (Instr.fieldAt 54 w3_1 0) fun s30 =>
 rop P (Instr.loadAt 33 s30) h10 fun s31 =>
 pop P (Instr.indexAt 33 s31 s24) fun s33 =>
 rop P (Instr.loadAt 3 s33) h10 fun s34 =>
 pop P (binE .neq 3 (.tmp 29) (.tmp 34) s28 s34) fun s35 =>
 condM s35
 (K (Value.bool false) h10)
 (pop P (binA .add 3 s24 (.int .i64 1)) fun s36 =>
 I1 [s36] h10 /\ μ_1 [s36] h10 < μ_1 [s24] h10))
 (K (Value.bool true) h10))
theorem e132 (v0_1 : Value) (w1_1 : Value) (h : Heap) (K : Value -> Heap -> Prop) : wpA Tryz.prog 37 (anOf [(58, [24])]) (bodyOf Tryz.f132) 1 (fun A h => resA Tryz.prog A h K [.tmp 4]) (fun _ _ _ => False) (fun A h => resA Tryz.prog A h K [.tmp 4]) (aargs [v0_1, w1_1] 0) h = t132 Tryz.prog v0_1 w1_1 h K := by kernel_rfl
theorem c132 (v0_1 : Value) (w1_1 : Value) (h : Heap) (K : Value -> Heap -> Prop) (H : t132 Tryz.prog v0_1 w1_1 h K) : callM Tryz.prog 132 #[v0_1, w1_1] h K :=
  callM_of_wpA mixed (fn := Tryz.f132) Tryz.func132 (c := bodyOf Tryz.f132) rfl (of_decide_eq_true (by kernel_rfl)) (anOf [(58, [24])]) 35 37 (by kernel_rfl) rfl [.tmp 4] (by kernel_rfl) (args := [v0_1, w1_1]) (by rw [e132]; exact H)
def t133 (P : Program) (s10_1 : Value) (s21_1 : Value) (h : Heap) (K : Value -> Heap -> Prop) : Prop :=
 pop P (lenS 33 3 s10_1) fun s7 =>
 pop P (lenS 33 3 s21_1) fun s9 =>
 pop P (binE .neq 3 (.tmp 7) (.tmp 9) s7 s9) fun s10 =>
 condM s10
 (K (Value.bool false) h)
 (pop P (lenS 33 3 s10_1) fun s12 =>
 ∃ (I1 : List Value -> Heap -> Prop) (μ_1 : List Value -> Heap -> Nat), I1 [(.int .i64 0)] h /\
 ∀ (junk1 : Nat -> Value) (s13 : Value) (h1 : Heap), I1 [s13] h1 ->
 pop P (binA .lss 3 s13 s12) fun s14 =>
 condM s14
 (pop P (Instr.indexAt 33 s10_1 s13) fun s18 =>
 rop P (Instr.loadAt 3 s18) h1 fun s19 =>
 pop P (Instr.indexAt 33 s21_1 s13) fun s22 =>
 rop P (Instr.loadAt 3 s22) h1 fun s23 =>
 pop P (binE .neq 3 (.tmp 19) (.tmp 23) s19 s23) fun s24 =>
 condM s24
 (K (Value.bool false) h1)
 (pop P (binA .add 3 s13 (.int .i64 1)) fun s25 =>
 I1 [s25] h1 /\ μ_1 [s25] h1 < μ_1 [s13] h1))
 (K (Value.bool true) h1))
theorem e133 (s10_1 : Value) (s21_1 : Value) (h : Heap) (K : Value -> Heap -> Prop) : wpA Tryz.prog 26 (anOf [(58, [13])]) (bodyOf Tryz.f133) 1 (fun A h => resA Tryz.prog A h K [.tmp 4]) (fun _ _ _ => False) (fun A h => resA Tryz.prog A h K [.tmp 4]) (aargs [s10_1, s21_1] 0) h = t133 Tryz.prog s10_1 s21_1 h K := by kernel_rfl
theorem c133 (s10_1 : Value) (s21_1 : Value) (h : Heap) (K : Value -> Heap -> Prop) (H : t133 Tryz.prog s10_1 s21_1 h K) : callM Tryz.prog 133 #[s10_1, s21_1] h K :=
  callM_of_wpA mixed (fn := Tryz.f133) Tryz.func133 (c := bodyOf Tryz.f133) rfl (of_decide_eq_true (by kernel_rfl)) (anOf [(58, [13])]) 24 26 (by kernel_rfl) rfl [.tmp 4] (by kernel_rfl) (args := [s10_1, s21_1]) (by rw [e133]; exact H)
def t134 (P : Program) (q0_1 : Value) (s1 : Value) (h : Heap) (K : Value -> Heap -> Prop) : Prop :=
 rop P (Instr.loadAt 3 s1) h fun s5 =>
 pop P (binA .sub 3 s5 (.int .i64 1)) fun s6 =>
 callM P 72 #[q0_1, (.int .i64 0), s6] h fun s7 h1 =>
 pop P (Op.unary .not s7) fun s8 =>
 K s8 h1
theorem e134 (q0_1 : Value) (s1 : Value) (h : Heap) (K : Value -> Heap -> Prop) : wpA Tryz.prog 9 (anOf []) (bodyOf Tryz.f134) 1 (fun A h => resA Tryz.prog A h K [.tmp 3]) (fun _ _ _ => False) (fun A h => resA Tryz.prog A h K [.tmp 3]) (aargs [q0_1, s1] 0) h = t134 Tryz.prog q0_1 s1 h K := by kernel_rfl
theorem c134 (q0_1 : Value) (s1 : Value) (h : Heap) (K : Value -> Heap -> Prop) (H : t134 Tryz.prog q0_1 s1 h K) : callM Tryz.prog 134 #[q0_1, s1] h K :=
  callM_of_wpA mixed (fn := Tryz.f134) Tryz.func134 (c := bodyOf Tryz.f134) rfl (of_decide_eq_true (by kernel_rfl)) (anOf []) 7 9 (by kernel_rfl) rfl [.tmp 3] (by kernel_rfl) (args := [q0_1, s1]) (by rw [e134]; exact H)
def t135 (P : Program) (g0_1 : Value) (p1_1 : Value) (h : Heap) (K : Value -> Heap -> Prop) : Prop :=
 eop P (Instr.box 26 g0_1) h fun g2_1 h1 =>
 eop P (Instr.buildSlice 33 0 #[]) h1 fun s8 h2 =>
 rop P (Instr.loadAt 26 g2_1) h2 fun s9 =>
 callM P 148 #[s9, p1_1] h2 fun s11 h3 =>
 pop P (lenS 33 3 s11) fun s12 =>
 ∃ (I1 : List Value -> Heap -> Prop) (μ_1 : List Value -> Heap -> Nat), I1 [s8, (.int .i64 0)] h3 /\
 ∀ (junk1 : Nat -> Value) (out5_1 : Value) (s13 : Value) (h4 : Heap), I1 [out5_1, s13] h4 ->
 pop P (binA .lss 3 s13 s12) fun s14 =>
 condM s14
 (pop P (Instr.indexAt 33 s11 s13) fun s16 =>
 rop P (Instr.loadAt 3 s16) h4 fun s17 =>
 pop P (binA .geq 3 s17 (.int .i64 0)) fun s19 =>
 condM s19
 (eop P (Instr.buildSlice 33 1 #[(0, s13)]) h4 fun s22 h5 =>
 eop P (appS 33 33 33 out5_1 s22) h5 fun s23 h6 =>
 pop P (binA .add 3 s13 (.int .i64 1)) fun s24 =>
 I1 [s23, s24] h6 /\ μ_1 [s23, s24] h6 < μ_1 [out5_1, s13] h4)
 (pop P (binA .add 3 s13 (.int .i64 1)) fun s24b =>
 I1 [out5_1, s24b] h4 /\ μ_1 [out5_1, s24b] h4 < μ_1 [out5_1, s13] h4))
 (K out5_1 h4)
theorem e135 (g0_1 : Value) (p1_1 : Value) (h : Heap) (K : Value -> Heap -> Prop) : wpA Tryz.prog 26 (anOf [(58, [5, 13])]) (bodyOf Tryz.f135) 1 (fun A h => resA Tryz.prog A h K [.tmp 4]) (fun _ _ _ => False) (fun A h => resA Tryz.prog A h K [.tmp 4]) (aargs [g0_1, p1_1] 0) h = t135 Tryz.prog g0_1 p1_1 h K := by kernel_rfl
theorem c135 (g0_1 : Value) (p1_1 : Value) (h : Heap) (K : Value -> Heap -> Prop) (H : t135 Tryz.prog g0_1 p1_1 h K) : callM Tryz.prog 135 #[g0_1, p1_1] h K :=
  callM_of_wpA mixed (fn := Tryz.f135) Tryz.func135 (c := bodyOf Tryz.f135) rfl (of_decide_eq_true (by kernel_rfl)) (anOf [(58, [5, 13])]) 24 26 (by kernel_rfl) rfl [.tmp 4] (by kernel_rfl) (args := [g0_1, p1_1]) (by rw [e135]; exact H)
def t136 (P : Program) (g0_1 : Value) (p1_1 : Value) (h : Heap) (K : Value -> Heap -> Prop) : Prop :=
 eop P (Instr.box 26 g0_1) h fun g2_1 h1 =>
 pop P (Instr.fieldAt 26 g2_1 0) fun s8 =>
 rop P (Instr.loadAt 24 s8) h1 fun s9 =>
 callM P 97 #[s9] h1 fun s10 h2 =>
 pop P (lenS 33 3 s10) fun s11 =>
 ∃ (I1 : List Value -> Heap -> Prop) (μ_1 : List Value -> Heap -> Nat), I1 [(.int .i64 0), (.int .i64 0)] h2 /\
 ∀ (junk1 : Nat -> Value) (many5_1 : Value) (s12 : Value) (h3 : Heap), I1 [many5_1, s12] h3 ->
 pop P (binA .lss 3 s12 s11) fun s13 =>
 condM s13
 (pop P (Instr.indexAt 33 s10 s12) fun s14 =>
 rop P (Instr.loadAt 3 s14) h3 fun s15 =>
 pop P (binE .eql 3 (.tmp 16) (.tmp 17) s15 p1_1) fun s18 =>
 condM s18
 (pop P (binA .add 3 many5_1 (.int .i64 1)) fun s20 =>
 pop P (binA .add 3 s12 (.int .i64 1)) fun s21 =>
 I1 [s20, s21] h3 /\ μ_1 [s20, s21] h3 < μ_1 [many5_1, s12] h3)
 (pop P (binA .add 3 s12 (.int .i64 1)) fun s21b =>
 I1 [many5_1, s21b] h3 /\ μ_1 [many5_1, s21b] h3 < μ_1 [many5_1, s12] h3))
 (K many5_1 h3)
theorem e136 (g0_1 : Value) (p1_1 : Value) (h : Heap) (K : Value -> Heap -> Prop) : wpA Tryz.prog 23 (anOf [(58, [5, 12])]) (bodyOf Tryz.f136) 1 (fun A h => resA Tryz.prog A h K [.tmp 4]) (fun _ _ _ => False) (fun A h => resA Tryz.prog A h K [.tmp 4]) (aargs [g0_1, p1_1] 0) h = t136 Tryz.prog g0_1 p1_1 h K := by kernel_rfl
theorem c136 (g0_1 : Value) (p1_1 : Value) (h : Heap) (K : Value -> Heap -> Prop) (H : t136 Tryz.prog g0_1 p1_1 h K) : callM Tryz.prog 136 #[g0_1, p1_1] h K :=
  callM_of_wpA mixed (fn := Tryz.f136) Tryz.func136 (c := bodyOf Tryz.f136) rfl (of_decide_eq_true (by kernel_rfl)) (anOf [(58, [5, 12])]) 21 23 (by kernel_rfl) rfl [.tmp 4] (by kernel_rfl) (args := [g0_1, p1_1]) (by rw [e136]; exact H)
def t137 (P : Program) (s0_1 : Value) (n1_1 : Value) (h : Heap) (K : Value -> Heap -> Prop) : Prop :=
 ∃ J1 : List Value -> Heap -> Prop, (pop P (binA .lss 3 n1_1 (.int .i64 0)) fun s6 =>
 condM s6
 (pop P (Instr.makeInterface 9 (Value.string { data := #[99, 97, 110, 110, 111, 116, 32, 98, 101, 32, 110, 101, 103, 97, 116, 105, 118, 101] })) fun s7 =>
 False)
 (J1 [] h)) /\
 ∀ (junk1 : Nat -> Value) (h1 : Heap), J1 [] h1 ->
 pop P (Builtin.cap_ #[33] 3 #[s0_1]) fun s10 =>
 pop P (lenS 33 3 s0_1) fun s12 =>
 pop P (binA .sub 3 s10 s12) fun s13 =>
 pop P (binA .sub 3 n1_1 s13) fun s14 =>
 pop P (binA .gtr 3 s14 (.int .i64 0)) fun s16 =>
 condM s16
 (pop P (Builtin.cap_ #[33] 3 #[s0_1]) fun s19 =>
 pop P (Instr.sliceAt 33 s0_1 none (some s19) none) fun s20 =>
 eop P (appS 33 3 33 s20 s14) h1 fun s22 h2 =>
 pop P (lenS 33 3 s0_1) fun s24 =>
 pop P (Instr.sliceAt 33 s22 none (some s24) none) fun s25 =>
 K s25 h2)
 (K s0_1 h1)
theorem e137 (s0_1 : Value) (n1_1 : Value) (h : Heap) (K : Value -> Heap -> Prop) : wpA Tryz.prog 27 (anOf [(3, [])]) (bodyOf Tryz.f137) 1 (fun A h => resA Tryz.prog A h K [.tmp 4]) (fun _ _ _ => False) (fun A h => resA Tryz.prog A h K [.tmp 4]) (aargs [s0_1, n1_1] 0) h = t137 Tryz.prog s0_1 n1_1 h K := by kernel_rfl
theorem c137 (s0_1 : Value) (n1_1 : Value) (h : Heap) (K : Value -> Heap -> Prop) (H : t137 Tryz.prog s0_1 n1_1 h K) : callM Tryz.prog 137 #[s0_1, n1_1] h K :=
  callM_of_wpA mixed (fn := Tryz.f137) Tryz.func137 (c := bodyOf Tryz.f137) rfl (of_decide_eq_true (by kernel_rfl)) (anOf [(3, [])]) 25 27 (by kernel_rfl) rfl [.tmp 4] (by kernel_rfl) (args := [s0_1, n1_1]) (by rw [e137]; exact H)
def t138 (P : Program) (g0_1 : Value) (rotors1_1 : Value) (p2_1 : Value) (h : Heap) (K : Value -> Heap -> Prop) : Prop :=
 eop P (Instr.box 26 g0_1) h fun g3_1 h1 =>
 eop P (Instr.buildSlice 33 0 #[]) h1 fun s9 h2 =>
 ∃ (I1 : List Value -> Heap -> Prop) (μ_1 : List Value -> Heap -> Nat), I1 [p2_1, s9] h2 /\
 ∀ (junk1 : Nat -> Value) (p2_2 : Value) (met8_1 : Value) (h3 : Heap), I1 [p2_2, met8_1] h3 ->
 callM P 139 #[met8_1, p2_2] h3 fun s12 h4 =>
 pop P (Op.unary .not s12) fun s13 =>
 condM s13
 (eop P (Instr.buildSlice 33 1 #[(0, p2_2)]) h4 fun s16 h5 =>
 eop P (appS 33 33 33 met8_1 s16) h5 fun s17 h6 =>
 rop P (Instr.loadAt 26 g3_1) h6 fun s18 =>
 callM P 143 #[s18, rotors1_1, p2_2] h6 fun s21 h7 =>
 pop P (binA .lss 3 s21 (.int .i64 0)) fun s23 =>
 condM s23
 (K (.tuple #[(Value.slice none 0 0), (Value.bool false)]) h7)
 (I1 [s21, s17] h7 /\ μ_1 [s21, s17] h7 < μ_1 [p2_2, met8_1] h3))
 (callM P 115 #[met8_1, p2_2] h4 fun s27 h8 =>
 pop P (Instr.sliceAt 33 met8_1 (some s27) none none) fun s28 =>
 K (.tuple #[s28, (Value.bool true)]) h8)
theorem e138 (g0_1 : Value) (rotors1_1 : Value) (p2_1 : Value) (h : Heap) (K : Value -> Heap -> Prop) : wpA Tryz.prog 29 (anOf [(28, [2, 8])]) (bodyOf Tryz.f138) 1 (fun A h => resA Tryz.prog A h K [.tmp 6, .tmp 7]) (fun _ _ _ => False) (fun A h => resA Tryz.prog A h K [.tmp 6, .tmp 7]) (aargs [g0_1, rotors1_1, p2_1] 0) h = t138 Tryz.prog g0_1 rotors1_1 p2_1 h K := by kernel_rfl
theorem c138 (g0_1 : Value) (rotors1_1 : Value) (p2_1 : Value) (h : Heap) (K : Value -> Heap -> Prop) (H : t138 Tryz.prog g0_1 rotors1_1 p2_1 h K) : callM Tryz.prog 138 #[g0_1, rotors1_1, p2_1] h K :=
  callM_of_wpA mixed (fn := Tryz.f138) Tryz.func138 (c := bodyOf Tryz.f138) rfl (of_decide_eq_true (by kernel_rfl)) (anOf [(28, [2, 8])]) 26 29 (by kernel_rfl) rfl [.tmp 6, .tmp 7] (by kernel_rfl) (args := [g0_1, rotors1_1, p2_1]) (by rw [e138]; exact H)
def t139 (P : Program) (s0_1 : Value) (v1_1 : Value) (h : Heap) (K : Value -> Heap -> Prop) : Prop :=
 callM P 115 #[s0_1, v1_1] h fun s7 h1 =>
 pop P (binA .geq 3 s7 (.int .i64 0)) fun s8 =>
 K s8 h1
theorem e139 (s0_1 : Value) (v1_1 : Value) (h : Heap) (K : Value -> Heap -> Prop) : wpA Tryz.prog 9 (anOf []) (bodyOf Tryz.f139) 1 (fun A h => resA Tryz.prog A h K [.tmp 4]) (fun _ _ _ => False) (fun A h => resA Tryz.prog A h K [.tmp 4]) (aargs [s0_1, v1_1] 0) h = t139 Tryz.prog s0_1 v1_1 h K := by kernel_rfl
theorem c139 (s0_1 : Value) (v1_1 : Value) (h : Heap) (K : Value -> Heap -> Prop) (H : t139 Tryz.prog s0_1 v1_1 h K) : callM Tryz.prog 139 #[s0_1, v1_1] h K :=
  callM_of_wpA mixed (fn := Tryz.f139) Tryz.func139 (c := bodyOf Tryz.f139) rfl (of_decide_eq_true (by kernel_rfl)) (anOf []) 7 9 (by kernel_rfl) rfl [.tmp 4] (by kernel_rfl) (args := [s0_1, v1_1]) (by rw [e139]; exact H)
def t140 (P : Program) (g0_1 : Value) (p1_1 : Value) (h : Heap) (K : Value -> Heap -> Prop) : Prop :=
 eop P (Instr.box 26 g0_1) h fun g2_1 h1 =>
 rop P (Instr.loadAt 26 g2_1) h1 fun s8 =>
 callM P 149 #[s8, p1_1] h1 fun s10 h2 =>
 pop P (lenS 33 3 s10) fun s11 =>
 ∃ (I1 : List Value -> Heap -> Prop) (μ_1 : List Value -> Heap -> Nat), I1 [(Value.slice none 0 0), (.int .i64 0)] h2 /\
 ∀ (junk1 : Nat -> Value) (out5_1 : Value) (s12 : Value) (h3 : Heap), I1 [out5_1, s12] h3 ->
 pop P (binA .lss 3 s12 s11) fun s13 =>
 condM s13
 (pop P (Instr.indexAt 33 s10 s12) fun s15 =>
 rop P (Instr.loadAt 3 s15) h3 fun s16 =>
 pop P (binA .geq 3 s16 (.int .i64 0)) fun s18 =>
 condM s18
 (eop P (Instr.buildSlice 33 1 #[(0, s12)]) h3 fun s21 h4 =>
 eop P (appS 33 33 33 out5_1 s21) h4 fun s22 h5 =>
 pop P (binA .add 3 s12 (.int .i64 1)) fun s23 =>
 I1 [s22, s23] h5 /\ μ_1 [s22, s23] h5 < μ_1 [out5_1, s12] h3)
 (pop P (binA .add 3 s12 (.int .i64 1)) fun s23b =>
 I1 [out5_1, s23b] h3 /\ μ_1 [out5_1, s23b] h3 < μ_1 [out5_1, s12] h3))
 (K out5_1 h3)
theorem e140 (g0_1 : Value) (p1_1 : Value) (h : Heap) (K : Value -> Heap -> Prop) : wpA Tryz.prog 25 (anOf [(58, [5, 12])]) (bodyOf Tryz.f140) 1 (fun A h => resA Tryz.prog A h K [.tmp 4]) (fun _ _ _ => False) (fun A h => resA Tryz.prog A h K [.tmp 4]) (aargs [g0_1, p1_1] 0) h = t140 Tryz.prog g0_1 p1_1 h K := by kernel_rfl
theorem c140 (g0_1 : Value) (p1_1 : Value) (h : Heap) (K : Value -> Heap -> Prop) (H : t140 Tryz.prog g0_1 p1_1 h K) : callM Tryz.prog 140 #[g0_1, p1_1] h K :=
  callM_of_wpA mixed (fn := Tryz.f140) Tryz.func140 (c := bodyOf Tryz.f140) rfl (of_decide_eq_true (by kernel_rfl)) (anOf [(58, [5, 12])]) 23 25 (by kernel_rfl) rfl [.tmp 4] (by kernel_rfl) (args := [g0_1, p1_1]) (by rw [e140]; exact H)
def t141 (P : Program) (g0_1 : Value) (p1_1 : Value) (h : Heap) (K : Value -> Heap -> Prop) : Prop :=
 eop P (Instr.box 26 g0_1) h fun g2_1 h1 =>
 pop P (Instr.fieldAt 26 g2_1 0) fun s10 =>
 rop P (Instr.loadAt 24 s10) h1 fun s11 =>
 pop P (lenS 24 3 s11) fun s12 =>
 ∃ (I1 : List Value -> Heap -> Prop) (μ_1 : List Value -> Heap -> Nat), I1 [(.int .i64 0), (.int .i64 0)] h1 /\
 ∀ (junk1 : Nat -> Value) (n5_1 : Value) (s13 : Value) (h2 : Heap), I1 [n5_1, s13] h2 ->
 pop P (binA .lss 3 s13 s12) fun s14 =>
 condM s14
 (pop P (Instr.indexAt 24 s11 s13) fun s15 =>
 rop P (Instr.loadAt 33 s15) h2 fun s16 =>
 pop P (lenS 33 3 s16) fun s18 =>
 ∃ (I2 : List Value -> Heap -> Prop) (μ_2 : List Value -> Heap -> Nat), I2 [n5_1, (.int .i64 0)] h2 /\
 ∀ (junk2 : Nat -> Value) (n5_2 : Value) (s19 : Value) (h3 : Heap), I2 [n5_2, s19] h3 ->
 pop P (binA .lss 3 s19 s18) fun s20 =>
 condM s20
 (pop P (Instr.indexAt 33 s16 s19) fun s21 =>
 rop P (Instr.loadAt 3 s21) h3 fun s22 =>
 pop P (binE .eql 3 (.tmp 23) (.tmp 24) s22 p1_1) fun s25 =>
 condM s25
 (pop P (binA .add 3 n5_2 (.int .i64 1)) fun s27 =>
 pop P (binA .add 3 s19 (.int .i64 1)) fun s28 =>
 I2 [s27, s28] h3 /\ μ_2 [s27, s28] h3 < μ_2 [n5_2, s19] h3)
 (pop P (binA .add 3 s19 (.int .i64 1)) fun s28b =>
 I2 [n5_2, s28b] h3 /\ μ_2 [n5_2, s28b] h3 < μ_2 [n5_2, s19] h3))
 (pop P (binA .add 3 s13 (.int .i64 1)) fun s29 =>
 I1 [n5_2, s29] h3 /\ μ_1 [n5_2, s29] h3 < μ_1 [n5_1, s13] h2))
 (K n5_1 h2)
theorem e141 (g0_1 : Value) (p1_1 : Value) (h : Heap) (K : Value -> Heap -> Prop) : wpA Tryz.prog 31 (anOf [(58, [5, 13]), (14950, [5, 19])]) (bodyOf Tryz.f141) 1 (fun A h => resA Tryz.prog A h K [.tmp 4]) (fun _ _ _ => False) (fun A h => resA Tryz.prog A h K [.tmp 4]) (aargs [g0_1, p1_1] 0) h = t141 Tryz.prog g0_1 p1_1 h K := by kernel_rfl
theorem c141 (g0_1 : Value) (p1_1 : Value) (h : Heap) (K : Value -> Heap -> Prop) (H : t141 Tryz.prog g0_1 p1_1 h K) : callM Tryz.prog 141 #[g0_1, p1_1] h K :=
  callM_of_wpA mixed (fn := Tryz.f141) Tryz.func141 (c := bodyOf Tryz.f141) rfl (of_decide_eq_true (by kernel_rfl)) (anOf [(58, [5, 13]), (14950, [5, 19])]) 29 31 (by kernel_rfl) rfl [.tmp 4] (by kernel_rfl) (args := [g0_1, p1_1]) (by rw [e141]; exact H)
def t142 (P : Program) (s0_1 : Value) (v1_1 : Value) (h : Heap) (K : Value -> Heap -> Prop) : Prop :=
 pop P (lenS 127 3 s0_1) fun s7 =>
 ∃ (I1 : List Value -> Heap -> Prop) (μ_1 : List Value -> Heap -> Nat), I1 [(.int .i64 0)] h /\
 ∀ (junk1 : Nat -> Value) (s8 : Value) (h1 : Heap), I1 [s8] h1 ->
 pop P (binA .lss 3 s8 s7) fun s9 =>
 condM s9
 (pop P (Instr.indexAt 127 s0_1 s8) fun s14 =>
 rop P (Instr.loadAt 4 s14) h1 fun s15 =>
 pop P (binE .eql 4 (.tmp 11) (.tmp 15) v1_1 s15) fun s16 =>
 condM s16
 (K s8 h1)
 (pop P (binA .add 3 s8 (.int .i64 1)) fun s18 =>
 I1 [s18] h1 /\ μ_1 [s18] h1 < μ_1 [s8] h1))
 (K (.int .i64 (-1)) h1)
theorem e142 (s0_1 : Value) (v1_1 : Value) (h : Heap) (K : Value -> Heap -> Prop) : wpA Tryz.prog 19 (anOf [(26, [8])]) (bodyOf Tryz.f142) 1 (fun A h => resA Tryz.prog A h K [.tmp 4]) (fun _ _ _ => False) (fun A h => resA Tryz.prog A h K [.tmp 4]) (aargs [s0_1, v1_1] 0) h = t142 Tryz.prog s0_1 v1_1 h K := by kernel_rfl
theorem c142 (s0_1 : Value) (v1_1 : Value) (h : Heap) (K : Value -> Heap -> Prop) (H : t142 Tryz.prog s0_1 v1_1 h K) : callM Tryz.prog 142 #[s0_1, v1_1] h K :=
  callM_of_wpA mixed (fn := Tryz.f142) Tryz.func142 (c := bodyOf Tryz.f142) rfl (of_decide_eq_true (by kernel_rfl)) (anOf [(26, [8])]) 17 19 (by kernel_rfl) rfl [.tmp 4] (by kernel_rfl) (args := [s0_1, v1_1]) (by rw [e142]; exact H)
def t143 (P : Program) (g0_1 : Value) (rotors1_1 : Value) (p2_1 : Value) (h : Heap) (K : Value -> Heap -> Prop) : Prop :=
 eop P (Instr.box 26 g0_1) h fun g3_1 h1 =>
 pop P (Instr.fieldAt 26 g3_1 0) fun s7 =>
 rop P (Instr.loadAt 24 s7) h1 fun s8 =>
 pop P (Instr.indexAt 24 s8 p2_1) fun s10 =>
 rop P (Instr.loadAt 33 s10) h1 fun s11 =>
 pop P (lenS 33 3 s11) fun s12 =>
 pop P (binE .eql 3 (.tmp 12) (.const (.int .i64 0)) s12 (.int .i64 0)) fun s13 =>
 condM s13
 (K (.int .i64 (-1)) h1)
 (pop P (Instr.fieldAt 26 g3_1 0) fun s14 =>
 rop P (Instr.loadAt 24 s14) h1 fun s15 =>
 pop P (Instr.indexAt 24 s15 p2_1) fun s17 =>
 rop P (Instr.loadAt 33 s17) h1 fun s18 =>
 pop P (Instr.indexAt 33 rotors1_1 p2_1) fun s21 =>
 rop P (Instr.loadAt 3 s21) h1 fun s22 =>
 pop P (Instr.indexAt 33 s18 s22) fun s23 =>
 rop P (Instr.loadAt 3 s23) h1 fun s24 =>
 K s24 h1)
theorem e143 (g0_1 : Value) (rotors1_1 : Value) (p2_1 : Value) (h : Heap) (K : Value -> Heap -> Prop) : wpA Tryz.prog 25 (anOf []) (bodyOf Tryz.f143) 1 (fun A h => resA Tryz.prog A h K [.tmp 6]) (fun _ _ _ => False) (fun A h => resA Tryz.prog A h K [.tmp 6]) (aargs [g0_1, rotors1_1, p2_1] 0) h = t143 Tryz.prog g0_1 rotors1_1 p2_1 h K := by kernel_rfl
theorem c143 (g0_1 : Value) (rotors1_1 : Value) (p2_1 : Value) (h : Heap) (K : Value -> Heap -> Prop) (H : t143 Tryz.prog g0_1 rotors1_1 p2_1 h K) : callM Tryz.prog 143 #[g0_1, rotors1_1, p2_1] h K :=
  callM_of_wpA mixed (fn := Tryz.f143) Tryz.func143 (c := bodyOf Tryz.f143) rfl (of_decide_eq_true (by kernel_rfl)) (anOf []) 22 25 (by kernel_rfl) rfl [.tmp 6] (by kernel_rfl) (args := [g0_1, rotors1_1, p2_1]) (by rw [e143]; exact H)
def t144 (P : Program) (c0_1 : Value) (most1_1 : Value) (h : Heap) (K : Value -> Heap -> Prop) : Prop :=
 eop P (Instr.alloc 26 true (.tuple #[])) h fun s4 h1 =>
 callM P 70 #[c0_1, most1_1] h1 fun s13 h2 =>
 pop P (binA .add 3 (.int .i64 1) s13) fun s14 =>
 callM P 68 #[c0_1, (.int .i64 4)] h2 fun s16 h3 =>
 condM s16
 (callM P 68 #[c0_1, (.int .i64 2)] h3 fun s19 h4 =>
 callM P 129 #[s14, s19] h4 fun s20 h5 =>
 uop P (Instr.storeAt 26 s4 s20) h5 fun q1 h6 =>
 rop P (Instr.loadAt 26 s4) h6 fun r_1 =>
 K r_1 h6)
 (pop P (Instr.build 26 #[]) fun s21 =>
 eop P (Instr.alloc 26 true (.tuple #[])) h3 fun g6_1 h7 =>
 uop P (Instr.storeAt 26 g6_1 s21) h7 fun q2 h8 =>
 ∃ (I1 : List Value -> Heap -> Prop) (μ_1 : List Value -> Heap -> Nat), I1 [(.int .i64 0)] h8 /\
 ∀ (junk1 : Nat -> Value) (p7_1 : Value) (h9 : Heap), I1 [p7_1] h9 ->
 pop P (binA .lss 3 p7_1 s14) fun s24 =>
 condM s24
 (callM P 70 #[c0_1, (.int .i64 3)] h9 fun s28 h10 =>
 pop P (binA .add 3 (.int .i64 1) s28) fun s29 =>
 ∃ (I2 : List Value -> Heap -> Prop) (μ_2 : List Value -> Heap -> Nat), I2 [(Value.slice none 0 0), s29] h10 /\
 ∀ (junk2 : Nat -> Value) (list8_1 : Value) (k9_1 : Value) (h11 : Heap), I2 [list8_1, k9_1] h11 ->
 pop P (binA .gtr 3 k9_1 (.int .i64 0)) fun s31 =>
 condM s31
 (callM P 70 #[c0_1, s14] h11 fun s37 h12 =>
 eop P (Instr.buildSlice 33 1 #[(0, s37)]) h12 fun s38 h13 =>
 eop P (appS 33 33 33 list8_1 s38) h13 fun s39 h14 =>
 pop P (binA .sub 3 k9_1 (.int .i64 1)) fun s33 =>
 I2 [s39, s33] h14 /\ μ_2 [s39, s33] h14 < μ_2 [list8_1, k9_1] h11)
 (∃ J1 : List Value -> Heap -> Prop, (callM P 68 #[c0_1, (.int .i64 8)] h11 fun s41 h15 =>
 condM s41
 (J1 [(Value.slice none 0 0)] h15)
 (J1 [list8_1] h15)) /\
 ∀ (junk3 : Nat -> Value) (list8_2 : Value) (h16 : Heap), J1 [list8_2] h16 ->
 pop P (Instr.fieldAt 26 g6_1 0) fun s42 =>
 rop P (Instr.loadAt 24 s42) h16 fun s43 =>
 eop P (Instr.buildSlice 24 1 #[(0, list8_2)]) h16 fun s45 h17 =>
 eop P (appS 24 24 24 s43 s45) h17 fun s46 h18 =>
 pop P (Instr.fieldAt 26 g6_1 0) fun s47 =>
 uop P (Instr.storeAt 24 s47 s46) h18 fun q3 h19 =>
 pop P (binA .add 3 p7_1 (.int .i64 1)) fun s26 =>
 I1 [s26] h19 /\ μ_1 [s26] h19 < μ_1 [p7_1] h9))
 (callM P 68 #[c0_1, (.int .i64 2)] h9 fun s49 h20 =>
 condM s49
 (pop P (Instr.fieldAt 26 g6_1 0) fun s50 =>
 rop P (Instr.loadAt 24 s50) h20 fun s51 =>
 pop P (lenS 24 3 s51) fun s52 =>
 ∃ (I3 : List Value -> Heap -> Prop) (μ_3 : List Value -> Heap -> Nat), I3 [(.int .i64 0)] h20 /\
 ∀ (junk4 : Nat -> Value) (s53 : Value) (h21 : Heap), I3 [s53] h21 ->
 pop P (binA .lss 3 s53 s52) fun s54 =>
 condM s54
 (pop P (Instr.fieldAt 26 g6_1 0) fun s56 =>
 rop P (Instr.loadAt 24 s56) h21 fun s57 =>
 pop P (Instr.fieldAt 26 g6_1 0) fun s59 =>
 rop P (Instr.loadAt 24 s59) h21 fun s60 =>
 pop P (Instr.indexAt 24 s60 s53) fun s62 =>
 rop P (Instr.loadAt 33 s62) h21 fun s63 =>
 pop P (binA .add 3 s53 (.int .i64 1)) fun s65 =>
 pop P (binA .rem 3 s65 s14) fun s67 =>
 eop P (Instr.buildSlice 33 1 #[(0, s67)]) h21 fun s68 h22 =>
 (∀ w : World, w.heap = h22 -> (Instr.loadAt 33 s62).run P w = .ok s63 w) /\
 (∀ w : World, w.heap = h22 -> (Instr.loadAt 24 s59).run P w = .ok s60 w) /\
 (∀ w : World, w.heap = h22 -> (Instr.loadAt 24 s56).run P w = .ok s57 w) /\
 eop P (appS 33 33 33 s63 s68) h22 fun s69 h23 =>
 (∀ w : World, w.heap = h23 -> (Instr.loadAt 24 s59).run P w = .ok s60 w) /\
 (∀ w : World, w.heap = h23 -> (Instr.loadAt 24 s56).run P w = .ok s57 w) /\
 pop P (Instr.indexAt 24 s57 s53) fun s70 =>
 uop P (Instr.storeAt 33 s70 s69) h23 fun q4 h24 =>
 pop P (binA .add 3 s53 (.int .i64 1)) fun s71 =>
 I3 [s71] h24 /\ μ_3 [s71] h24 < μ_3 [s53] h21)
 (rop P (Instr.loadAt 26 g6_1) h21 fun s72 =>
 uop P (Instr.storeAt 26 s4 s72) h21 fun q5 h25 =>
 rop P (Instr.loadAt 26 s4) h25 fun r_2 =>
 K r_2 h25))
 (rop P (Instr.loadAt 26 g6_1) h20 fun s72b =>
 uop P (Instr.storeAt 26 s4 s72b) h20 fun q6 h26 =>
 rop P (Instr.loadAt 26 s4) h26 fun r_3 =>
 K r_3 h26)))
theorem e144 (c0_1 : Value) (most1_1 : Value) (h : Heap) (K : Value -> Heap -> Prop) : wpA Tryz.prog 73 (anOf [(250, [7]), (2026, [53]), (16019, [8]), (64074, [8, 9])]) (bodyOf Tryz.f144) 1 (fun A h => resA Tryz.prog A h K [.cell 4 26]) (fun _ _ _ => False) (fun A h => resA Tryz.prog A h K [.cell 4 26]) (aargs [c0_1, most1_1] 0) h = t144 Tryz.prog c0_1 most1_1 h K := by kernel_rfl
theorem c144 (c0_1 : Value) (most1_1 : Value) (h : Heap) (K : Value -> Heap -> Prop) (H : t144 Tryz.prog c0_1 most1_1 h K) : callM Tryz.prog 144 #[c0_1, most1_1] h K :=
  callM_of_wpA mixed (fn := Tryz.f144) Tryz.func144 (c := bodyOf Tryz.f144) rfl (of_decide_eq_true (by kernel_rfl)) (anOf [(250, [7]), (2026, [53]), (16019, [8]), (64074, [8, 9])]) 71 73 (by kernel_rfl) rfl [.cell 4 26] (by kernel_rfl) (args := [c0_1, most1_1]) (by rw [e144]; exact H)
def t148 (P : Program) (g0_1 : Value) (p1_1 : Value) (h : Heap) (K : Value -> Heap -> Prop) : Prop :=
 eop P (Instr.box 26 g0_1) h fun g2_1 h1 =>
 eop P (Instr.buildSlice 33 1 #[(0, (.int .i64 (-1)))]) h1 fun s9 h2 =>
 pop P (Instr.fieldAt 26 g2_1 0) fun s10 =>
 rop P (Instr.loadAt 24 s10) h2 fun s11 =>
 pop P (lenS 24 3 s11) fun s12 =>
 callM P 153 #[s9, s12] h2 fun s13 h3 =>
 pop P (Instr.indexAt 33 s13 p1_1) fun s16 =>
 uop P (Instr.storeAt 3 s16 (.int .i64 0)) h3 fun q1 h4 =>
 eop P (Instr.buildSlice 33 1 #[(0, p1_1)]) h4 fun s18 h5 =>
 ∃ (I1 : List Value -> Heap -> Prop) (μ_1 : List Value -> Heap -> Nat), I1 [s18] h5 /\
 ∀ (junk1 : Nat -> Value) (list6_1 : Value) (h6 : Heap), I1 [list6_1] h6 ->
 pop P (lenS 33 3 list6_1) fun s20 =>
 pop P (binA .gtr 3 s20 (.int .i64 0)) fun s21 =>
 condM s21
 (pop P (Instr.fieldAt 26 g2_1 0) fun s24 =>
 rop P (Instr.loadAt 24 s24) h6 fun s25 =>
 pop P (Instr.indexAt 33 list6_1 (.int .i64 0)) fun s27 =>
 rop P (Instr.loadAt 3 s27) h6 fun s28 =>
 pop P (Instr.indexAt 24 s25 s28) fun s29 =>
 rop P (Instr.loadAt 33 s29) h6 fun s30 =>
 pop P (lenS 33 3 s30) fun s31 =>
 ∃ (I2 : List Value -> Heap -> Prop) (μ_2 : List Value -> Heap -> Nat), I2 [list6_1, (.int .i64 0)] h6 /\
 ∀ (junk2 : Nat -> Value) (list6_2 : Value) (s32 : Value) (h7 : Heap), I2 [list6_2, s32] h7 ->
 pop P (binA .lss 3 s32 s31) fun s33 =>
 condM s33
 (pop P (Instr.indexAt 33 s30 s32) fun s34 =>
 rop P (Instr.loadAt 3 s34) h7 fun s35 =>
 pop P (Instr.indexAt 33 s13 s35) fun s38 =>
 rop P (Instr.loadAt 3 s38) h7 fun s39 =>
 pop P (binA .lss 3 s39 (.int .i64 0)) fun s40 =>
 condM s40
 (pop P (Instr.indexAt 33 list6_2 (.int .i64 0)) fun s45 =>
 rop P (Instr.loadAt 3 s45) h7 fun s46 =>
 pop P (Instr.indexAt 33 s13 s46) fun s47 =>
 rop P (Instr.loadAt 3 s47) h7 fun s48 =>
 pop P (binA .add 3 s48 (.int .i64 1)) fun s49 =>
 pop P (Instr.indexAt 33 s13 s35) fun s50 =>
 uop P (Instr.storeAt 3 s50 s49) h7 fun q2 h8 =>
 eop P (Instr.buildSlice 33 1 #[(0, s35)]) h8 fun s53 h9 =>
 eop P (appS 33 33 33 list6_2 s53) h9 fun s54 h10 =>
 pop P (binA .add 3 s32 (.int .i64 1)) fun s55 =>
 I2 [s54, s55] h10 /\ μ_2 [s54, s55] h10 < μ_2 [list6_2, s32] h7)
 (pop P (binA .add 3 s32 (.int .i64 1)) fun s55b =>
 I2 [list6_2, s55b] h7 /\ μ_2 [list6_2, s55b] h7 < μ_2 [list6_2, s32] h7))
 (pop P (Instr.sliceAt 33 list6_2 (some (.int .i64 1)) none none) fun s23 =>
 I1 [s23] h7 /\ μ_1 [s23] h7 < μ_1 [list6_1] h6))
 (K s13 h6)
theorem e148 (g0_1 : Value) (p1_1 : Value) (h : Heap) (K : Value -> Heap -> Prop) : wpA Tryz.prog 57 (anOf [(122, [6]), (7826, [6, 32])]) (bodyOf Tryz.f148) 1 (fun A h => resA Tryz.prog A h K [.tmp 4]) (fun _ _ _ => False) (fun A h => resA Tryz.prog A h K [.tmp 4]) (aargs [g0_1, p1_1] 0) h = t148 Tryz.prog g0_1 p1_1 h K := by kernel_rfl
theorem c148 (g0_1 : Value) (p1_1 : Value) (h : Heap) (K : Value -> Heap -> Prop) (H : t148 Tryz.prog g0_1 p1_1 h K) : callM Tryz.prog 148 #[g0_1, p1_1] h K :=
  callM_of_wpA mixed (fn := Tryz.f148) Tryz.func148 (c := bodyOf Tryz.f148) rfl (of_decide_eq_true (by kernel_rfl)) (anOf [(122, [6]), (7826, [6, 32])]) 55 57 (by kernel_rfl) rfl [.tmp 4] (by kernel_rfl) (args := [g0_1, p1_1]) (by rw [e148]; exact H)
def t149 (P : Program) (g0_1 : Value) (p1_1 : Value) (h : Heap) (K : Value -> Heap -> Prop) : Prop :=
 eop P (Instr.box 26 g0_1) h fun g2_1 h1 =>
 pop P (Instr.fieldAt 26 g2_1 0) fun s11 =>
 rop P (Instr.loadAt 24 s11) h1 fun s12 =>
 pop P (lenS 24 3 s12) fun s13 =>
 eop P (Instr.makeSlice 33 s13 s13) h1 fun s14 h2 =>
 pop P (lenS 33 3 s14) fun s16 =>
 ∃ (I1 : List Value -> Heap -> Prop) (μ_1 : List Value -> Heap -> Nat), I1 [(.int .i64 0)] h2 /\
 ∀ (junk1 : Nat -> Value) (s17 : Value) (h3 : Heap), I1 [s17] h3 ->
 pop P (binA .lss 3 s17 s16) fun s18 =>
 condM s18
 (pop P (Instr.indexAt 33 s14 s17) fun s22 =>
 uop P (Instr.storeAt 3 s22 (.int .i64 (-1))) h3 fun q1 h4 =>
 pop P (binA .add 3 s17 (.int .i64 1)) fun s23 =>
 I1 [s23] h4 /\ μ_1 [s23] h4 < μ_1 [s17] h3)
 (pop P (Instr.indexAt 33 s14 p1_1) fun s26 =>
 uop P (Instr.storeAt 3 s26 (.int .i64 0)) h3 fun q2 h5 =>
 eop P (Instr.buildSlice 33 1 #[(0, p1_1)]) h5 fun s28 h6 =>
 ∃ (I2 : List Value -> Heap -> Prop) (μ_2 : List Value -> Heap -> Nat), I2 [s28, (.int .i64 0)] h6 /\
 ∀ (junk2 : Nat -> Value) (queue7_1 : Value) (k8_1 : Value) (h7 : Heap), I2 [queue7_1, k8_1] h7 ->
 pop P (lenS 33 3 queue7_1) fun s31 =>
 pop P (binA .lss 3 k8_1 s31) fun s32 =>
 condM s32
 (pop P (Instr.fieldAt 26 g2_1 0) fun s35 =>
 rop P (Instr.loadAt 24 s35) h7 fun s36 =>
 pop P (Instr.indexAt 33 queue7_1 k8_1) fun s39 =>
 rop P (Instr.loadAt 3 s39) h7 fun s40 =>
 pop P (Instr.indexAt 24 s36 s40) fun s41 =>
 rop P (Instr.loadAt 33 s41) h7 fun s42 =>
 pop P (lenS 33 3 s42) fun s43 =>
 ∃ (I3 : List Value -> Heap -> Prop) (μ_3 : List Value -> Heap -> Nat), I3 [queue7_1, (.int .i64 0)] h7 /\
 ∀ (junk3 : Nat -> Value) (queue7_2 : Value) (s44 : Value) (h8 : Heap), I3 [queue7_2, s44] h8 ->
 pop P (binA .lss 3 s44 s43) fun s45 =>
 condM s45
 (pop P (Instr.indexAt 33 s42 s44) fun s46 =>
 rop P (Instr.loadAt 3 s46) h8 fun s47 =>
 pop P (Instr.indexAt 33 s14 s47) fun s50 =>
 rop P (Instr.loadAt 3 s50) h8 fun s51 =>
 pop P (binA .lss 3 s51 (.int .i64 0)) fun s52 =>
 condM s52
 (pop P (Instr.indexAt 33 queue7_2 k8_1) fun s58 =>
 rop P (Instr.loadAt 3 s58) h8 fun s59 =>
 pop P (Instr.indexAt 33 s14 s59) fun s60 =>
 rop P (Instr.loadAt 3 s60) h8 fun s61 =>
 pop P (binA .add 3 s61 (.int .i64 1)) fun s62 =>
 pop P (Instr.indexAt 33 s14 s47) fun s63 =>
 uop P (Instr.storeAt 3 s63 s62) h8 fun q3 h9 =>
 eop P (Instr.buildSlice 33 1 #[(0, s47)]) h9 fun s66 h10 =>
 eop P (appS 33 33 33 queue7_2 s66) h10 fun s67 h11 =>
 pop P (binA .add 3 s44 (.int .i64 1)) fun s68 =>
 I3 [s67, s68] h11 /\ μ_3 [s67, s68] h11 < μ_3 [queue7_2, s44] h8)
 (pop P (binA .add 3 s44 (.int .i64 1)) fun s68b =>
 I3 [queue7_2, s68b] h8 /\ μ_3 [queue7_2, s68b] h8 < μ_3 [queue7_2, s44] h8))
 (pop P (binA .add 3 k8_1 (.int .i64 1)) fun s34 =>
 I2 [queue7_2, s34] h8 /\ μ_2 [queue7_2, s34] h8 < μ_2 [queue7_1, k8_1] h7))
 (K s14 h7))
theorem e149 (g0_1 : Value) (p1_1 : Value) (h : Heap) (K : Value -> Heap -> Prop) : wpA Tryz.prog 70 (anOf [(58, [17]), (506, [7, 8]), (32402, [7, 44])]) (bodyOf Tryz.f149) 1 (fun A h => resA Tryz.prog A h K [.tmp 4]) (fun _ _ _ => False) (fun A h => resA Tryz.prog A h K [.tmp 4]) (aargs [g0_1, p1_1] 0) h = t149 Tryz.prog g0_1 p1_1 h K := by kernel_rfl
theorem c149 (g0_1 : Value) (p1_1 : Value) (h : Heap) (K : Value -> Heap -> Prop) (H : t149 Tryz.prog g0_1 p1_1 h K) : callM Tryz.prog 149 #[g0_1, p1_1] h K :=
  callM_of_wpA mixed (fn := Tryz.f149) Tryz.func149 (c := bodyOf Tryz.f149) rfl (of_decide_eq_true (by kernel_rfl)) (anOf [(58, [17]), (506, [7, 8]), (32402, [7, 44])]) 68 70 (by kernel_rfl) rfl [.tmp 4] (by kernel_rfl) (args := [g0_1, p1_1]) (by rw [e149]; exact H)
def t153 (P : Program) (x0_1 : Value) (count1_1 : Value) (h : Heap) (K : Value -> Heap -> Prop) : Prop :=
 ∃ J1 : List Value -> Heap -> Prop, (pop P (binA .lss 3 count1_1 (.int .i64 0)) fun s10 =>
 condM s10
 (pop P (Instr.makeInterface 9 (Value.string { data := #[99, 97, 110, 110, 111, 116, 32, 98, 101, 32, 110, 101, 103, 97, 116, 105, 118, 101] })) fun s11 =>
 False)
 (J1 [] h)) /\
 ∀ (junk1 : Nat -> Value) (h1 : Heap), J1 [] h1 ->
 pop P (lenS 33 3 x0_1) fun s14 =>
 rop P (convert 3 154 s14) h1 fun s15 =>
 rop P (convert 3 154 count1_1) h1 fun s17 =>
 callM P 158 #[s15, s17] h1 fun s18 h2 =>
 pop P (Instr.extract s18 0) fun s19 =>
 pop P (Instr.extract s18 1) fun s20 =>
 ∃ J2 : List Value -> Heap -> Prop, (pop P (binA .gtr 154 s19 (Value.int IntKind.u64 0)) fun s22 =>
 guardM (asG s22 false) false (fun k_1 => k_1 s20 h2) h2 fun s24 h3 =>
 guardM (asG s22 false) false (fun k_2 => pop P (binA .gtr 154 s24 (Value.int IntKind.u64 9223372036854775807)) fun s25 =>
 k_2 s25 h3) h3 fun s25b h4 =>
 pop P (pickS s22 (Value.bool true) s25b) fun s26 =>
 condM s26
 (pop P (Instr.makeInterface 9 (Value.string { data := #[116, 104, 101, 32, 114, 101, 115, 117, 108, 116, 32, 111, 102, 32, 40, 108, 101, 110, 40, 120, 41, 32, 42, 32, 99, 111, 117, 110, 116, 41, 32, 111, 118, 101, 114, 102, 108, 111, 119, 115] })) fun s27 =>
 False)
 (J2 [] h4)) /\
 ∀ (junk2 : Nat -> Value) (h5 : Heap), J2 [] h5 ->
 rop P (convert 154 3 s20) h5 fun s29 =>
 eop P (Instr.makeSlice 33 s29 s29) h5 fun s30 h6 =>
 eop P (Builtin.copy_ #[33, 33] 3 #[s30, x0_1]) h6 fun s33 h7 =>
 ∃ (I1 : List Value -> Heap -> Prop) (μ_1 : List Value -> Heap -> Nat), I1 [s33] h7 /\
 ∀ (junk3 : Nat -> Value) (n8_1 : Value) (h8 : Heap), I1 [n8_1] h8 ->
 pop P (lenS 33 3 s30) fun s36 =>
 pop P (binA .lss 3 n8_1 s36) fun s37 =>
 condM s37
 (pop P (Instr.sliceAt 33 s30 (some n8_1) none none) fun s41 =>
 pop P (Instr.sliceAt 33 s30 none (some n8_1) none) fun s44 =>
 eop P (Builtin.copy_ #[33, 33] 3 #[s41, s44]) h8 fun s45 h9 =>
 pop P (binA .add 3 n8_1 s45) fun s46 =>
 I1 [s46] h9 /\ μ_1 [s46] h9 < μ_1 [n8_1] h8)
 (K s30 h8)
theorem e153 (x0_1 : Value) (count1_1 : Value) (h : Heap) (K : Value -> Heap -> Prop) : wpA Tryz.prog 48 (anOf [(3, []), (15, []), (508, [8])]) (bodyOf Tryz.f153) 1 (fun A h => resA Tryz.prog A h K [.tmp 4]) (fun _ _ _ => False) (fun A h => resA Tryz.prog A h K [.tmp 4]) (aargs [x0_1, count1_1] 0) h = t153 Tryz.prog x0_1 count1_1 h K := by kernel_rfl
theorem c153 (x0_1 : Value) (count1_1 : Value) (h : Heap) (K : Value -> Heap -> Prop) (H : t153 Tryz.prog x0_1 count1_1 h K) : callM Tryz.prog 153 #[x0_1, count1_1] h K :=
  callM_of_wpA mixed (fn := Tryz.f153) Tryz.func153 (c := bodyOf Tryz.f153) rfl (of_decide_eq_true (by kernel_rfl)) (anOf [(3, []), (15, []), (508, [8])]) 46 48 (by kernel_rfl) rfl [.tmp 4] (by kernel_rfl) (args := [x0_1, count1_1]) (by rw [e153]; exact H)
def t158 (P : Program) (x0_1 : Value) (y1_1 : Value) (h : Heap) (K : Value -> Heap -> Prop) : Prop :=
 condM (Value.bool false)
 (rop P (convert 154 169 x0_1) h fun s12 =>
 rop P (convert 154 169 y1_1) h fun s14 =>
 callM P 164 #[s12, s14] h fun s15 h1 =>
 pop P (Instr.extract s15 0) fun s16 =>
 pop P (Instr.extract s15 1) fun s17 =>
 rop P (convert 169 154 s16) h1 fun s19 =>
 rop P (convert 169 154 s17) h1 fun s21 =>
 K (.tuple #[s19, s21]) h1)
 (callM P 165 #[x0_1, y1_1] h fun s25 h2 =>
 pop P (Instr.extract s25 0) fun s26 =>
 pop P (Instr.extract s25 1) fun s27 =>
 K (.tuple #[s26, s27]) h2)
theorem e158 (x0_1 : Value) (y1_1 : Value) (h : Heap) (K : Value -> Heap -> Prop) : wpA Tryz.prog 30 (anOf []) (bodyOf Tryz.f158) 1 (fun A h => resA Tryz.prog A h K [.tmp 4, .tmp 5]) (fun _ _ _ => False) (fun A h => resA Tryz.prog A h K [.tmp 4, .tmp 5]) (aargs [x0_1, y1_1] 0) h = t158 Tryz.prog x0_1 y1_1 h K := by kernel_rfl
theorem c158 (x0_1 : Value) (y1_1 : Value) (h : Heap) (K : Value -> Heap -> Prop) (H : t158 Tryz.prog x0_1 y1_1 h K) : callM Tryz.prog 158 #[x0_1, y1_1] h K :=
  callM_of_wpA mixed (fn := Tryz.f158) Tryz.func158 (c := bodyOf Tryz.f158) rfl (of_decide_eq_true (by kernel_rfl)) (anOf []) 28 30 (by kernel_rfl) rfl [.tmp 4, .tmp 5] (by kernel_rfl) (args := [x0_1, y1_1]) (by rw [e158]; exact H)
def t164 (P : Program) (x0_1 : Value) (y1_1 : Value) (h : Heap) (K : Value -> Heap -> Prop) : Prop :=
 rop P (convert 169 82 x0_1) h fun s8 =>
 rop P (convert 169 82 y1_1) h fun s10 =>
 pop P (binA .mul 82 s8 s10) fun s11 =>
 pop P (binA .shr 82 s11 (Value.int IntKind.u64 32)) fun s13 =>
 rop P (convert 82 169 s13) h fun s14 =>
 rop P (convert 82 169 s11) h fun s16 =>
 K (.tuple #[s14, s16]) h
theorem e164 (x0_1 : Value) (y1_1 : Value) (h : Heap) (K : Value -> Heap -> Prop) : wpA Tryz.prog 17 (anOf []) (bodyOf Tryz.f164) 1 (fun A h => resA Tryz.prog A h K [.tmp 4, .tmp 5]) (fun _ _ _ => False) (fun A h => resA Tryz.prog A h K [.tmp 4, .tmp 5]) (aargs [x0_1, y1_1] 0) h = t164 Tryz.prog x0_1 y1_1 h K := by kernel_rfl
theorem c164 (x0_1 : Value) (y1_1 : Value) (h : Heap) (K : Value -> Heap -> Prop) (H : t164 Tryz.prog x0_1 y1_1 h K) : callM Tryz.prog 164 #[x0_1, y1_1] h K :=
  callM_of_wpA mixed (fn := Tryz.f164) Tryz.func164 (c := bodyOf Tryz.f164) rfl (of_decide_eq_true (by kernel_rfl)) (anOf []) 15 17 (by kernel_rfl) rfl [.tmp 4, .tmp 5] (by kernel_rfl) (args := [x0_1, y1_1]) (by rw [e164]; exact H)
def t165 (P : Program) (x0_1 : Value) (y1_1 : Value) (h : Heap) (K : Value -> Heap -> Prop) : Prop :=
 pop P (binA .and 82 x0_1 (Value.int IntKind.u64 4294967295)) fun s15 =>
 pop P (binA .shr 82 x0_1 (Value.int IntKind.u64 32)) fun s17 =>
 pop P (binA .and 82 y1_1 (Value.int IntKind.u64 4294967295)) fun s19 =>
 pop P (binA .shr 82 y1_1 (Value.int IntKind.u64 32)) fun s21 =>
 pop P (binA .mul 82 s15 s19) fun s24 =>
 pop P (binA .mul 82 s17 s19) fun s27 =>
 pop P (binA .shr 82 s24 (Value.int IntKind.u64 32)) fun s29 =>
 pop P (binA .add 82 s27 s29) fun s30 =>
 pop P (binA .and 82 s30 (Value.int IntKind.u64 4294967295)) fun s32 =>
 pop P (binA .shr 82 s30 (Value.int IntKind.u64 32)) fun s34 =>
 pop P (binA .mul 82 s15 s21) fun s38 =>
 pop P (binA .add 82 s32 s38) fun s39 =>
 pop P (binA .mul 82 s17 s21) fun s42 =>
 pop P (binA .add 82 s42 s34) fun s44 =>
 pop P (binA .shr 82 s39 (Value.int IntKind.u64 32)) fun s46 =>
 pop P (binA .add 82 s44 s46) fun s47 =>
 pop P (binA .mul 82 x0_1 y1_1) fun s50 =>
 K (.tuple #[s47, s50]) h
theorem e165 (x0_1 : Value) (y1_1 : Value) (h : Heap) (K : Value -> Heap -> Prop) : wpA Tryz.prog 51 (anOf []) (bodyOf Tryz.f165) 1 (fun A h => resA Tryz.prog A h K [.tmp 4, .tmp 5]) (fun _ _ _ => False) (fun A h => resA Tryz.prog A h K [.tmp 4, .tmp 5]) (aargs [x0_1, y1_1] 0) h = t165 Tryz.prog x0_1 y1_1 h K := by kernel_rfl
theorem c165 (x0_1 : Value) (y1_1 : Value) (h : Heap) (K : Value -> Heap -> Prop) (H : t165 Tryz.prog x0_1 y1_1 h K) : callM Tryz.prog 165 #[x0_1, y1_1] h K :=
  callM_of_wpA mixed (fn := Tryz.f165) Tryz.func165 (c := bodyOf Tryz.f165) rfl (of_decide_eq_true (by kernel_rfl)) (anOf []) 49 51 (by kernel_rfl) rfl [.tmp 4, .tmp 5] (by kernel_rfl) (args := [x0_1, y1_1]) (by rw [e165]; exact H)
end Go.Proofs.YtkjkfjkapbpgiaaGreatDoor
